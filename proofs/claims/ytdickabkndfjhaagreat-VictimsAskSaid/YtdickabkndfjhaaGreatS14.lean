/-
  The reference manager: what holds of its state after every script. Conditions: none.
-/
import Derived.Test.YtdickabkndfjhaaGreatS13
namespace Go.Fx.D
open Go Go.Fx
set_option linter.unusedVariables false
set_option linter.unusedSimpArgs false
def pAt(l:List MV)(label t:Int):Vec:=Ol ((l.filter λp=>p.Ll == label&&decide (p.From≤t)&&decide (t<p.Until)).map (·.Need))
theorem IW{l:List MV}(hl:l.length≤100000)(hb:∀p∈l,VB 1073741824 p.Need)(label t:Int):jJ l label t=some (pAt l label t):=by
 unfold jJ
 rw[jo (λv i=>(v,i)) l (λp=>p.Ll == label&&decide (p.From≤t)&&decide (t<p.Until)) (·.Need) (step:=j6 l label t) hl (λc hc _=>(hb c hc).mono (by omega)) ?_ ?_]
 ·rfl
 ·intro k hk v hv;unfold j6;rw[ah hk,ai hk]
  have hp:aD v l[k].Need=some (MF v l[k].Need):=
   mo (hv.mono (m:=200000000000000000) (by omega)) ((hb _ (Nq hk)).mono (by omega)) (by omega)
  simp only[cond_true,K_,hp]
  cases l[k].Ll == label<;>cases decide (l[k].From≤t)<;>cases decide (t<l[k].Until)<;>rfl
 ·intro v;unfold j6;rw[am];rfl
theorem KW{l:List MV}(hb:∀p∈l,VB 1073741824 p.Need)(label t:Int):VB (l.length*1073741824) (pAt l label t):=by
 have:=pD (n:=1073741824) (by omega) (l:=(l.filter λp=>p.Ll == label&&decide (p.From≤t)&&decide (t<p.Until)).map (·.Need)) (λv hv=>by obtain⟨c,hc,rfl⟩:=RA.1 hv;exact hb c (Ta.1 hc).1)
 refine this.mono ?_;rw[PI];have:=TP (λp:MV=>p.Ll == label&&decide (p.From≤t)&&decide (t<p.Until)) l;omega
theorem yF{l:List MV}(hl:l.length≤100000)(hb:∀p∈l,VB 1073741824 p.Need)(total:Vec){p:MV}(hp:VB 1073741824 p.Need)(t long:Int):Gv (gc l total p t long) λ_=>True:=by
 have one:∀t,aD (pAt l p.Ll t) p.Need=some (MF (pAt l p.Ll t) p.Need):=by
  intro t;have:=KW hb p.Ll t
  exact mo (this.mono (m:=200000000000000000) (by omega)) (hp.mono (by omega)) (by omega)
 unfold gc;rw[IW hl hb,K_,one,K_,mr,K_];refine ae (λ_=>aa trivial) λ_=>?_;refine ad (P:=λ_=>True) ?_ ?_
 ·refine az (λ(_:Unit) i=>i) l.length (λ_ _=>True) (step:=ia l total p t long) (by omega) ?_ ?_ (s:=()) trivial
  ·intro k hk _ _;unfold ia;rw[ah hk,cond_true,ai hk,K_];refine ad (P:=λ_=>True) ?_ λq _=>?_
   ·rw[IW hl hb,K_,one,K_,mr,K_]
    repeat' (first | exact⟨_,rfl,trivial⟩ | refine ae (λ_=>?_) (λ_=>?_))
   ·exact ae (λ_=>aa (.inr ⟨_,rfl,trivial⟩)) λ_=>aa (.inl ⟨(),rfl,trivial⟩)
  ·intro _ _;unfold ia;rw[am];exact aa ⟨_,rfl,trivial⟩
 ·rintro(q | q) _
  ·exact aa trivial
  ·exact aa trivial
theorem Hx{l:List MV}(hl:l.length≤100000)(hb:∀p∈l,VB 1073741824 p.Need)(total:Vec)(p:MV)(long:Int) :
  Gv (jY l total p long) λr=>r.2=0→VB 1073741824 p.Need∧(1≤long∧long≤1000)∧0≤r.1∧r.1+long≤1000000:=by
 have p15:∀n:Int,kS n=some (decide (0≤n)&&decide (n≤1073741824)):=λn=>vS n;unfold jY;refine ad (P:=λb=>b=false→VB 1073741824 p.Need∧(1≤long∧long≤1000)∧(0≤p.From∧p.From≤1000000)∧p.Until≤1000000) ?_ ?_
 ·refine ae (λ_=>aa (by simp)) λg1=>ae (λ_=>aa (by simp)) λg2=>ae (λ_=>aa (by simp)) λg3=>ae (λ_=>aa (by simp)) λg4=>ae (λ_=>aa (by simp)) λg5=>ae (λ_=>aa (by simp)) λg6=>?_
  rw[p15,K_]
  refine ae (λ_=>aa (by simp)) λh3=>?_
  rw[p15,K_];refine aa λh4=>?_;simp only[QdU,Ng,decide_eq_true_eq,decide_eq_false_iff_not]at h3 h4 g1 g2 g3 g4 g5 g6
  exact⟨⟨h3,h4⟩,⟨by omega,by omega⟩,⟨by omega,by omega⟩,by omega⟩
 ·intro b hb'
  refine ae (λ_=>aa (by simp)) λhbf=>?_
  obtain⟨hp,hlong,hfrom,huntil⟩:=hb' hbf
  refine ad (P:=λbest=>0≤best→best+long≤p.Until) ?_ λbest ZP=>ae (λ_=>aa (by simp)) λhn=>aa λ_=>?_
  rotate_left
  ·simp only[decide_eq_false_iff_not]at hn
   have:=ZP (by omega)
   exact⟨hp,hlong,by dsimp only;omega,by dsimp only;omega⟩
  refine jA (λt:Int×Int=>(-1≤t.2∧t.2≤l.length)∧(0≤t.1→t.1+long≤p.Until)) (λt=>(l.length - t.2).toNat) ?_ (by dsimp only;omega)
  rintro⟨best,i⟩ ⟨⟨h1,h2⟩,h3⟩;dsimp only at h1 h2 h3 ⊢;unfold nO;dsimp only;refine ae (λhlt=>?_) λ_=>aa (.inr ⟨_,rfl,h3⟩);simp only[decide_eq_true_eq]at hlt;refine ad (P:=λbest=>0≤best→best+long≤p.Until) ?_ λbest ZP=>?_
  ·refine ad (P:=λ_=>True) ?_ λt1 _=>?_
   ·refine ae (λhge=>?_) λ_=>aa trivial;simp only[decide_eq_true_eq]at hge;exact ad (cY (eh hge hlt)) λ_ _=>aa trivial
   ·refine ad (P:=λb=>b=true→0≤t1→t1+long≤p.Until) ?_ λq hq=>?_
    ·refine ae (λg1=>?_) λ_=>aa (by simp)
     refine ae (λg2=>?_) λ_=>aa (by simp)
     refine ae (λg3=>?_) λ_=>aa (by simp)
     simp only[decide_eq_true_eq]at g1 g2 g3
     rw[aj (by omega) (by omega)]at g3
     refine ae (λ_=>?_) λ_=>ae (λ_=>?_) λ_=>aa (by simp)
     ·exact ad (yF hl hb total hp t1 long) λ_ _=>aa λ_ _=>g3
     ·exact ad (yF hl hb total hp t1 long) λ_ _=>aa λ_ _=>g3
    ·exact ae (λe=>aa (hq e)) λ_=>aa h3
  ·refine aa (.inl ⟨(best,LC (i+1)),rfl,?_,?_⟩)
   ·rw[aj (x:=i+1) (by omega) (by omega)];dsimp only;exact⟨by omega,ZP⟩
   ·rw[aj (x:=i+1) (by omega) (by omega)];dsimp only;omega
theorem Gf{N:Nat}{s:JG}(h:Inv N s)(p:MV)(long:Int):Gv (lu s p long) λr=>Inv N r.1:=by
 have hpl:=h.pl;unfold lu;refine ad (P:=λ_=>True) ?_ λb _=>?_
 ·repeat' (first | exact⟨_,rfl,trivial⟩ | refine ae (λ_=>?_) (λ_=>?_))
 refine ae (λ_=>aa h) λ_=>?_
 refine ad (P:=λr=>match r with
  | .inl q=>Inv N q.1
  | .inr q=>∃k:Nat,q.2=(k:Int)∧k≤s.LJ.length∧(∀x∈s.LJ.take k,x.Id<p.Id)∧∀x∈s.LJ.drop k,p.Id<x.Id) ?_ ?_
 ·refine az (λ(t:JG×Int) i=>(t.1,t.2,i)) s.LJ.length (λj t=>∃k:Nat,t.2=(k:Int)∧k≤j∧(∀x∈s.LJ.take k,x.Id<p.Id)∧∀x∈(s.LJ.take j).drop k,p.Id<x.Id) (step:=iN s p) (by omega) ?_ ?_
   (s:=((⟨⟨[],[]⟩,[],[],[],[],[],0,0,0⟩:JG),(0:Int))) ⟨0,rfl,MO _,by simp,by simp⟩
  ·rintro j hj ⟨t,k0⟩ ⟨k,rfl,hk,h1,h2⟩;unfold iN;dsimp only;rw[ah hj,cond_true,ai hj,K_,K_]
   refine ad (P:=λr=>match r with
    | .inl q=>∃k:Nat,q.2=(k:Int)∧k≤j+1∧(∀x∈s.LJ.take k,x.Id<p.Id)∧∀x∈(s.LJ.take (j+1)).drop k,p.Id<x.Id
    | .inr q=>Inv N q.1) ?_ ?_
   ·refine ae (λ_=>aa h) λhne=>ae (λhlt=>aa ?_) λhge=>aa ?_
    ·simp only[decide_eq_true_eq]at hlt
     refine⟨j+1,by dsimp only;rw[aj (by omega) (by omega)];omega,MO _,λx hx=>?_,by simp⟩
     obtain⟨i,hi,rfl⟩:=UL hx;rw[Ox]at hi;rw[List.getElem_take];by_cases e:i=j
     ·subst e;exact hlt
     ·have:=QeH.1 h.ps i j (by omega) hj (by omega)
      omega
    ·simp only[decide_eq_false_iff_not]at hge
     have hne:s.LJ[j].Id≠p.Id:=by simpa using hne
     refine⟨k,rfl,by omega,h1,λx hx=>?_⟩
     rw[Ra hj,List.drop_append_of_le_length (by rw[Ox];omega)]at hx
     rcases N_.1 hx with hx | hx
     ·exact h2 x hx
     ·rw[Ld]at hx;subst hx;omega
   ·rintro(q | q) hq
    ·exact aa (.inl ⟨q,rfl,hq⟩)
    ·exact aa (.inr ⟨_,rfl,hq⟩)
  ·rintro⟨t,k0⟩ ⟨k,rfl,hk,h1,h2⟩;unfold iN;dsimp only;rw[am,cond_false];rw[RB]at h2;exact aa ⟨_,rfl,k,rfl,hk,h1,h2⟩
 ·rintro(q | ⟨t,k0⟩) hq
  ·exact aa hq
  ·obtain⟨k,e,hk,h1,h2⟩:=hq;dsimp only at e ⊢;subst e;refine ae (λ_=>aa h) λhlt=>ae (λ_=>aa h) λ_=>?_;simp only[decide_eq_false_iff_not]at hlt;rw[nX h.sb,K_]
   refine ad (Hx (by omega) (λp hp=>(h.pk p hp).1) _ p long) λr hr=>?_
   refine ae (λ_=>aa h) λhr0=>?_
   have hp:=hr (by simpa using hr0)
   refine ad (wH (by omega) (by omega) (by omega)) ?_
   rintro l1 rfl
   rw[ao (by simp;omega) (by omega),K_,ao (by simp;omega) (by omega),K_]
   refine ad (wH (by omega) (by omega) (by omega)) ?_
   rintro l2 rfl
   rw[ao (by simp;omega) (by omega),K_]
   refine aa ?_
   have e1:(k:Int).toNat=k:=by omega
   have e2:(s.LJ.length:Int).toNat=s.LJ.length:=by omega
   simp only[e1,e2,Qg_,QeC,PX,RB];refine⟨h.cf,h.nl,h.ns,h.nk,h.al,h.Rb,h.ak,h.cl,h.cs,λc hc=>?_,h.ss,h.sk,?_,?_,?_,h.now,h.ep,h.sq,h.en,h.sd.Xa,h.sd.S9,h.sd.slt,h.sd.Vq,h.sd.fit,h.sd.one⟩
   ·have:=h.ck c hc;exact⟨this.size,this.app,this.label,this.id⟩
   ·simp only[Lc,Ox,Rn,P5,Xb];omega
   ·refine QcX.2 ⟨QcX.2 ⟨h.ps.sublist (List.take_sublist _ _),by simp,?_⟩,h.ps.sublist (List.drop_sublist _ _),?_⟩
    ·intro x hx y hy;rw[Ld]at hy;subst hy;exact h1 x hx
    ·intro x hx y hy;rcases N_.1 hx with hx | hx
     ·have:=h1 x hx;have:=h2 y hy;omega
     ·rw[Ld]at hx;subst hx;exact h2 y hy
   ·intro x hx;rcases N_.1 hx with hx | hx
    ·rcases N_.1 hx with hx | hx
     ·exact h.pk x (QdM hx)
     ·rw[Ld]at hx;subst hx;obtain⟨k1,k2,k3,k4⟩:=hp;refine⟨k1,?_,?_⟩
      ·dsimp only;omega
      ·dsimp only;rw[aj (by omega) (by omega)];omega
    ·exact h.pk x (QgB hx)
theorem MJ.plans{N:Nat}{s:JG}(h:MJ Z9 N s){ps:List MV}(hs:ps.Sublist s.LJ):Inv N ⟨s.Lg,s.Lu,s.Lv,s.Kl,s.LH,ps,s.Now,s.L8,s.Seq⟩:=
 ⟨h.cf,h.nl,h.ns,h.nk,h.al,h.Rb,h.ak,h.cl,h.cs,λc hc=>⟨(h.ck c hc).size,(h.ck c hc).app,(h.ck c hc).label,(h.ck c hc).id⟩,h.ss,h.sk,P6 hs.length_le h.pl,h.ps.sublist hs,λp hp=>h.pk p (hs.subset hp),h.now,h.ep,h.sq,h.en,h.sd.Xa,h.sd.S9,h.sd.slt,h.sd.Vq,h.sd.fit,h.sd.one⟩
theorem JX{N:Nat}{s:JG}(h:Inv N s)(i:Int):Gv (kf s i) λr=>Inv N r.1:=by
 have hpl:=h.pl;unfold kf
 have e:=bQ (λ(l:List MV) i=>(l,i)) s.LJ (λp=>p.Id != i) id (step:=gX s i) (by omega) ?_ ?_
 ·rw[e,K_,QfA];exact ae (λ_=>aa h) λ_=>aa (h.plans QdC)
 ·intro k hk l hl;unfold gX;dsimp only;rw[ah hk,cond_true,ai hk,K_,K_]
  cases hp:(s.LJ[k].Id != i)
  ·rfl
  ·rw[cond_true,ao (by simp;omega) (by omega)]
   rfl
 ·intro l;unfold gX;rw[am];rfl
end Go.Fx.D

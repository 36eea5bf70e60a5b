/-
  The reference manager: what holds of its state after every script. Conditions: none.
-/
import Derived.Test.YtdickabkndfjhaaGreatS13
namespace Go.Fx.D
open Go Go.Fx
set_option linter.unusedVariables false
set_option linter.unusedSimpArgs false
def pAt(l:List MW)(label t:Int):Vec:=Oh ((l.filter λp=>p.Ll == label&&decide (p.From≤t)&&decide (t<p.Until)).map (·.Need))
theorem IM{l:List MW}(hl:l.length≤100000)(hb:∀p∈l,VB 1073741824 p.Need)(label t:Int):jn l label t=some (pAt l label t):=by
 unfold jn
 rw[iU (λv i=>(v,i)) l (λp=>p.Ll == label&&decide (p.From≤t)&&decide (t<p.Until)) (·.Need) (step:=jA l label t) hl (λc hc _=>(hb c hc).mono (by omega)) ?_ ?_]
 ·rfl
 ·intro k hk v hv;unfold jA;rw[ah hk,ai hk]
  have hp:aD v l[k].Need=some (MB v l[k].Need):=
   lU (hv.mono (m:=200000000000000000) (by omega)) ((hb _ (NQ hk)).mono (by omega)) (by omega)
  simp only[cond_true,K8,hp]
  cases l[k].Ll == label<;>cases decide (l[k].From≤t)<;>cases decide (t<l[k].Until)<;>rfl
 ·intro v;unfold jA;rw[ar];rfl
theorem KF{l:List MW}(hb:∀p∈l,VB 1073741824 p.Need)(label t:Int):VB (l.length*1073741824) (pAt l label t):=by
 have:=oS (n:=1073741824) (by omega) (l:=(l.filter λp=>p.Ll == label&&decide (p.From≤t)&&decide (t<p.Until)).map (·.Need)) (λv hv=>by obtain⟨c,hc,rfl⟩:=Ra.1 hv;exact hb c (PL.1 hc).1)
 refine this.mono ?_;rw[Py];have:=Um (λp:MW=>p.Ll == label&&decide (p.From≤t)&&decide (t<p.Until)) l;omega
theorem xX{l:List MW}(hl:l.length≤100000)(hb:∀p∈l,VB 1073741824 p.Need)(total:Vec){p:MW}(hp:VB 1073741824 p.Need)(t long:Int):Gv (fZ l total p t long) λ_=>True:=by
 have one:∀t,aD (pAt l p.Ll t) p.Need=some (MB (pAt l p.Ll t) p.Need):=by
  intro t;have:=KF hb p.Ll t
  exact lU (this.mono (m:=200000000000000000) (by omega)) (hp.mono (by omega)) (by omega)
 unfold fZ;rw[IM hl hb,K8,one,K8,lW,K8];refine ae (λ_=>aa trivial) λ_=>?_;refine ad (P:=λ_=>True) ?_ ?_
 ·refine ay (λ(_:Unit) i=>i) l.length (λ_ _=>True) (step:=gp l total p t long) (by omega) ?_ ?_ (s:=()) trivial
  ·intro k hk _ _;unfold gp;rw[ah hk,cond_true,ai hk,K8];refine ad (P:=λ_=>True) ?_ λq _=>?_
   ·rw[IM hl hb,K8,one,K8,lW,K8]
    repeat' (first | exact⟨_,rfl,trivial⟩ | refine ae (λ_=>?_) (λ_=>?_))
   ·exact ae (λ_=>aa (.inr ⟨_,rfl,trivial⟩)) λ_=>aa (.inl ⟨(),rfl,trivial⟩)
  ·intro _ _;unfold gp;rw[ar];exact aa ⟨_,rfl,trivial⟩
 ·rintro(q | q) _
  ·exact aa trivial
  ·exact aa trivial
theorem GE{l:List MW}(hl:l.length≤100000)(hb:∀p∈l,VB 1073741824 p.Need)(total:Vec)(p:MW)(long:Int) :
  Gv (jt l total p long) λr=>r.2=0→VB 1073741824 p.Need∧(1≤long∧long≤1000)∧0≤r.1∧r.1+long≤1000000:=by
 have p15:∀n:Int,kc n=some (decide (0≤n)&&decide (n≤1073741824)):=λn=>vn n;unfold jt;refine ad (P:=λb=>b=false→VB 1073741824 p.Need∧(1≤long∧long≤1000)∧(0≤p.From∧p.From≤1000000)∧p.Until≤1000000) ?_ ?_
 ·refine ae (λ_=>aa (by simp)) λg1=>ae (λ_=>aa (by simp)) λg2=>ae (λ_=>aa (by simp)) λg3=>ae (λ_=>aa (by simp)) λg4=>ae (λ_=>aa (by simp)) λg5=>ae (λ_=>aa (by simp)) λg6=>?_
  rw[p15,K8]
  refine ae (λ_=>aa (by simp)) λh3=>?_
  rw[p15,K8];refine aa λh4=>?_;simp only[QdU,Np,decide_eq_true_eq,decide_eq_false_iff_not]at h3 h4 g1 g2 g3 g4 g5 g6
  exact⟨⟨h3,h4⟩,⟨by omega,by omega⟩,⟨by omega,by omega⟩,by omega⟩
 ·intro b hb'
  refine ae (λ_=>aa (by simp)) λhbf=>?_
  obtain⟨hp,hlong,hfrom,huntil⟩:=hb' hbf
  refine ad (P:=λbest=>0≤best→best+long≤p.Until) ?_ λbest Zx=>ae (λ_=>aa (by simp)) λhn=>aa λ_=>?_
  rotate_left
  ·simp only[decide_eq_false_iff_not]at hn
   have:=Zx (by omega)
   exact⟨hp,hlong,by dsimp only;omega,by dsimp only;omega⟩
  refine gD (λt:Int×Int=>(-1≤t.2∧t.2≤l.length)∧(0≤t.1→t.1+long≤p.Until)) (λt=>(l.length - t.2).toNat) ?_ (by dsimp only;omega)
  rintro⟨best,i⟩ ⟨⟨h1,h2⟩,h3⟩;dsimp only at h1 h2 h3 ⊢;unfold m6;dsimp only;refine ae (λhlt=>?_) λ_=>aa (.inr ⟨_,rfl,h3⟩);simp only[decide_eq_true_eq]at hlt;refine ad (P:=λbest=>0≤best→best+long≤p.Until) ?_ λbest Zx=>?_
  ·refine ad (P:=λ_=>True) ?_ λt1 _=>?_
   ·refine ae (λhge=>?_) λ_=>aa trivial;simp only[decide_eq_true_eq]at hge;exact ad (cL (eB hge hlt)) λ_ _=>aa trivial
   ·refine ad (P:=λb=>b=true→0≤t1→t1+long≤p.Until) ?_ λq hq=>?_
    ·refine ae (λg1=>?_) λ_=>aa (by simp)
     refine ae (λg2=>?_) λ_=>aa (by simp)
     refine ae (λg3=>?_) λ_=>aa (by simp)
     simp only[decide_eq_true_eq]at g1 g2 g3
     rw[am (by omega) (by omega)]at g3
     refine ae (λ_=>?_) λ_=>ae (λ_=>?_) λ_=>aa (by simp)
     ·exact ad (xX hl hb total hp t1 long) λ_ _=>aa λ_ _=>g3
     ·exact ad (xX hl hb total hp t1 long) λ_ _=>aa λ_ _=>g3
    ·exact ae (λe=>aa (hq e)) λ_=>aa h3
  ·refine aa (.inl ⟨(best,Lx (i+1)),rfl,?_,?_⟩)
   ·rw[am (x:=i+1) (by omega) (by omega)];dsimp only;exact⟨by omega,Zx⟩
   ·rw[am (x:=i+1) (by omega) (by omega)];dsimp only;omega
theorem Ha{N:Nat}{s:JF}(h:Inv N s)(p:MW)(long:Int):Gv (kO s p long) λr=>Inv N r.1:=by
 have hpl:=h.pl;unfold kO;refine ad (P:=λ_=>True) ?_ λb _=>?_
 ·repeat' (first | exact⟨_,rfl,trivial⟩ | refine ae (λ_=>?_) (λ_=>?_))
 refine ae (λ_=>aa h) λ_=>?_
 refine ad (P:=λr=>match r with
  | .inl q=>Inv N q.1
  | .inr q=>∃k:Nat,q.2=(k:Int)∧k≤s.LU.length∧(∀x∈s.LU.take k,x.Id<p.Id)∧∀x∈s.LU.drop k,p.Id<x.Id) ?_ ?_
 ·refine ay (λ(t:JF×Int) i=>(t.1,t.2,i)) s.LU.length (λj t=>∃k:Nat,t.2=(k:Int)∧k≤j∧(∀x∈s.LU.take k,x.Id<p.Id)∧∀x∈(s.LU.take j).drop k,p.Id<x.Id) (step:=iK s p) (by omega) ?_ ?_
   (s:=((⟨⟨[],[]⟩,[],[],[],[],[],0,0,0⟩:JF),(0:Int))) ⟨0,rfl,MN _,by simp,by simp⟩
  ·rintro j hj ⟨t,k0⟩ ⟨k,rfl,hk,h1,h2⟩;unfold iK;dsimp only;rw[ah hj,cond_true,ai hj,K8,K8]
   refine ad (P:=λr=>match r with
    | .inl q=>∃k:Nat,q.2=(k:Int)∧k≤j+1∧(∀x∈s.LU.take k,x.Id<p.Id)∧∀x∈(s.LU.take (j+1)).drop k,p.Id<x.Id
    | .inr q=>Inv N q.1) ?_ ?_
   ·refine ae (λ_=>aa h) λhne=>ae (λhlt=>aa ?_) λhge=>aa ?_
    ·simp only[decide_eq_true_eq]at hlt
     refine⟨j+1,by dsimp only;rw[am (by omega) (by omega)];omega,MN _,λx hx=>?_,by simp⟩
     obtain⟨i,hi,rfl⟩:=Ul hx;rw[Oy]at hi;rw[List.getElem_take];by_cases e:i=j
     ·subst e;exact hlt
     ·have:=QfD.1 h.ps i j (by omega) hj (by omega)
      omega
    ·simp only[decide_eq_false_iff_not]at hge
     have hne:s.LU[j].Id≠p.Id:=by simpa using hne
     refine⟨k,rfl,by omega,h1,λx hx=>?_⟩
     rw[R3 hj,List.drop_append_of_le_length (by rw[Oy];omega)]at hx
     rcases OB.1 hx with hx | hx
     ·exact h2 x hx
     ·rw[Lb]at hx;subst hx;omega
   ·rintro(q | q) hq
    ·exact aa (.inl ⟨q,rfl,hq⟩)
    ·exact aa (.inr ⟨_,rfl,hq⟩)
  ·rintro⟨t,k0⟩ ⟨k,rfl,hk,h1,h2⟩;unfold iK;dsimp only;rw[ar,cond_false];rw[Sq]at h2;exact aa ⟨_,rfl,k,rfl,hk,h1,h2⟩
 ·rintro(q | ⟨t,k0⟩) hq
  ·exact aa hq
  ·obtain⟨k,e,hk,h1,h2⟩:=hq;dsimp only at e ⊢;subst e;refine ae (λ_=>aa h) λhlt=>ae (λ_=>aa h) λ_=>?_;simp only[decide_eq_false_iff_not]at hlt;rw[o0 h.sb,K8]
   refine ad (GE (by omega) (λp hp=>(h.pk p hp).1) _ p long) λr hr=>?_
   refine ae (λ_=>aa h) λhr0=>?_
   have hp:=hr (by simpa using hr0)
   refine ad (vP (by omega) (by omega) (by omega)) ?_
   rintro l1 rfl
   rw[aj (by simp;omega) (by omega),K8,aj (by simp;omega) (by omega),K8]
   refine ad (vP (by omega) (by omega) (by omega)) ?_
   rintro l2 rfl
   rw[aj (by simp;omega) (by omega),K8]
   refine aa ?_
   have e1:(k:Int).toNat=k:=by omega
   have e2:(s.LU.length:Int).toNat=s.LU.length:=by omega
   simp only[e1,e2,QgA,Z5,PE,Sq];refine⟨h.cf,h.nl,h.ns,h.nk,h.al,h.Px,h.ak,h.cl,h.cs,λc hc=>?_,h.ss,h.sk,?_,?_,?_,h.now,h.ep,h.sq,h.en,h.sd.Xv,h.sd.Ta,h.sd.slt,h.sd.Vr,h.sd.fit,h.sd.one⟩
   ·have:=h.ck c hc;exact⟨this.size,this.app,this.label,this.id,this.R6⟩
   ·simp only[La,Oy,Ro,PN,WV];omega
   ·refine QdN.2 ⟨QdN.2 ⟨h.ps.sublist (List.take_sublist _ _),by simp,?_⟩,h.ps.sublist (List.drop_sublist _ _),?_⟩
    ·intro x hx y hy;rw[Lb]at hy;subst hy;exact h1 x hx
    ·intro x hx y hy;rcases OB.1 hx with hx | hx
     ·have:=h1 x hx;have:=h2 y hy;omega
     ·rw[Lb]at hx;subst hx;exact h2 y hy
   ·intro x hx;rcases OB.1 hx with hx | hx
    ·rcases OB.1 hx with hx | hx
     ·exact h.pk x (QeK hx)
     ·rw[Lb]at hx;subst hx;obtain⟨k1,k2,k3,k4⟩:=hp;refine⟨k1,?_,?_⟩
      ·dsimp only;omega
      ·dsimp only;rw[am (by omega) (by omega)];omega
    ·exact h.pk x (QgC hx)
theorem MI.plans{N:Nat}{s:JF}(h:MI ZN N s){ps:List MW}(hs:ps.Sublist s.LU):Inv N ⟨s.Lf,s.Ls,s.Lr,s.Lc,s.LG,ps,s.Now,s.L9,s.Seq⟩:=
 ⟨h.cf,h.nl,h.ns,h.nk,h.al,h.Px,h.ak,h.cl,h.cs,λc hc=>⟨(h.ck c hc).size,(h.ck c hc).app,(h.ck c hc).label,(h.ck c hc).id,(h.ck c hc).R6⟩,h.ss,h.sk,Rb hs.length_le h.pl,h.ps.sublist hs,λp hp=>h.pk p (hs.subset hp),h.now,h.ep,h.sq,h.en,h.sd.Xv,h.sd.Ta,h.sd.slt,h.sd.Vr,h.sd.fit,h.sd.one⟩
theorem JT{N:Nat}{s:JF}(h:Inv N s)(i:Int):Gv (ko s i) λr=>Inv N r.1:=by
 have hpl:=h.pl;unfold ko
 have e:=bU (λ(l:List MW) i=>(l,i)) s.LU (λp=>p.Id != i) id (step:=gM s i) (by omega) ?_ ?_
 ·rw[e,K8,Z0];exact ae (λ_=>aa h) λ_=>aa (h.plans Wh)
 ·intro k hk l hl;unfold gM;dsimp only;rw[ah hk,cond_true,ai hk,K8,K8]
  cases hp:(s.LU[k].Id != i)
  ·rfl
  ·rw[cond_true,aj (by simp;omega) (by omega)]
   rfl
 ·intro l;unfold gM;rw[ar];rfl
end Go.Fx.D

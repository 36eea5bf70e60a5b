/-
  The reference manager: what holds of its state after every script. Conditions: none.
-/
import Derived.Test.YtdickabkndfjhaaGreatS5
namespace Go.Fx.D
open Go Go.Fx
set_option linter.unusedVariables false
set_option linter.unusedSimpArgs false
def VB(n:Int)(v:Vec):Prop:=(0≤v.Mem∧v.Mem≤n)∧0≤v.LA∧v.LA≤n
def Ol(l:List Vec):Vec:=⟨(l.map (·.Mem)).sum,(l.map (·.LA)).sum⟩
def MF(a b:Vec):Vec:=⟨a.Mem+b.Mem,a.LA+b.LA⟩
theorem Bd:Ol []=⟨0,0⟩:=rfl
theorem H7(l m:List Vec):Ol (l++m)=MF (Ol l) (Ol m):=by simp[Ol,MF]
theorem Ig(v:Vec):Ol [v]=v:=by simp[Ol]
theorem oA(v:Vec)(l:List Vec):Ol (v::l)=MF v (Ol l):=by simp[Ol,MF]
theorem pD{n:Int}(hn:0≤n){l:List Vec}(h:∀v∈l,VB n v):VB (l.length*n) (Ol l):=by
 induction l with
 | nil=>simp[Ol,VB]
 | cons v l ih=>
  have h1:=ih (λv hv=>h v (by simp[hv]))
  have h2:=h v (by simp)
  rw[oA];unfold VB MF at *;simp only[P5,Int.natCast_add,Int.add_mul];omega
theorem mo{a b:Vec}{n:Int}(ha:VB n a)(hb:VB n b)(hn:n≤4000000000000000000):aD a b=some (MF a b):=by
 unfold VB at *;unfold aD MF
 rw[aj (by omega) (by omega),aj (by omega) (by omega)]
theorem VB.mono{n m:Int}{v:Vec}(h:VB n v)(hm:n≤m):VB m v:=by unfold VB at *;omega
theorem v5{n m:Int}{a b:Vec}(ha:VB n a)(hb:VB m b):VB (n+m) (MF a b):=by unfold VB MF at *;dsimp only;omega
theorem jo{α τ : Type}(mk:Vec→Int→τ)(l:List α)(p:α→Bool)(v:α→Vec){step:τ→Option (τ ⊕ Vec)}(hn:l.length≤100000)(hb:∀x∈l,p x=true→VB 1099511627776 (v x))
  (h1:∀k (hk:k<l.length) s,VB (1099511627776*k) s→step (mk s (k:Int))=some (.inl (mk (if p l[k]=true then MF s (v l[k])else s) (LC ((k:Int)+1)))))
  (h2:∀s,step (mk s (l.length:Int))=some (.inr s)):loop step (mk ⟨0,0⟩ 0)=some (Ol ((l.filter p).map v)):=by
 have h:=(bF mk l (λs x=>if p x=true then MF s (v x)else s) (λk s=>VB (1099511627776*k) s) (λs=>s) (by omega) (step:=step) ?_ (λs _=>h2 s) (s:=(⟨0,0⟩:Vec)) (by simp[VB])).1
 ·rw[h]
  congr 1
  have key:∀(l:List α)(z:Vec),l.foldl (λs x=>if p x=true then MF s (v x)else s) z=MF z (Ol ((l.filter p).map v)):=by
   intro l
   induction l with
   | nil=>intro z;simp[Ol,MF]
   | cons x l ih=>
    intro z;rw[TN,ih,Xc];split
    ·rw[Nr,oA];simp only[MF];congr 1<;>omega
    ·rfl
  rw[key];simp[MF]
 ·intro k hk s hs;refine⟨h1 k hk s hs,?_⟩
  show VB _ (if p l[k]=true then MF s (v l[k])else s)
  by_cases hp:p l[k]=true
  ·have:=hb _ (Nq hk) hp;rw[if_pos hp];unfold VB MF at *;dsimp only;omega
  ·rw[if_neg hp];unfold VB at *;omega
structure SB(s:JG):Prop where
 z:M4 s
 cf:Pb s.Lg
 nc:∀n∈s.Lu,VB 1073741824 n.Cap
 cs:∀c∈s.Kl,VB 1073741824 c.LY
 pn:∀p∈s.LJ,VB 1073741824 p.Need
 aq:∀a∈s.Lv,a.Ls.length≤1000000
 al:∀a∈s.Lv,a.Mq.length≤100
 ak:∀a∈s.Lv,∀x∈a.Mq,VB 1073741824 x.LY∧0≤x.ME∧x.ME≤50
def jN(leaf p:Str):Bool:=(Ov leaf).contains p
theorem Az{leaf:Str}(h:leaf.length≤1000000)(p:Str):fA leaf p=some (jN leaf p):=by
 unfold fA;have hl:=uT leaf;rw[DD h,K_]
 have e:=eT (λi=>i) (Ov leaf) (λq=>q == p) (λq=>(.inl true:Bool ⊕ Unit)) (.inr ()) (step:=dz p (Ov leaf)) (by omega) ?_ ?_ ?_
 ·rw[e];unfold jN
  cases hf:(Ov leaf).find? λq=>q == p with
  | none=>
   have:(Ov leaf).contains p=false:=by rw[Bool.eq_false_iff];intro hc;rw[YI]at hc;have:=QdJ.1 hf p hc;simp at this
   rw[this];rfl
  | some q=>
   have h1:=QeG hf;have h2:=QgM hf
   have:q=p:=by simpa using h2
   subst this;have:(Ov leaf).contains q=true:=YI.2 h1;rw[this];rfl
 ·intro k hk hp;unfold dz;rw[ah hk,aC hk];simp only[cond_true,K_,La hk,hp,cond_false]
 ·intro k hk hp;unfold dz;rw[ah hk,aC hk];simp only[cond_true,K_,La hk,hp]
 ·unfold dz;rw[am];rfl
def Ur(s:JG)(Lf:Str)(label:Int)(all:Bool)(user:Int)(c:Lx):Bool:=
 (M9 s c.LM).elim false λa=>c.Ll == label&&jN a.Ls Lf&&(all||a.User == user)
def MQ(s:JG)(Lf:Str)(label:Int)(all:Bool)(user:Int):Vec:=Ol ((s.Kl.filter (Ur s Lf label all user)).map (·.LY))
theorem B6{s:JG}(h:SB s)(Lf:Str)(label:Int)(all:Bool)(user:Int):go s Lf label all user=some (MQ s Lf label all user):=by
 unfold go
 rw[jo (λv i=>(v,i)) s.Kl (Ur s Lf label all user) (·.LY) (step:=ie s Lf label all user) h.z.c (λc hc _=>(h.cs c hc).mono (by omega)) ?_ ?_]
 ·rfl
 ·intro k hk v hv;unfold ie;rw[ah hk,ai hk];simp only[cond_true,K_];rw[dJ h.z]
  have hp:aD v s.Kl[k].LY=some (MF v s.Kl[k].LY):=by
   have:=h.z.c
   exact mo (hv.mono (m:=200000000000000000) (by omega)) ((h.cs _ (Nq hk)).mono (by omega)) (by omega)
  rw[hp];unfold Ur
  cases ha:M9 s s.Kl[k].LM with
  | none=>simp
  | some a=>
   have hq:=h.aq a (nT (id:=λx:LM=>x.Id) ha).1;simp only[Option.elim_some,K_,cond_true];rw[Az hq];simp only[K_]
   rcases QfE (jN a.Ls Lf)with hb | hb<;>simp only[hb]<;>cases s.Kl[k].Ll == label<;>cases all<;>cases a.User == user<;>rfl
 ·intro v;unfold ie;rw[am];rfl
theorem gL{s:JG}(h:SB s)(Lf:Str)(label:Int):aY s Lf label=some (MQ s Lf label true 0):=by unfold aY;rw[B6 h];rfl
theorem BT{s:JG}(h:SB s)(Lf:Str)(label user:Int):fU s Lf label user=some (MQ s Lf label false user):=by unfold fU;rw[B6 h];rfl
theorem xS{s:JG}(h:SB s)(Lf:Str)(label:Int)(all:Bool)(user:Int):VB (s.Kl.length*1073741824) (MQ s Lf label all user):=by
 have:=pD (n:=1073741824) (by omega) (l:=(s.Kl.filter (Ur s Lf label all user)).map (·.LY)) (λv hv=>by obtain⟨c,hc,rfl⟩:=RA.1 hv;exact h.cs c (Ta.1 hc).1)
 refine this.mono ?_;rw[PI];have:=TP (Ur s Lf label all user) s.Kl;omega
def gk(s:JG)(label:Int):Vec:=Ol ((s.Lu.filter λn=>n.Up&&n.Ll == label).map (·.Cap))
theorem nX{s:JG}(h:SB s)(label:Int):cb s label=some (gk s label):=by
 unfold cb
 rw[jo (λv i=>(v,i)) s.Lu (λn=>n.Up&&n.Ll == label) (·.Cap) (step:=gS s label) h.z.n (λc hc _=>(h.nc c hc).mono (by omega)) ?_ ?_]
 ·rfl
 ·intro k hk v hv;unfold gS;rw[ah hk,ai hk]
  have hp:aD v s.Lu[k].Cap=some (MF v s.Lu[k].Cap):=by
   have:=h.z.n
   exact mo (hv.mono (m:=200000000000000000) (by omega)) ((h.nc _ (Nq hk)).mono (by omega)) (by omega)
  simp only[cond_true,K_,hp]
  cases s.Lu[k].Up<;>cases s.Lu[k].Ll == label<;>rfl
 ·intro v;unfold gS;rw[am];rfl
theorem mR{s:JG}(h:SB s)(label:Int):VB (s.Lu.length*1073741824) (gk s label):=by
 have:=pD (n:=1073741824) (by omega) (l:=(s.Lu.filter λn=>n.Up&&n.Ll == label).map (·.Cap)) (λv hv=>by obtain⟨c,hc,rfl⟩:=RA.1 hv;exact h.nc c (Ta.1 hc).1)
 refine this.mono ?_;rw[PI];have:=TP (λn:LG=>n.Up&&n.Ll == label) s.Lu;omega
def Xl(s:JG)(label:Int):Vec:=Ol ((s.LJ.filter λp=>p.Ll == label&&decide (p.From≤s.Now)&&decide (s.Now<p.Until)).map (·.Need))
theorem I3{s:JG}(h:SB s)(label:Int):lm s label=some (Xl s label):=by
 unfold lm
 rw[jo (λv i=>(v,i)) s.LJ (λp=>p.Ll == label&&decide (p.From≤s.Now)&&decide (s.Now<p.Until)) (·.Need) (step:=jn s label) h.z.p (λc hc _=>(h.pn c hc).mono (by omega)) ?_ ?_]
 ·rfl
 ·intro k hk v hv;unfold jn;rw[ah hk,ai hk]
  have hp:aD v s.LJ[k].Need=some (MF v s.LJ[k].Need):=by
   have:=h.z.p
   exact mo (hv.mono (m:=200000000000000000) (by omega)) ((h.pn _ (Nq hk)).mono (by omega)) (by omega)
  simp only[cond_true,K_,hp]
  cases s.LJ[k].Ll == label<;>cases decide (s.LJ[k].From≤s.Now)<;>cases decide (s.Now<s.LJ[k].Until)<;>rfl
 ·intro v;unfold jn;rw[am];rfl
theorem Ke{s:JG}(h:SB s)(label:Int):VB (s.LJ.length*1073741824) (Xl s label):=by
 have:=pD (n:=1073741824) (by omega) (l:=(s.LJ.filter λp=>p.Ll == label&&decide (p.From≤s.Now)&&decide (s.Now<p.Until)).map (·.Need)) (λv hv=>by obtain⟨c,hc,rfl⟩:=RA.1 hv;exact h.pn c (Ta.1 hc).1)
 refine this.mono ?_;rw[PI];have:=TP (λp:MV=>p.Ll == label&&decide (p.From≤s.Now)&&decide (s.Now<p.Until)) s.LJ;omega
def jD(s:JG)(i:Int):Vec:=Ol ((s.Kl.filter λc=>c.LG == i).map (·.LY))
theorem AG{s:JG}(h:SB s)(i:Int):iI s i=some (jD s i):=by
 unfold iI
 rw[jo (λv i=>(v,i)) s.Kl (λc=>c.LG == i) (·.LY) (step:=jg s i) h.z.c (λc hc _=>(h.cs c hc).mono (by omega)) ?_ ?_]
 ·rfl
 ·intro k hk v hv;unfold jg;rw[ah hk,ai hk]
  have hp:aD v s.Kl[k].LY=some (MF v s.Kl[k].LY):=by
   have:=h.z.c
   exact mo (hv.mono (m:=200000000000000000) (by omega)) ((h.cs _ (Nq hk)).mono (by omega)) (by omega)
  simp only[cond_true,K_,hp]
  cases s.Kl[k].LG == i<;>rfl
 ·intro v;unfold jg;rw[am];rfl
theorem H3{s:JG}(h:SB s)(i:Int):VB (s.Kl.length*1073741824) (jD s i):=by
 have:=pD (n:=1073741824) (by omega) (l:=(s.Kl.filter λc=>c.LG == i).map (·.LY)) (λv hv=>by obtain⟨c,hc,rfl⟩:=RA.1 hv;exact h.cs c (Ta.1 hc).1)
 refine this.mono ?_;rw[PI];have:=TP (λc:Lx=>c.LG == i) s.Kl;omega
def UN(a b:Vec):Vec:=⟨imax (a.Mem - b.Mem) 0,imax (a.LA - b.LA) 0⟩
theorem CC{a b:Vec}(ha:VB 4000000000000000000 a)(hb:VB 4000000000000000000 b):iv a b=some (UN a b):=by
 unfold VB at *;unfold iv UN
 rw[aj (by omega) (by omega),aj (by omega) (by omega)]
def RL(a b:Vec):Bool:=decide (a.Mem≤b.Mem)&&decide (a.LA≤b.LA)
theorem mr(a b:Vec):aW a b=some (RL a b):=by
 unfold aW RL
 cases decide (a.Mem≤b.Mem)<;>rfl
def VR(s:JG)(i:Int):Vec:=match l_ s i with
 | some n=>if n.Up=true then UN n.Cap (jD s i)else⟨0,0⟩
 | none=>⟨0,0⟩
theorem Cp{s:JG}(h:SB s)(i:Int):ir s i=some (VR s i):=by
 unfold ir VR;rw[js h.z]
 cases hn:l_ s i with
 | none=>rfl
 | some n=>
  have hc:=h.nc n (nT (id:=λx:LG=>x.Id) hn).1;have:=h.z.c;simp only[Option.elim_some,K_,PG,cond_false]
  cases hu:n.Up with
  | false=>rfl
  | true=>
   simp only[PG,cond_false,if_true]
   rw[AG h,K_,CC (hc.mono (by omega)) ((H3 h i).mono (by omega))]
   rfl
end Go.Fx.D

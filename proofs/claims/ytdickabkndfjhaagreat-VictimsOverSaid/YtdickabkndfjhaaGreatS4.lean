/-
  The reference manager: what holds of its state after every script. Conditions: none.
-/
import Derived.Test.YtdickabkndfjhaaGreatS3
namespace Go.Fx.D
open Go Go.Fx
set_option linter.unusedVariables false
set_option linter.unusedSimpArgs false
theorem FI{s:Str}(c:Int)(h:s.length≤1000000):Gv (jk s c) λl=>l.length≤s.length+1∧∀x∈l,x.length≤s.length∧∀b∈x,b∈s:=by
 unfold jk;refine ad (P:=λr=>r.1.length≤s.length∧(∀x∈r.1,x.length≤s.length∧∀b∈x,b∈s)∧0≤r.2) ?_ ?_
 ·refine ay (σ:=List Str×Int) (λt i=>(t.1,t.2,i)) s.length (λk t=>t.1.length≤k∧(∀x∈t.1,x.length≤s.length∧∀b∈x,b∈s)∧0≤t.2∧t.2≤(k:Int)) (by omega) ?_ ?_ (s:=([],0)) (by simp)
  ·rintro k hk ⟨l,a⟩ ⟨h1,h2,h3,h4⟩;dsimp only at h1 h2 h3 h4;unfold lY;dsimp only;rw[ah hk,ai hk];simp only[cond_true,K8];refine ad (P:=λ(t:List Str×Int)=>t.1.length≤k+1∧(∀x∈t.1,x.length≤s.length∧∀b∈x,b∈s)∧0≤t.2∧t.2≤((k+1:Nat):Int)) ?_ (λt ht=>aa (.inl ⟨t,rfl,ht⟩))
   refine ae (λ_=>?_) (λ_=>aa ⟨by dsimp only;omega,h2,h3,by dsimp only;omega⟩)
   refine ad (ue h3 h4 (by omega)) ?_
   rintro m ⟨hm,hmm⟩
   rw[aj (by simp;omega) (by omega)]
   refine aa ⟨by simp;omega,?_,by rw[am (by omega) (by omega)];omega,by rw[am (by omega) (by omega)];omega⟩
   intro x hx;rcases OB.1 hx with hx | hx
   ·exact h2 x hx
   ·rw[Lb]at hx;subst hx;exact⟨by omega,hmm⟩
  ·rintro⟨l,a⟩ ⟨h1,h2,h3,h4⟩;unfold lY;dsimp only;rw[ar];exact aa ⟨_,rfl,h1,h2,h3⟩
 ·rintro⟨l,a⟩ ⟨h1,h2,h3⟩;dsimp only at h1 h2 h3 ⊢;refine ad (P:=λl=>l.length≤s.length+1∧∀x∈l,x.length≤s.length∧∀b∈x,b∈s) ?_ (λl hl=>aa hl)
  refine ae (λe=>?_) (λ_=>aa ⟨by omega,h2⟩)
  have e:=of_decide_eq_true e
  refine ad (ue h3 (by omega) (by omega)) ?_
  rintro m ⟨hm,hmm⟩
  rw[aj (by simp;omega) (by omega)]
  refine aa ⟨by simp;omega,?_⟩
  intro x hx;rcases OB.1 hx with hx | hx
  ·exact h2 x hx
  ·rw[Lb]at hx;subst hx;exact⟨by omega,hmm⟩
theorem H4{s:Str}(h:s.length≤100000):Gv (jZ s) λl=>l.length≤s.length+1∧∀x∈l,x.length≤s.length∧∀b∈x,b∈s:=by
 unfold jZ
 refine ad (FI 32 (by omega)) ?_
 rintro l ⟨h1,h2⟩
 have e:=bU (λ(s:List Str) i=>(s,i)) l (λx=>!(x == ([]:Str))) id (step:=gQ l) (by omega) ?_ ?_
 ·rw[e];refine aa ⟨?_,?_⟩
  ·rw[Z0];exact Rb (Um _ _) h1
  ·intro x hx;rw[Z0]at hx;exact h2 x (PL.1 hx).1
 ·intro k hk s' hs;unfold gQ;rw[ah hk,aC hk];simp only[cond_true,K8,K9 hk,id]
  cases (l[k] == ([]:Str))
  ·simp only[Vn,cond_true,if_true]
   rw[aj (by simp;omega) (by omega)]
   rfl
  ·rfl
 ·intro s';unfold gQ;rw[ar];rfl
theorem sR{s:Str}(h:s.length≤1000000):Gv (cX s) λ_=>True:=by
 unfold cX;refine ad (P:=λq=>True) ?_ ?_
 ·refine ae (λ_=>aa trivial) (λh1=>ae (λ_=>aa trivial) (λh2=>?_));have h1:=of_decide_eq_false h1
  refine ad (eB (by omega) (by omega)) ?_
  intro x _;exact ae (λ_=>aa trivial) (λ_=>aa trivial)
 ·intro q _;refine ae (λ_=>aa trivial) (λ_=>?_);refine ad (P:=λ_=>True) ?_ ?_
  ·refine ay (σ:=Int) (λt i=>(t,i)) s.length (λ_ _=>True) (by omega) ?_ ?_ (s:=0) trivial
   ·intro k hk n _;unfold kq;dsimp only;rw[ah hk,ai hk];simp only[cond_true,K8];refine ad (P:=λ_=>True) (ae (λ_=>aa trivial) (λ_=>aa trivial)) ?_;intro b _;exact ae (λ_=>aa (.inr ⟨_,rfl,trivial⟩)) (λ_=>aa (.inl ⟨_,rfl,trivial⟩))
   ·intro n _;unfold kq;dsimp only;rw[ar];exact aa ⟨_,rfl,trivial⟩
  ·rintro(x | x) _<;>exact aa trivial
theorem GY{s:Str}(h:s.length≤1000000):Gv (jQ s) λ_=>True:=by
 unfold jQ;refine ad (P:=λ(k:Int)=>0≤k∧k≤(s.length:Int)) ?_ ?_
 ·refine gD (λ(k:Int)=>0≤k∧k≤(s.length:Int)) (λk=>s.length - k.toNat) ?_ ⟨by omega,by omega⟩
  rintro k ⟨h0,h1⟩;unfold nL;refine ad (P:=λq=>q=true→k<(s.length:Int)) ?_ ?_
  ·refine ae (λe=>?_) (λ_=>aa (by simp))
   have e:=of_decide_eq_true e;refine ad (eB h0 e) ?_;intro x _;exact aa λ_=>e
  ·intro q hq;refine ae (λe=>aa (.inl ⟨_,rfl,?_,?_⟩)) (λ_=>aa (.inr ⟨_,rfl,h0,h1⟩))
   ·have:=hq e
    rw[am (by omega) (by omega)];omega
   ·have:=hq e
    rw[am (by omega) (by omega)];omega
 ·rintro k ⟨h0,h1⟩;refine ae (λ_=>aa trivial) (λe=>?_)
  have e:k≠s.length:=by simpa using e
  refine ad (ue (by omega) h0 h1) ?_
  rintro m ⟨hm,_⟩
  refine ad (sR (by omega)) ?_
  intro x _
  rw[am (by omega) (by omega)]
  refine ad (ue (by omega) (by omega) (by omega)) ?_
  rintro m2 ⟨hm2,_⟩
  refine ad (sR (by omega)) ?_
  intro x1 _;exact ae (λ_=>aa trivial) (λ_=>aa trivial)
theorem EX{w:List Str}{n:Int}(hw:w.length≤10000)(hs:∀x∈w,x.length≤10000)(h0:1≤n)(h1:n≤10000) :
  Gv (jU w n) λr=>r.1.LC.length≤10000∧(r.1.MR.length:Int)≤n∧∀b∈r.1.LC,∃x∈w,b∈x:=by
 unfold jU
 rw[am (by omega) (by omega)]
 refine ad (P:=λq=>q=false→(w.length:Int)=3+n) ?_ ?_
 ·refine ae (λ_=>aa (by simp)) (λe=>?_)
  have e:(w.length:Int)=3+n:=by simpa using e
  refine ad (eB (by omega) (by omega)) ?_
  intro x _;exact aa λ_=>e
 ·intro q hq
  refine ae (λ_=>aa ⟨by simp,by simp;omega,by simp⟩) (λe=>?_)
  have hl:=hq e
  refine ad (eB (by omega) (by omega)) ?_
  rintro x1 ⟨hx1,_⟩
  refine ad (sR (by have:=hs _ hx1;omega)) ?_
  intro x2 _
  refine ad (eB (by omega) (by omega)) ?_
  rintro x3 ⟨hx3,_⟩;refine ad (P:=λ(r:Bool×Lm)=>r.2.LC.length≤10000∧(r.2.MR.length:Int)≤n∧∀b∈r.2.LC,∃x∈w,b∈x) ?_ (λr hr=>aa hr);refine gD (λ(t:Bool×Lm×Int)=>t.2.1.LC.length≤10000∧3≤t.2.2∧t.2.2≤(w.length:Int)∧(t.2.1.MR.length:Int)≤t.2.2 - 3∧∀b∈t.2.1.LC,∃x∈w,b∈x) (λt=>w.length - t.2.2.toNat) ?_ ?_
  ·rintro⟨ok,q,i⟩ ⟨g1,g2,g3,g4,g5⟩;dsimp only at g1 g2 g3 g4 g5;unfold nN;dsimp only;refine ad (P:=λq=>q=true→i<(w.length:Int)) ?_ ?_
   ·refine ae (λe=>aa λ_=>of_decide_eq_true e) (λ_=>aa (by simp))
   ·intro b hb
    refine ae (λe=>?_) (λ_=>aa (.inr ⟨_,rfl,g1,by dsimp only;omega,g5⟩))
    have hi:=hb e
    refine ad (eB (by omega) hi) ?_
    rintro x4 ⟨hx4,_⟩
    refine ad (GY (by have:=hs _ hx4;omega)) ?_
    intro x5 _
    rw[aj (by simp;omega) (by omega)]
    rw[K8,am (by omega) (by omega)]
    exact aa (.inl ⟨_,rfl,⟨g1,by dsimp only;omega,by dsimp only;omega,by simp;omega,g5⟩,by dsimp only;omega⟩)
  ·exact⟨hs _ hx3,by simp,by dsimp only;omega,by simp,λb hb=>⟨_,hx3,hb⟩⟩
theorem qe{α : Type}{l:List α}{a b:Int}(h0:0≤a)(h1:a≤b)(h2:b≤l.length):Gv (OQ a b l.length) λp=>(sub l p.1 p.2).length=(b - a).toNat∧∀x∈sub l p.1 p.2,x∈l:=by refine mH (KM h0 h1 h2) ?_;rintro _ rfl;refine⟨?_,λx hx=>QgC (QeK hx)⟩;unfold sub;rw[Oy,Ro];omega
def PC(s:Str)(c:Lf):Prop:=O9 c∧(∀x∈c.Lp,x.length<1000000)∧∀q∈c.Lg,∀b∈q.LC,b∈s
theorem GN(s:Str):Gv (jM s) λr=>PC s r.1:=by
 have hz:PC s ⟨[],[]⟩:=⟨⟨by simp,by simp,by simp,by simp⟩,by simp,by simp⟩
 unfold jM;refine ae (λ_=>aa hz) (λe=>?_);have e:=of_decide_eq_false e
 refine ad (FI 10 (by omega)) ?_
 rintro l ⟨hl,hx⟩
 refine ad (P:=λr=>match r with
  | .inl t=>PC s t.1
  | .inr t=>PC s t.2.1) ?_ ?_
 ·let K:=λ(k:Nat)(c:Lf)=>c.Lp.length≤3∧(∀x∈c.Lp,x.length≤2000)∧c.Lg.length≤k∧∀q∈c.Lg,q.LC.length≤10000∧q.MR.length≤3∧∀b∈q.LC,b∈s
  have hK:∀k c,k≤2001→K k c→PC s c:=by
   rintro k c hk ⟨k1,k2,k3,k4⟩
   exact⟨⟨by omega,by omega,λx hx=>by have:=(k4 x hx).1;omega,λx hx=>by have:=(k4 x hx).2.1;omega⟩,λx hx=>by have:=k2 x hx;omega,λq hq=>(k4 q hq).2.2⟩
  have key:=ay (σ:=Lf×Lf×Bool) (λt i=>(t.1,t.2.1,t.2.2,i)) l.length (λk t=>K k t.2.1) (step:=gP l) (Q:=λr=>match r with
   | .inl t=>PC s t.1
   | .inr t=>PC s t.2.1) (by omega) ?_ ?_ (s:=(⟨[],[]⟩,⟨[],[]⟩,false)) ⟨by simp,by simp,by simp,by simp⟩
  ·exact key
  ·rintro k hk ⟨c0,c,tw⟩ ⟨k1,k2,k3,k4⟩;dsimp only at k1 k2 k3 k4;unfold gP;dsimp only;rw[ah hk,aC hk];simp only[cond_true,K8,K9 hk]
   refine ad (P:=λr=>match r with
    | .inl t=>K (k+1) t.2.1
    | .inr t=>PC s t.1) ?_ ?_
   ·have hlk:=(hx _ (NQ hk)).1;have hlb:=(hx _ (NQ hk)).2
    refine ad (H4 (by omega)) ?_
    rintro w ⟨hw,hwx⟩
    refine ae (λ_=>aa ⟨k1,k2,by dsimp only;omega,k4⟩) (λew=>?_)
    have ew:¬ w.length=0:=by have:=beq_eq_false_iff_ne.1 ew;omega
    refine ae (λ_=>?_) (λel=>?_)
    ·refine ad (lQ (by omega) (by omega)) ?_
     rintro _ rfl
     refine ad (mj (by omega)) ?_
     intro x1 _;refine ae (λ_=>aa hz) (λ_=>ae (λ_=>aa hz) (λe3=>?_));have e3:=of_decide_eq_false e3
     have hs:=qe (l:=w) (a:=1) (b:=(w.length:Int)) (by omega) (by omega) (by omega)
     refine ad hs ?_;rintro p ⟨hp1,hp2⟩
     rw[aj (by rw[hp1];simp;omega) (by omega)]
     refine aa ⟨?_,?_,by dsimp only;omega,k4⟩
     ·rw[La,hp1];simp;omega
     ·intro x hx;rcases OB.1 hx with hx | hx
      ·rw[Lb]at hx;subst hx;simp
      ·have:=(hwx x (hp2 x hx)).1;omega
    ·have el:¬ c.Lp.length=0:=by have:=beq_eq_false_iff_ne.1 el;omega
     refine ad (P:=λ_=>True) ?_ ?_
     ·refine ae (λ_=>?_) (λ_=>aa trivial)
      refine ad (lQ (by omega) (by omega)) ?_
      rintro _ rfl
      refine ad (mj (by omega)) ?_
      intro x1 _;exact aa trivial
     ·intro q _;refine ae (λ_=>aa hz) (λ_=>?_)
      refine ad (EX (by omega) (λx hx=>by have:=(hwx x hx).1;omega) (by omega) (by omega)) ?_
      rintro x3 ⟨g1,g2,g3⟩;refine ae (λ_=>aa hz) (λ_=>?_);refine ad (P:=λ(k:Int)=>0≤k∧k≤(c.Lg.length:Int)) ?_ ?_
      ·refine gD (λ(k:Int)=>0≤k∧k≤(c.Lg.length:Int)) (λk=>c.Lg.length - k.toNat) ?_ ⟨by omega,by omega⟩
       rintro i ⟨i0,i1⟩;unfold nO;dsimp only;refine ad (P:=λq=>q=true→i<(c.Lg.length:Int)) ?_ ?_
       ·refine ae (λe=>?_) (λ_=>aa (by simp))
        have e:=of_decide_eq_true e;refine ad (lQ i0 e) ?_;rintro _ rfl
        refine ad (mj (by omega)) ?_
        intro x _;exact aa λ_=>e
       ·intro q hq;refine ae (λe=>aa (.inl ⟨_,rfl,?_,?_⟩)) (λ_=>aa (.inr ⟨_,rfl,i0,i1⟩))
        ·have:=hq e
         rw[am (by omega) (by omega)];omega
        ·have:=hq e
         rw[am (by omega) (by omega)];omega
      ·rintro i ⟨i0,i1⟩;refine ad (P:=λ_=>True) ?_ ?_
       ·refine ae (λ_=>aa trivial) (λ_=>ae (λe=>?_) (λ_=>aa trivial));have e:=of_decide_eq_true e;refine ad (lQ i0 e) ?_;rintro _ rfl
        refine ad (mj (by omega)) ?_
        intro x _;exact aa trivial
       ·intro tw' _
        refine ad (qe (by omega) i0 i1) ?_
        rintro p1 ⟨a1,a2⟩
        rw[aj (by rw[a1];simp;omega) (by omega)]
        simp only[K8,PE]
        rw[aj (by rw[a1];simp;omega) (by omega)]
        simp only[K8]
        refine ad (qe i0 i1 (by omega)) ?_
        rintro p2 ⟨b1,b2⟩
        rw[aj (by rw[La,a1,b1];simp;omega) (by omega)]
        refine aa ⟨k1,k2,?_,?_⟩
        ·dsimp only;rw[La,La,a1,b1];simp;omega
        ·intro q hq;rcases OB.1 hq with hq | hq
         ·rcases OB.1 hq with hq | hq
          ·exact k4 q (a2 q hq)
          ·rw[Lb]at hq;subst hq;exact⟨g1,by omega,λb hb=>by obtain⟨x,hx,hbx⟩:=g3 b hb;exact hlb b ((hwx x hx).2 b hbx)⟩
         ·exact k4 q (b2 q hq)
   ·rintro(t | t) hr
    ·exact aa (.inl ⟨t,rfl,hr⟩)
    ·exact aa (.inr ⟨_,rfl,hr⟩)
  ·rintro⟨c0,c,tw⟩ hk;unfold gP;dsimp only;rw[ar]
   exact aa ⟨_,rfl,hK _ c (by omega) hk⟩
 ·rintro(t | t) hr
  ·exact aa hr
  ·exact ae (λ_=>aa hz) (λ_=>ae (λ_=>aa hz) (λ_=>aa hr))
end Go.Fx.D

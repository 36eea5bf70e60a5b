/-
  The reference manager: what holds of its state after every script. Conditions: none.
-/
import Derived.Test.YtdickabkndfjhaaGreatS3
namespace Go.Fx.D
open Go Go.Fx
set_option linter.unusedVariables false
set_option linter.unusedSimpArgs false
theorem Fk{s:Str}(c:Int)(h:s.length≤1000000):Gv (jK s c) λl=>l.length≤s.length+1∧∀x∈l,x.length≤s.length∧∀b∈x,b∈s:=by
 unfold jK;refine ad (P:=λr=>r.1.length≤s.length∧(∀x∈r.1,x.length≤s.length∧∀b∈x,b∈s)∧0≤r.2) ?_ ?_
 ·refine az (σ:=List Str×Int) (λt i=>(t.1,t.2,i)) s.length (λk t=>t.1.length≤k∧(∀x∈t.1,x.length≤s.length∧∀b∈x,b∈s)∧0≤t.2∧t.2≤(k:Int)) (by omega) ?_ ?_ (s:=([],0)) (by simp)
  ·rintro k hk ⟨l,a⟩ ⟨h1,h2,h3,h4⟩;dsimp only at h1 h2 h3 h4;unfold my;dsimp only;rw[ah hk,ai hk];simp only[cond_true,K_];refine ad (P:=λ(t:List Str×Int)=>t.1.length≤k+1∧(∀x∈t.1,x.length≤s.length∧∀b∈x,b∈s)∧0≤t.2∧t.2≤((k+1:Nat):Int)) ?_ (λt ht=>aa (.inl ⟨t,rfl,ht⟩))
   refine ae (λ_=>?_) (λ_=>aa ⟨by dsimp only;omega,h2,h3,by dsimp only;omega⟩)
   refine ad (uJ h3 h4 (by omega)) ?_
   rintro m ⟨hm,hmm⟩
   rw[ao (by simp;omega) (by omega)]
   refine aa ⟨by simp;omega,?_,by rw[aj (by omega) (by omega)];omega,by rw[aj (by omega) (by omega)];omega⟩
   intro x hx;rcases N_.1 hx with hx | hx
   ·exact h2 x hx
   ·rw[Ld]at hx;subst hx;exact⟨by omega,hmm⟩
  ·rintro⟨l,a⟩ ⟨h1,h2,h3,h4⟩;unfold my;dsimp only;rw[am];exact aa ⟨_,rfl,h1,h2,h3⟩
 ·rintro⟨l,a⟩ ⟨h1,h2,h3⟩;dsimp only at h1 h2 h3 ⊢;refine ad (P:=λl=>l.length≤s.length+1∧∀x∈l,x.length≤s.length∧∀b∈x,b∈s) ?_ (λl hl=>aa hl)
  refine ae (λe=>?_) (λ_=>aa ⟨by omega,h2⟩)
  have e:=of_decide_eq_true e
  refine ad (uJ h3 (by omega) (by omega)) ?_
  rintro m ⟨hm,hmm⟩
  rw[ao (by simp;omega) (by omega)]
  refine aa ⟨by simp;omega,?_⟩
  intro x hx;rcases N_.1 hx with hx | hx
  ·exact h2 x hx
  ·rw[Ld]at hx;subst hx;exact⟨by omega,hmm⟩
theorem GE{s:Str}(h:s.length≤100000):Gv (kJ s) λl=>l.length≤s.length+1∧∀x∈l,x.length≤s.length∧∀b∈x,b∈s:=by
 unfold kJ
 refine ad (Fk 32 (by omega)) ?_
 rintro l ⟨h1,h2⟩
 have e:=bQ (λ(s:List Str) i=>(s,i)) l (λx=>!(x == ([]:Str))) id (step:=gQ l) (by omega) ?_ ?_
 ·rw[e];refine aa ⟨?_,?_⟩
  ·rw[QfA];exact P6 (TP _ _) h1
  ·intro x hx;rw[QfA]at hx;exact h2 x (Ta.1 hx).1
 ·intro k hk s' hs;unfold gQ;rw[ah hk,aC hk];simp only[cond_true,K_,La hk,id]
  cases (l[k] == ([]:Str))
  ·simp only[Wy,cond_true,if_true]
   rw[ao (by simp;omega) (by omega)]
   rfl
  ·rfl
 ·intro s';unfold gQ;rw[am];rfl
theorem tC{s:Str}(h:s.length≤1000000):Gv (dt s) λ_=>True:=by
 unfold dt;refine ad (P:=λq=>True) ?_ ?_
 ·refine ae (λ_=>aa trivial) (λh1=>ae (λ_=>aa trivial) (λh2=>?_));have h1:=of_decide_eq_false h1
  refine ad (eh (by omega) (by omega)) ?_
  intro x _;exact ae (λ_=>aa trivial) (λ_=>aa trivial)
 ·intro q _;refine ae (λ_=>aa trivial) (λ_=>?_);refine ad (P:=λ_=>True) ?_ ?_
  ·refine az (σ:=Int) (λt i=>(t,i)) s.length (λ_ _=>True) (by omega) ?_ ?_ (s:=0) trivial
   ·intro k hk n _;unfold kV;dsimp only;rw[ah hk,ai hk];simp only[cond_true,K_];refine ad (P:=λ_=>True) (ae (λ_=>aa trivial) (λ_=>aa trivial)) ?_;intro b _;exact ae (λ_=>aa (.inr ⟨_,rfl,trivial⟩)) (λ_=>aa (.inl ⟨_,rfl,trivial⟩))
   ·intro n _;unfold kV;dsimp only;rw[am];exact aa ⟨_,rfl,trivial⟩
  ·rintro(x | x) _<;>exact aa trivial
theorem H8{s:Str}(h:s.length≤1000000):Gv (kE s) λ_=>True:=by
 unfold kE;refine ad (P:=λ(k:Int)=>0≤k∧k≤(s.length:Int)) ?_ ?_
 ·refine jA (λ(k:Int)=>0≤k∧k≤(s.length:Int)) (λk=>s.length - k.toNat) ?_ ⟨by omega,by omega⟩
  rintro k ⟨h0,h1⟩;unfold oj;refine ad (P:=λq=>q=true→k<(s.length:Int)) ?_ ?_
  ·refine ae (λe=>?_) (λ_=>aa (by simp))
   have e:=of_decide_eq_true e;refine ad (eh h0 e) ?_;intro x _;exact aa λ_=>e
  ·intro q hq;refine ae (λe=>aa (.inl ⟨_,rfl,?_,?_⟩)) (λ_=>aa (.inr ⟨_,rfl,h0,h1⟩))
   ·have:=hq e
    rw[aj (by omega) (by omega)];omega
   ·have:=hq e
    rw[aj (by omega) (by omega)];omega
 ·rintro k ⟨h0,h1⟩;refine ae (λ_=>aa trivial) (λe=>?_)
  have e:k≠s.length:=by simpa using e
  refine ad (uJ (by omega) h0 h1) ?_
  rintro m ⟨hm,_⟩
  refine ad (tC (by omega)) ?_
  intro x _
  rw[aj (by omega) (by omega)]
  refine ad (uJ (by omega) (by omega) (by omega)) ?_
  rintro m2 ⟨hm2,_⟩
  refine ad (tC (by omega)) ?_
  intro x1 _;exact ae (λ_=>aa trivial) (λ_=>aa trivial)
theorem EP{w:List Str}{n:Int}(hw:w.length≤10000)(hs:∀x∈w,x.length≤10000)(h0:1≤n)(h1:n≤10000) :
  Gv (kN w n) λr=>r.1.LB.length≤10000∧(r.1.MS.length:Int)≤n∧∀b∈r.1.LB,∃x∈w,b∈x:=by
 unfold kN
 rw[aj (by omega) (by omega)]
 refine ad (P:=λq=>q=false→(w.length:Int)=3+n) ?_ ?_
 ·refine ae (λ_=>aa (by simp)) (λe=>?_)
  have e:(w.length:Int)=3+n:=by simpa using e
  refine ad (eh (by omega) (by omega)) ?_
  intro x _;exact aa λ_=>e
 ·intro q hq
  refine ae (λ_=>aa ⟨by simp,by simp;omega,by simp⟩) (λe=>?_)
  have hl:=hq e
  refine ad (eh (by omega) (by omega)) ?_
  rintro x1 ⟨hx1,_⟩
  refine ad (tC (by have:=hs _ hx1;omega)) ?_
  intro x2 _
  refine ad (eh (by omega) (by omega)) ?_
  rintro x3 ⟨hx3,_⟩;refine ad (P:=λ(r:Bool×Ls)=>r.2.LB.length≤10000∧(r.2.MS.length:Int)≤n∧∀b∈r.2.LB,∃x∈w,b∈x) ?_ (λr hr=>aa hr);refine jA (λ(t:Bool×Ls×Int)=>t.2.1.LB.length≤10000∧3≤t.2.2∧t.2.2≤(w.length:Int)∧(t.2.1.MS.length:Int)≤t.2.2 - 3∧∀b∈t.2.1.LB,∃x∈w,b∈x) (λt=>w.length - t.2.2.toNat) ?_ ?_
  ·rintro⟨ok,q,i⟩ ⟨g1,g2,g3,g4,g5⟩;dsimp only at g1 g2 g3 g4 g5;unfold oh;dsimp only;refine ad (P:=λq=>q=true→i<(w.length:Int)) ?_ ?_
   ·refine ae (λe=>aa λ_=>of_decide_eq_true e) (λ_=>aa (by simp))
   ·intro b hb
    refine ae (λe=>?_) (λ_=>aa (.inr ⟨_,rfl,g1,by dsimp only;omega,g5⟩))
    have hi:=hb e
    refine ad (eh (by omega) hi) ?_
    rintro x4 ⟨hx4,_⟩
    refine ad (H8 (by have:=hs _ hx4;omega)) ?_
    intro x5 _
    rw[ao (by simp;omega) (by omega)]
    rw[K_,aj (by omega) (by omega)]
    exact aa (.inl ⟨_,rfl,⟨g1,by dsimp only;omega,by dsimp only;omega,by simp;omega,g5⟩,by dsimp only;omega⟩)
  ·exact⟨hs _ hx3,by simp,by dsimp only;omega,by simp,λb hb=>⟨_,hx3,hb⟩⟩
theorem qE{α : Type}{l:List α}{a b:Int}(h0:0≤a)(h1:a≤b)(h2:b≤l.length):Gv (OV a b l.length) λp=>(sub l p.1 p.2).length=(b - a).toNat∧∀x∈sub l p.1 p.2,x∈l:=by refine nr (KV h0 h1 h2) ?_;rintro _ rfl;refine⟨?_,λx hx=>QgB (QdM hx)⟩;unfold sub;rw[Ox,Rn];omega
def PC(s:Str)(c:Lg):Prop:=Pb c∧(∀x∈c.Lm,x.length<1000000)∧∀q∈c.Lh,∀b∈q.LB,b∈s
theorem Gz(s:Str):Gv (ko s) λr=>PC s r.1:=by
 have hz:PC s ⟨[],[]⟩:=⟨⟨by simp,by simp,by simp,by simp⟩,by simp,by simp⟩
 unfold ko;refine ae (λ_=>aa hz) (λe=>?_);have e:=of_decide_eq_false e
 refine ad (Fk 10 (by omega)) ?_
 rintro l ⟨hl,hx⟩
 refine ad (P:=λr=>match r with
  | .inl t=>PC s t.1
  | .inr t=>PC s t.2.1) ?_ ?_
 ·let K:=λ(k:Nat)(c:Lg)=>c.Lm.length≤3∧(∀x∈c.Lm,x.length≤2000)∧c.Lh.length≤k∧∀q∈c.Lh,q.LB.length≤10000∧q.MS.length≤3∧∀b∈q.LB,b∈s
  have hK:∀k c,k≤2001→K k c→PC s c:=by
   rintro k c hk ⟨k1,k2,k3,k4⟩
   exact⟨⟨by omega,by omega,λx hx=>by have:=(k4 x hx).1;omega,λx hx=>by have:=(k4 x hx).2.1;omega⟩,λx hx=>by have:=k2 x hx;omega,λq hq=>(k4 q hq).2.2⟩
  have key:=az (σ:=Lg×Lg×Bool) (λt i=>(t.1,t.2.1,t.2.2,i)) l.length (λk t=>K k t.2.1) (step:=gV l) (Q:=λr=>match r with
   | .inl t=>PC s t.1
   | .inr t=>PC s t.2.1) (by omega) ?_ ?_ (s:=(⟨[],[]⟩,⟨[],[]⟩,false)) ⟨by simp,by simp,by simp,by simp⟩
  ·exact key
  ·rintro k hk ⟨c0,c,tw⟩ ⟨k1,k2,k3,k4⟩;dsimp only at k1 k2 k3 k4;unfold gV;dsimp only;rw[ah hk,aC hk];simp only[cond_true,K_,La hk]
   refine ad (P:=λr=>match r with
    | .inl t=>K (k+1) t.2.1
    | .inr t=>PC s t.1) ?_ ?_
   ·have hlk:=(hx _ (Nq hk)).1;have hlb:=(hx _ (Nq hk)).2
    refine ad (GE (by omega)) ?_
    rintro w ⟨hw,hwx⟩
    refine ae (λ_=>aa ⟨k1,k2,by dsimp only;omega,k4⟩) (λew=>?_)
    have ew:¬ w.length=0:=by have:=beq_eq_false_iff_ne.1 ew;omega
    refine ae (λ_=>?_) (λel=>?_)
    ·refine ad (me (by omega) (by omega)) ?_
     rintro _ rfl
     refine ad (mX (by omega)) ?_
     intro x1 _;refine ae (λ_=>aa hz) (λ_=>ae (λ_=>aa hz) (λe3=>?_));have e3:=of_decide_eq_false e3
     have hs:=qE (l:=w) (a:=1) (b:=(w.length:Int)) (by omega) (by omega) (by omega)
     refine ad hs ?_;rintro p ⟨hp1,hp2⟩
     rw[ao (by rw[hp1];simp;omega) (by omega)]
     refine aa ⟨?_,?_,by dsimp only;omega,k4⟩
     ·rw[Lc,hp1];simp;omega
     ·intro x hx;rcases N_.1 hx with hx | hx
      ·rw[Ld]at hx;subst hx;simp
      ·have:=(hwx x (hp2 x hx)).1;omega
    ·have el:¬ c.Lm.length=0:=by have:=beq_eq_false_iff_ne.1 el;omega
     refine ad (P:=λ_=>True) ?_ ?_
     ·refine ae (λ_=>?_) (λ_=>aa trivial)
      refine ad (me (by omega) (by omega)) ?_
      rintro _ rfl
      refine ad (mX (by omega)) ?_
      intro x1 _;exact aa trivial
     ·intro q _;refine ae (λ_=>aa hz) (λ_=>?_)
      refine ad (EP (by omega) (λx hx=>by have:=(hwx x hx).1;omega) (by omega) (by omega)) ?_
      rintro x3 ⟨g1,g2,g3⟩;refine ae (λ_=>aa hz) (λ_=>?_);refine ad (P:=λ(k:Int)=>0≤k∧k≤(c.Lh.length:Int)) ?_ ?_
      ·refine jA (λ(k:Int)=>0≤k∧k≤(c.Lh.length:Int)) (λk=>c.Lh.length - k.toNat) ?_ ⟨by omega,by omega⟩
       rintro i ⟨i0,i1⟩;unfold nY;dsimp only;refine ad (P:=λq=>q=true→i<(c.Lh.length:Int)) ?_ ?_
       ·refine ae (λe=>?_) (λ_=>aa (by simp))
        have e:=of_decide_eq_true e;refine ad (me i0 e) ?_;rintro _ rfl
        refine ad (mX (by omega)) ?_
        intro x _;exact aa λ_=>e
       ·intro q hq;refine ae (λe=>aa (.inl ⟨_,rfl,?_,?_⟩)) (λ_=>aa (.inr ⟨_,rfl,i0,i1⟩))
        ·have:=hq e
         rw[aj (by omega) (by omega)];omega
        ·have:=hq e
         rw[aj (by omega) (by omega)];omega
      ·rintro i ⟨i0,i1⟩;refine ad (P:=λ_=>True) ?_ ?_
       ·refine ae (λ_=>aa trivial) (λ_=>ae (λe=>?_) (λ_=>aa trivial));have e:=of_decide_eq_true e;refine ad (me i0 e) ?_;rintro _ rfl
        refine ad (mX (by omega)) ?_
        intro x _;exact aa trivial
       ·intro tw' _
        refine ad (qE (by omega) i0 i1) ?_
        rintro p1 ⟨a1,a2⟩
        rw[ao (by rw[a1];simp;omega) (by omega)]
        simp only[K_,PX]
        rw[ao (by rw[a1];simp;omega) (by omega)]
        simp only[K_]
        refine ad (qE i0 i1 (by omega)) ?_
        rintro p2 ⟨b1,b2⟩
        rw[ao (by rw[Lc,a1,b1];simp;omega) (by omega)]
        refine aa ⟨k1,k2,?_,?_⟩
        ·dsimp only;rw[Lc,Lc,a1,b1];simp;omega
        ·intro q hq;rcases N_.1 hq with hq | hq
         ·rcases N_.1 hq with hq | hq
          ·exact k4 q (a2 q hq)
          ·rw[Ld]at hq;subst hq;exact⟨g1,by omega,λb hb=>by obtain⟨x,hx,hbx⟩:=g3 b hb;exact hlb b ((hwx x hx).2 b hbx)⟩
         ·exact k4 q (b2 q hq)
   ·rintro(t | t) hr
    ·exact aa (.inl ⟨t,rfl,hr⟩)
    ·exact aa (.inr ⟨_,rfl,hr⟩)
  ·rintro⟨c0,c,tw⟩ hk;unfold gV;dsimp only;rw[am]
   exact aa ⟨_,rfl,hK _ c (by omega) hk⟩
 ·rintro(t | t) hr
  ·exact aa hr
  ·exact ae (λ_=>aa hz) (λ_=>ae (λ_=>aa hz) (λ_=>aa hr))
end Go.Fx.D

/-
  The reference manager: what holds of its state after every script. Conditions: none.
-/
import Derived.Test.YtdickabkndfjhaaGreatS2
namespace Go.Fx.D
open Go Go.Fx
set_option linter.unusedVariables false
set_option linter.unusedSimpArgs false
theorem D7{c:Lf}(hl:∀x∈c.Lp,x.length<1000000)(hn:c.Lp.length<1000000) :
  Gv (ci c) λe=>e=0→1≤c.Lp.length∧c.Lp.length≤3∧c.Lg.length≤16∧c.Lp[0]? = some []∧∀x∈c.Lp,x.length≤12:=by
 unfold ci;refine ad (P:=λq=>q=false→1≤c.Lp.length∧c.Lp.length≤3∧c.Lg.length≤16) ?_ ?_
 ·refine ae (λ_=>aa (by simp)) (λh1=>ae (λ_=>aa (by simp)) (λh2=>aa λh3=>?_))
  have h1:=of_decide_eq_false h1;have h2:=of_decide_eq_false h2;have h3:=of_decide_eq_false h3;omega
 ·intro q hq
  refine ae (λ_=>aa (by omega)) (λe=>?_)
  obtain⟨b1,b2,b3⟩:=hq e
  refine ad (eB (by omega) (by omega)) ?_
  rintro x ⟨hx,hx0⟩
  refine ae (λ_=>aa (by omega)) (λe0=>?_)
  have hx1:x = []:=by simpa using e0
  subst hx1
  refine ad (P:=λr=>match r with | .inl q=>q≠0 | .inr _=>∀x∈c.Lp,x.length≤12) ?_ ?_
  ·refine gD (λi=>1≤i∧∀k:Nat,(k:Int)<i→∀x,c.Lp[k]? = some x→x.length≤12) (λi=>(c.Lp.length - i.toNat)) ?_ ⟨by omega,?_⟩
   ·rintro i ⟨hi,hv⟩;unfold ku;refine ae (λh1=>?_) (λh1=>?_)
    ·have h1:=of_decide_eq_true h1
     refine ad (eB (by omega) (by omega)) ?_
     rintro x ⟨hx,hxi⟩
     refine ad (B_ (by have:=hl _ hx;omega)) ?_
     intro b hb
     refine ae (λ_=>aa (.inr ⟨_,rfl,by simp⟩)) (λeb=>aa (.inl ⟨_,rfl,⟨?_,?_⟩,?_⟩))
     ·rw[am (by omega) (by omega)];omega
     ·intro k hk y hy
      rw[am (by omega) (by omega)]at hk
      by_cases hki:(k:Int)<i
      ·exact hv k hki y hy
      ·have:k=i.toNat:=by omega
       subst this;rw[hxi]at hy;cases hy
       exact(hb (by simpa using eb)).2.1
     ·rw[am (by omega) (by omega)];omega
    ·have h1:=of_decide_eq_false h1;refine aa (.inr ⟨_,rfl,?_⟩);intro x hx;obtain⟨k,hk,rfl⟩:=Ul hx
     exact hv k (by omega) _ (K9 hk)
   ·intro k hk x hx
    have:k=0:=by omega
    subst this;simp only[QgA]at hx0;rw[hx0]at hx;cases hx;simp
  ·rintro(q1 | u) hr
   ·exact aa (λe=>absurd e hr)
   ·refine ad (P:=λr=>match r with | .inl q=>q≠0 | .inr _=>True) ?_ ?_
    ·refine gD (λi=>1≤i) (λi=>(c.Lp.length - i.toNat)) ?_ (by omega)
     intro i hi;unfold kt;refine ae (λh1=>?_) (λh1=>aa (.inr ⟨_,rfl,trivial⟩));have h1:=of_decide_eq_true h1
     refine ad (P:=λr=>match r with | .inl q=>q≠0 | .inr _=>True) ?_ ?_
     ·refine gD (λk=>1≤k) (λk=>(i - k).toNat) ?_ (by omega)
      intro k hk;unfold mZ;refine ae (λh2=>?_) (λh2=>aa (.inr ⟨_,rfl,trivial⟩));have h2:=of_decide_eq_true h2
      refine ad (eB (by omega) (by omega)) ?_
      rintro x3 -
      refine ad (eB (by omega) (by omega)) ?_
      rintro x4 -
      refine ae (λ_=>aa (.inr ⟨_,rfl,by simp⟩)) (λ_=>aa (.inl ⟨_,rfl,?_,?_⟩))
      ·rw[am (by omega) (by omega)];omega
      ·rw[am (by omega) (by omega)];omega
     ·rintro(q | u) hr
      ·exact aa (.inr ⟨_,rfl,hr⟩)
      ·refine aa (.inl ⟨_,rfl,?_,?_⟩)
       ·rw[am (by omega) (by omega)];omega
       ·rw[am (by omega) (by omega)];omega
    ·rintro(q | u) hr2
     ·exact aa (λe=>absurd e hr2)
     ·exact aa λ_=>⟨b1,b2,b3,hx0,hr⟩
def SN(x:Cap):Prop:=0≤x.Oe∧x.Oe≤x.Most∧x.Most≤10000
structure QOk(c:Lf)(i:Nat)(q:Lm):Prop where
 Ld:Ox q.LC
 less:∀p,0<i→c.Lg[i - 1]? = some p→SG q.LC p.LC=false
 up:0<i→(Nb c (aF q.LC)).isSome=true
 user:1≤q.User∧q.User≤1000000
 caps:q.MR.length=c.Lp.length
 cap:∀x∈q.MR,SN x
theorem HR{c:Lf}(h:O9 c){i:Nat}(hi:i<c.Lg.length):Gv (cD c (i:Int)) λe=>e=0→QOk c i c.Lg[i]:=by
 have hq:=h.q;unfold cD;rw[ai hi];simp only[K8];have hp:=h.p _ (NQ hi)
 refine ad (D8 (by omega)) ?_
 intro b hb
 refine ae (λ_=>aa (by omega)) (λeb=>?_)
 have Zn:=hb (by simpa using eb)
 refine ad (P:=λq=>q=false→∀p,0<i→c.Lg[i - 1]? = some p→SG c.Lg[i].LC p.LC=false) ?_ ?_
 ·refine ae (λh0=>?_) (λh0=>aa λ_ p hi0=>?_)
  ·have h0:=of_decide_eq_true h0
   rw[am (by omega) (by omega)]
   refine ad (eB (by omega) (by omega)) ?_
   rintro x ⟨_,hx⟩;refine aa λe p _ hp=>?_
   rw[show((i:Int) - 1).toNat=i - 1 by omega,hp]at hx
   cases hx;exact e
  ·have h0:=of_decide_eq_false h0;omega
 ·intro q hlt
  refine ae (λ_=>aa (by omega)) (λeq=>?_)
  have hlt:=hlt eq
  rw[rQ (by omega),K8,oN h,K8]
  refine ad (P:=λq=>q=false→0<i→(Nb c (aF c.Lg[i].LC)).isSome=true) ?_ ?_
  ·refine ae (λh0=>aa λe hi0=>?_) (λh0=>aa λ_ hi0=>?_)
   ·cases hf:Nb c (aF c.Lg[i].LC)with
    | none=>rw[hf]at e;simp at e
    | some q=>rfl
   ·have h0:=of_decide_eq_false h0;omega
  ·intro q1 hup
   refine ae (λ_=>aa (by omega)) (λeq1=>?_)
   have hup:=hup eq1;refine ad (P:=λq=>q=false→(1≤c.Lg[i].User∧c.Lg[i].User≤1000000)∧c.Lg[i].MR.length=c.Lp.length) ?_ ?_
   ·refine ae (λ_=>aa (by simp)) (λh1=>ae (λ_=>aa (by simp)) (λh2=>aa λh3=>?_))
    have h1:=of_decide_eq_false h1;have h2:=of_decide_eq_false h2;simp only[bne_eq_false_iff_eq]at h3;omega
   ·intro q2 hq2
    refine ae (λ_=>aa (by omega)) (λeq2=>?_)
    obtain⟨hu,hc⟩:=hq2 eq2;have hcl:=h.c _ (NQ hi)
    refine ad (P:=λr=>match r with | .inl q=>q≠0 | .inr _=>∀x∈c.Lg[i].MR,SN x) ?_ ?_
    ·refine ay (σ:=Unit) (λ_ i=>i) c.Lg[i].MR.length (λk _=>∀x∈c.Lg[i].MR.take k,SN x) (by omega) ?_ ?_ (s:=()) (by simp)
     ·intro k hk _ hv;unfold lh;rw[ah hk,ai hk];simp only[cond_true,K8];refine ad (P:=λq=>q=false→SN c.Lg[i].MR[k]) ?_ ?_
      ·refine ae (λ_=>aa (by simp)) (λh1=>ae (λ_=>aa (by simp)) (λh2=>ae (λ_=>aa (by simp)) (λh3=>ae (λ_=>aa (by simp)) (λh4=>aa λh5=>?_))))
       have h1:=of_decide_eq_false h1;have h2:=of_decide_eq_false h2;have h3:=of_decide_eq_false h3;have h4:=of_decide_eq_false h4;have h5:=of_decide_eq_false h5;unfold SN;omega
      ·intro q hq
       refine ae (λ_=>aa (.inr ⟨_,rfl,by simp⟩)) (λe=>aa (.inl ⟨(),rfl,?_⟩))
       rw[R3 hk];intro x hx;rcases OB.1 hx with hx | hx
       ·exact hv x hx
       ·rw[Lb]at hx;subst hx;exact hq e
     ·intro _ hv;unfold lh;rw[ar];rw[Sq]at hv;exact aa ⟨_,rfl,hv⟩
    ·rintro(q | u) hr
     ·exact aa (λe=>absurd e hr)
     ·exact aa λ_=>⟨Zn,hlt,hup,hu,hc,hr⟩
def kS(c:Lf)(k:Nat)(p:Str):Int:=((Nb c p).bind λq=>q.MR[k]?).elim 0 (·.Oe)
structure Nj(c:Lf):Prop where
 lab:1≤c.Lp.length∧c.Lp.length≤3
 lab0:c.Lp[0]? = some []
 aaq:∀x∈c.Lp,x.length≤12
 qs:1≤c.Lg.length∧c.Lg.length≤16
 root:∃q,c.Lg[0]? = some q∧q.LC=root∧∀x∈q.MR,x=⟨10000,10000⟩
 q:∀i (hi:i<c.Lg.length),QOk c i c.Lg[i]
 sums:∀q∈c.Lg,LP c q.LC≠[]→∀k,k<c.Lp.length→((LP c q.LC).map (kS c k)).sum=10000
 nd:∀q∈c.Lg,∀b∈q.LC,b≠45
theorem Nj.small{c:Lf}(h:Nj c):O9 c:=by
 have h1:=h.qs;have h2:=h.lab
 refine⟨by omega,by omega,λx hx=>?_,λx hx=>?_⟩
 ·obtain⟨i,hi,rfl⟩:=Ul hx;have:=(h.q i hi).Ld.len;omega
 ·obtain⟨i,hi,rfl⟩:=Ul hx;have:=(h.q i hi).caps;omega
theorem iX{c:Lf}{p:Str}{q:Lm}(h:Nb c p=some q):q∈c.Lg∧q.LC=p:=by
 unfold Nb at h
 exact⟨QdS h,by have:=QfS h;simpa using this⟩
theorem oM{c:Lf}{q:Lm}(h:q∈c.Lg):∃q',Nb c q.LC=some q'∧q'∈c.Lg∧q'.LC=q.LC:=by
 cases hf:Nb c q.LC with
 | none=>unfold Nb at hf;have:=ZR.1 hf q h;simp at this
 | some q'=>exact⟨q',rfl,iX hf⟩
theorem dK{c:Lf}{p x:Str}(h:x∈LP c p):p≠[]∧∃q∈c.Lg,q.LC=x∧aF x=p:=by
 unfold LP at h;split at h
 ·cases h
 ·rename_i hp;refine⟨hp,?_⟩;obtain⟨q,hq,rfl⟩:=Ra.1 h;have:=PL.1 hq
  exact⟨q,this.1,rfl,by simpa using this.2⟩
theorem nK(c:Lf)(p:Str):(LP c p).length≤c.Lg.length:=by
 unfold LP;split
 ·simp
 ·rw[Py];exact Um _ _
theorem Jl{c:Lf}(h:O9 c)(hq:∀i (hi:i<c.Lg.length),QOk c i c.Lg[i])(hl:c.Lg.length≤16):Gv (eF c) λb=>b=true→
  ∀q∈c.Lg,LP c q.LC≠[]→∀k,k<c.Lp.length→((LP c q.LC).map (kS c k)).sum=10000:=by
 have hll:=h.l;unfold eF
 have hcap:∀q∈c.Lg,q.MR.length=c.Lp.length∧∀x∈q.MR,SN x:=by intro q hq';obtain⟨i,hi,rfl⟩:=Ul hq';exact⟨(hq i hi).caps,(hq i hi).cap⟩
 refine ad (P:=λr=>match r with | .inl b=>b=false | .inr _=>∀q∈c.Lg,LP c q.LC≠[]→∀k,k<c.Lp.length→((LP c q.LC).map (kS c k)).sum=10000) ?_ ?_
 ·refine ay (σ:=Unit) (λ_ i=>i) c.Lg.length (λk _=>∀q∈c.Lg.take k,LP c q.LC≠[]→∀k,k<c.Lp.length→((LP c q.LC).map (kS c k)).sum=10000) (by omega) ?_ ?_ (s:=()) (by simp)
  ·intro i hi _ hv;unfold d7;rw[ah hi,ai hi];simp only[cond_true,K8];rw[mI h,K8];have hkl:=nK c c.Lg[i].LC
   refine ad (P:=λr=>match r with | .inl b=>b=false | .inr _=>LP c c.Lg[i].LC≠[]→∀k,k<c.Lp.length→((LP c c.Lg[i].LC).map (kS c k)).sum=10000) ?_ ?_
   ·refine gD (λk=>0≤k∧∀j:Nat,(j:Int)<k→j<c.Lp.length∧((LP c c.Lg[i].LC).map (kS c j)).sum=10000) (λk=>(c.Lp.length - k.toNat)) ?_ ⟨by omega,λj hj=>by omega⟩
    rintro k ⟨hk0,hk⟩;unfold n9
    refine ad (P:=λq=>if q=true then k<c.Lp.length else k<c.Lp.length→LP c c.Lg[i].LC = []) ?_ ?_
    ·refine ae (λh1=>aa ?_) (λh1=>aa ?_)
     ·have h1:=of_decide_eq_true h1;split
      ·exact h1
      ·rename_i hh;intro _;simp only[decide_eq_true_eq]at hh
       exact QdL.1 (by omega)
     ·have h1:=of_decide_eq_false h1;simp;omega
    ·intro q hq1;refine ae (λe=>?_) (λe=>?_)
     ·subst e;simp only[if_true]at hq1
      have hkl:k.toNat<c.Lp.length:=by omega
      have hkk:k=(k.toNat:Int):=by omega
      have key:=(cW (λs i=>(s,i)) (LP c c.Lg[i].LC) (λs p=>s+kS c k.toNat p) (λj s=>0≤s∧s≤10000*j) (λs=>s) (step:=iN c (LP c c.Lg[i].LC) k) (by omega) ?_ ?_ (s:=(0:Int)) (by simp)).1
      ·rw[key,K8]
       have hsum:∀(l:List Str)(z:Int),l.foldl (λs p=>s+kS c k.toNat p) z=z+(l.map (kS c k.toNat)).sum:=by
        intro l
        induction l with
        | nil=>simp
        | cons x l ih=>intro z;rw[TG,ih,M9,R8];omega
       rw[hsum,Int.zero_add];refine ae (λ_=>aa (.inr ⟨_,rfl,rfl⟩)) (λe=>aa (.inl ⟨_,rfl,⟨?_,?_⟩,?_⟩))
       ·rw[am (by omega) (by omega)];omega
       ·intro j hj
        rw[am (by omega) (by omega)]at hj
        by_cases hjk:(j:Int)<k
        ·exact hk j hjk
        ·have:j=k.toNat:=by omega
         subst this
         exact⟨hkl,by simpa using e⟩
       ·rw[am (by omega) (by omega)];omega
      ·intro j hj s hs;unfold iN;dsimp only;rw[ah hj,aC hj];simp only[cond_true,K8,K9 hj];rw[oN h];simp only[K8];obtain⟨_,q0,hq0,hp0,_⟩:=dK (NQ hj);obtain⟨q',hf,hm,hp'⟩:=oM hq0;rw[hp0]at hf
       have hb:Gv ((MZ k q'.MR.length).bind λi2=>q'.MR[i2]?) λx=>x∈q'.MR∧kS c k.toNat (LP c c.Lg[i].LC)[j]=x.Oe:=by
        refine ad (lQ hk0 (by rw[(hcap q' hm).1];omega)) ?_
        rintro _ rfl
        refine mH (mj (by rw[(hcap q' hm).1];omega)) ?_
        rintro x ⟨hx,hx2⟩;refine⟨hx,?_⟩;unfold kS;rw[hf,K8,hx2];rfl
       obtain⟨x,ex,hx,hle⟩:=hb;have hco:=(hcap q' hm).2 x hx;unfold SN at hco;rw[hf];simp only[Option.elim_some]
       rw[← Option.bind_assoc,ex,K8,hle,am (x:=s+x.Oe) (by omega) (by omega)]
       exact⟨rfl,by omega,by omega⟩
      ·intro s hs;unfold iN;dsimp only;rw[ar];rfl
     ·subst e;simp only[RZ,if_false]at hq1;refine aa (.inr ⟨_,rfl,λhne j hj=>?_⟩);by_cases hkl:k<c.Lp.length
      ·exact absurd (hq1 hkl) hne
      ·exact(hk j (by omega)).2
   ·rintro(b | u) hr
    ·exact aa (.inr ⟨_,rfl,hr⟩)
    ·refine aa (.inl ⟨(),rfl,?_⟩);rw[R3 hi];intro q hq';rcases OB.1 hq' with hq' | hq'
     ·exact hv q hq'
     ·rw[Lb]at hq';subst hq';exact hr
  ·intro _ hv;unfold d7;rw[ar];rw[Sq]at hv;exact aa ⟨_,rfl,hv⟩
 ·rintro(b | u) hr
  ·exact aa λe=>by simp only at hr;rw[hr]at e;cases e
  ·exact aa λ_=>hr
theorem Gk{c:Lf}(h:O9 c)(hlab:∀x∈c.Lp,x.length<1000000)(hnd:∀q∈c.Lg,∀b∈q.LC,b≠45):Gv (bH c) λe=>e=0→Nj c:=by
 have hql:=h.q;have hll:=h.l;unfold bH
 obtain⟨x,ex,hx⟩:=D7 hlab (by omega)
 rw[ex];simp only[K8]
 refine ae (λe=>aa λe0=>by subst e0;simp at e) (λe=>?_)
 obtain⟨b1,b2,b3,b4,b5⟩:=hx (by simpa using e)
 refine ad (P:=λq=>q=false→∃q0,c.Lg[0]? = some q0∧q0.LC=root) ?_ ?_
 ·refine ae (λ_=>aa (by simp)) (λh1=>?_)
  have h1:¬ c.Lg.length=0:=by have:=beq_eq_false_iff_ne.1 h1;omega
  refine ad (eB (by omega) (by omega)) ?_
  rintro q ⟨hq,hq0⟩
  refine aa λe2=>⟨q,hq0,by simpa using e2⟩
 ·intro q hq
  refine ae (λ_=>aa (by omega)) (λe1=>?_)
  obtain⟨q0,hq0,hp0⟩:=hq e1;have hpos:0<c.Lg.length:=(K_.1 hq0).1
  refine ad (P:=λr=>match r with | .inl q=>q≠0 | .inr _=>∀i (hi:i<c.Lg.length),QOk c i c.Lg[i]) ?_ ?_
  ·refine ay (σ:=Unit) (λ_ i=>i) c.Lg.length (λk _=>∀i (hi:i<c.Lg.length),i<k→QOk c i c.Lg[i]) (by omega) ?_ ?_ (s:=()) (λi hi h0=>by omega)
   ·intro i hi _ hv;unfold dt;rw[ah hi];obtain⟨y,ey,hy⟩:=HR h hi;rw[ey];simp only[cond_true,K8]
    refine ae (λe2=>aa (.inr ⟨_,rfl,by simpa using e2⟩)) (λe2=>aa (.inl ⟨(),rfl,?_⟩))
    intro j hj hjk;by_cases hji:j=i
    ·subst hji;exact hy (by simpa using e2)
    ·exact hv j hj (by omega)
   ·intro _ hv;unfold dt;rw[ar];exact aa ⟨_,rfl,λi hi=>hv i hi hi⟩
  ·rintro(y | u) hr
   ·exact aa λe2=>absurd e2 hr
   ·have afv:c.Lg[0]=q0:=by rw[K9 hpos]at hq0;exact Option.some.inj hq0
    have hc0:=(hr 0 hpos).caps;rw[afv]at hc0
    refine ad (P:=λr=>match r with | .inl q=>q≠0 | .inr _=>∀x∈q0.MR,x=⟨10000,10000⟩) ?_ ?_
    ·refine ay (σ:=Unit) (λ_ i=>i) c.Lp.length (λk _=>∀x∈q0.MR.take k,x=⟨10000,10000⟩) (by omega) ?_ ?_ (s:=()) (by simp)
     ·intro k hk _ hv;unfold dG
      have hk2:k<q0.MR.length:=by omega
      have hi0:idx c.Lg 0=some q0:=by rw[← afv];exact ai hpos
      rw[ah hk,hi0];simp only[cond_true,K8];rw[ai hk2];simp only[K8]
      refine ae (λ_=>aa (.inr ⟨_,rfl,by simp⟩)) (λe2=>aa (.inl ⟨(),rfl,?_⟩))
      rw[R3 hk2];intro x hx;rcases OB.1 hx with hx | hx
      ·exact hv x hx
      ·rw[Lb]at hx;subst hx;simp at e2;rcases hcc:q0.MR[k]with⟨a,b⟩
       rw[hcc]at e2;simp at e2;rw[e2.1,e2.2]
     ·intro _ hv;unfold dG;rw[ar];rw[← hc0,Sq]at hv;exact aa ⟨_,rfl,hv⟩
    ·rintro(y | u) hr2
     ·exact aa λe2=>absurd e2 hr2
     ·refine ad (Jl h hr b3) ?_;intro b hb
      refine ae (λ_=>aa (by omega)) (λe3=>aa λ_=>?_)
      exact⟨⟨b1,b2⟩,b4,b5,⟨by omega,b3⟩,⟨q0,hq0,hp0,hr2⟩,hr,hb (by simpa using e3),hnd⟩
end Go.Fx.D

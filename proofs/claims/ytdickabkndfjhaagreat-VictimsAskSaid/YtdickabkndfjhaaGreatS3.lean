/-
  The reference manager: what holds of its state after every script. Conditions: none.
-/
import Derived.Test.YtdickabkndfjhaaGreatS2
namespace Go.Fx.D
open Go Go.Fx
set_option linter.unusedVariables false
set_option linter.unusedSimpArgs false
theorem Gc{c:Lg}(hl:∀x∈c.Lm,x.length<1000000)(hn:c.Lm.length<1000000) :
  Gv (cB c) λe=>e=0→1≤c.Lm.length∧c.Lm.length≤3∧c.Lh.length≤16∧c.Lm[0]? = some []∧∀x∈c.Lm,x.length≤12:=by
 unfold cB;refine ad (P:=λq=>q=false→1≤c.Lm.length∧c.Lm.length≤3∧c.Lh.length≤16) ?_ ?_
 ·refine ae (λ_=>aa (by simp)) (λh1=>ae (λ_=>aa (by simp)) (λh2=>aa λh3=>?_))
  have h1:=of_decide_eq_false h1;have h2:=of_decide_eq_false h2;have h3:=of_decide_eq_false h3;omega
 ·intro q hq
  refine ae (λ_=>aa (by omega)) (λe=>?_)
  obtain⟨b1,b2,b3⟩:=hq e
  refine ad (eh (by omega) (by omega)) ?_
  rintro x ⟨hx,hx0⟩
  refine ae (λ_=>aa (by omega)) (λe0=>?_)
  have hx1:x = []:=by simpa using e0
  subst hx1
  refine ad (P:=λr=>match r with | .inl q=>q≠0 | .inr _=>∀x∈c.Lm,x.length≤12) ?_ ?_
  ·refine jA (λi=>1≤i∧∀k:Nat,(k:Int)<i→∀x,c.Lm[k]? = some x→x.length≤12) (λi=>(c.Lm.length - i.toNat)) ?_ ⟨by omega,?_⟩
   ·rintro i ⟨hi,hv⟩;unfold kW;refine ae (λh1=>?_) (λh1=>?_)
    ·have h1:=of_decide_eq_true h1
     refine ad (eh (by omega) (by omega)) ?_
     rintro x ⟨hx,hxi⟩
     refine ad (Cv (by have:=hl _ hx;omega)) ?_
     intro b hb
     refine ae (λ_=>aa (.inr ⟨_,rfl,by simp⟩)) (λeb=>aa (.inl ⟨_,rfl,⟨?_,?_⟩,?_⟩))
     ·rw[aj (by omega) (by omega)];omega
     ·intro k hk y hy
      rw[aj (by omega) (by omega)]at hk
      by_cases hki:(k:Int)<i
      ·exact hv k hki y hy
      ·have:k=i.toNat:=by omega
       subst this;rw[hxi]at hy;cases hy
       exact(hb (by simpa using eb)).2.1
     ·rw[aj (by omega) (by omega)];omega
    ·have h1:=of_decide_eq_false h1;refine aa (.inr ⟨_,rfl,?_⟩);intro x hx;obtain⟨k,hk,rfl⟩:=UL hx
     exact hv k (by omega) _ (La hk)
   ·intro k hk x hx
    have:k=0:=by omega
    subst this;simp only[Qg_]at hx0;rw[hx0]at hx;cases hx;simp
  ·rintro(q1 | u) hr
   ·exact aa (λe=>absurd e hr)
   ·refine ad (P:=λr=>match r with | .inl q=>q≠0 | .inr _=>True) ?_ ?_
    ·refine jA (λi=>1≤i) (λi=>(c.Lm.length - i.toNat)) ?_ (by omega)
     intro i hi;unfold kT;refine ae (λh1=>?_) (λh1=>aa (.inr ⟨_,rfl,trivial⟩));have h1:=of_decide_eq_true h1
     refine ad (P:=λr=>match r with | .inl q=>q≠0 | .inr _=>True) ?_ ?_
     ·refine jA (λk=>1≤k) (λk=>(i - k).toNat) ?_ (by omega)
      intro k hk;unfold nB;refine ae (λh2=>?_) (λh2=>aa (.inr ⟨_,rfl,trivial⟩));have h2:=of_decide_eq_true h2
      refine ad (eh (by omega) (by omega)) ?_
      rintro x3 -
      refine ad (eh (by omega) (by omega)) ?_
      rintro x4 -
      refine ae (λ_=>aa (.inr ⟨_,rfl,by simp⟩)) (λ_=>aa (.inl ⟨_,rfl,?_,?_⟩))
      ·rw[aj (by omega) (by omega)];omega
      ·rw[aj (by omega) (by omega)];omega
     ·rintro(q | u) hr
      ·exact aa (.inr ⟨_,rfl,hr⟩)
      ·refine aa (.inl ⟨_,rfl,?_,?_⟩)
       ·rw[aj (by omega) (by omega)];omega
       ·rw[aj (by omega) (by omega)];omega
    ·rintro(q | u) hr2
     ·exact aa (λe=>absurd e hr2)
     ·exact aa λ_=>⟨b1,b2,b3,hx0,hr⟩
def SS(x:Cap):Prop:=0≤x.Oe∧x.Oe≤x.Most∧x.Most≤10000
structure QOk(c:Lg)(i:Nat)(q:Ls):Prop where
 Lf:OA q.LB
 less:∀p,0<i→c.Lh[i - 1]? = some p→SH q.LB p.LB=false
 up:0<i→(Na c (aL q.LB)).isSome=true
 user:1≤q.User∧q.User≤1000000
 caps:q.MS.length=c.Lm.length
 cap:∀x∈q.MS,SS x
theorem IG{c:Lg}(h:Pb c){i:Nat}(hi:i<c.Lh.length):Gv (cM c (i:Int)) λe=>e=0→QOk c i c.Lh[i]:=by
 have hq:=h.q;unfold cM;rw[ai hi];simp only[K_];have hp:=h.p _ (Nq hi)
 refine ad (EN (by omega)) ?_
 intro b hb
 refine ae (λ_=>aa (by omega)) (λeb=>?_)
 have ZG:=hb (by simpa using eb)
 refine ad (P:=λq=>q=false→∀p,0<i→c.Lh[i - 1]? = some p→SH c.Lh[i].LB p.LB=false) ?_ ?_
 ·refine ae (λh0=>?_) (λh0=>aa λ_ p hi0=>?_)
  ·have h0:=of_decide_eq_true h0
   rw[aj (by omega) (by omega)]
   refine ad (eh (by omega) (by omega)) ?_
   rintro x ⟨_,hx⟩;refine aa λe p _ hp=>?_
   rw[show((i:Int) - 1).toNat=i - 1 by omega,hp]at hx
   cases hx;exact e
  ·have h0:=of_decide_eq_false h0;omega
 ·intro q hlt
  refine ae (λ_=>aa (by omega)) (λeq=>?_)
  have hlt:=hlt eq
  rw[sF (by omega),K_,pA h,K_]
  refine ad (P:=λq=>q=false→0<i→(Na c (aL c.Lh[i].LB)).isSome=true) ?_ ?_
  ·refine ae (λh0=>aa λe hi0=>?_) (λh0=>aa λ_ hi0=>?_)
   ·cases hf:Na c (aL c.Lh[i].LB)with
    | none=>rw[hf]at e;simp at e
    | some q=>rfl
   ·have h0:=of_decide_eq_false h0;omega
  ·intro q1 hup
   refine ae (λ_=>aa (by omega)) (λeq1=>?_)
   have hup:=hup eq1;refine ad (P:=λq=>q=false→(1≤c.Lh[i].User∧c.Lh[i].User≤1000000)∧c.Lh[i].MS.length=c.Lm.length) ?_ ?_
   ·refine ae (λ_=>aa (by simp)) (λh1=>ae (λ_=>aa (by simp)) (λh2=>aa λh3=>?_))
    have h1:=of_decide_eq_false h1;have h2:=of_decide_eq_false h2;simp only[bne_eq_false_iff_eq]at h3;omega
   ·intro q2 hq2
    refine ae (λ_=>aa (by omega)) (λeq2=>?_)
    obtain⟨hu,hc⟩:=hq2 eq2;have hcl:=h.c _ (Nq hi)
    refine ad (P:=λr=>match r with | .inl q=>q≠0 | .inr _=>∀x∈c.Lh[i].MS,SS x) ?_ ?_
    ·refine az (σ:=Unit) (λ_ i=>i) c.Lh[i].MS.length (λk _=>∀x∈c.Lh[i].MS.take k,SS x) (by omega) ?_ ?_ (s:=()) (by simp)
     ·intro k hk _ hv;unfold lB;rw[ah hk,ai hk];simp only[cond_true,K_];refine ad (P:=λq=>q=false→SS c.Lh[i].MS[k]) ?_ ?_
      ·refine ae (λ_=>aa (by simp)) (λh1=>ae (λ_=>aa (by simp)) (λh2=>ae (λ_=>aa (by simp)) (λh3=>ae (λ_=>aa (by simp)) (λh4=>aa λh5=>?_))))
       have h1:=of_decide_eq_false h1;have h2:=of_decide_eq_false h2;have h3:=of_decide_eq_false h3;have h4:=of_decide_eq_false h4;have h5:=of_decide_eq_false h5;unfold SS;omega
      ·intro q hq
       refine ae (λ_=>aa (.inr ⟨_,rfl,by simp⟩)) (λe=>aa (.inl ⟨(),rfl,?_⟩))
       rw[Ra hk];intro x hx;rcases N_.1 hx with hx | hx
       ·exact hv x hx
       ·rw[Ld]at hx;subst hx;exact hq e
     ·intro _ hv;unfold lB;rw[am];rw[RB]at hv;exact aa ⟨_,rfl,hv⟩
    ·rintro(q | u) hr
     ·exact aa (λe=>absurd e hr)
     ·exact aa λ_=>⟨ZG,hlt,hup,hu,hc,hr⟩
def lD(c:Lg)(k:Nat)(p:Str):Int:=((Na c p).bind λq=>q.MS[k]?).elim 0 (·.Oe)
structure Nj(c:Lg):Prop where
 lab:1≤c.Lm.length∧c.Lm.length≤3
 lab0:c.Lm[0]? = some []
 aaH:∀x∈c.Lm,x.length≤12
 qs:1≤c.Lh.length∧c.Lh.length≤16
 root:∃q,c.Lh[0]? = some q∧q.LB=root∧∀x∈q.MS,x=⟨10000,10000⟩
 q:∀i (hi:i<c.Lh.length),QOk c i c.Lh[i]
 sums:∀q∈c.Lh,Ma c q.LB≠[]→∀k,k<c.Lm.length→((Ma c q.LB).map (lD c k)).sum=10000
 nd:∀q∈c.Lh,∀b∈q.LB,b≠45
theorem Nj.small{c:Lg}(h:Nj c):Pb c:=by
 have h1:=h.qs;have h2:=h.lab
 refine⟨by omega,by omega,λx hx=>?_,λx hx=>?_⟩
 ·obtain⟨i,hi,rfl⟩:=UL hx;have:=(h.q i hi).Lf.len;omega
 ·obtain⟨i,hi,rfl⟩:=UL hx;have:=(h.q i hi).caps;omega
theorem jt{c:Lg}{p:Str}{q:Ls}(h:Na c p=some q):q∈c.Lh∧q.LB=p:=by
 unfold Na at h
 exact⟨QeG h,by have:=QgM h;simpa using this⟩
theorem pz{c:Lg}{q:Ls}(h:q∈c.Lh):∃q',Na c q.LB=some q'∧q'∈c.Lh∧q'.LB=q.LB:=by
 cases hf:Na c q.LB with
 | none=>unfold Na at hf;have:=QdJ.1 hf q h;simp at this
 | some q'=>exact⟨q',rfl,jt hf⟩
theorem eW{c:Lg}{p x:Str}(h:x∈Ma c p):p≠[]∧∃q∈c.Lh,q.LB=x∧aL x=p:=by
 unfold Ma at h;split at h
 ·cases h
 ·rename_i hp;refine⟨hp,?_⟩;obtain⟨q,hq,rfl⟩:=RA.1 h;have:=Ta.1 hq
  exact⟨q,this.1,rfl,by simpa using this.2⟩
theorem oz(c:Lg)(p:Str):(Ma c p).length≤c.Lh.length:=by
 unfold Ma;split
 ·simp
 ·rw[PI];exact TP _ _
theorem Kj{c:Lg}(h:Pb c)(hq:∀i (hi:i<c.Lh.length),QOk c i c.Lh[i])(hl:c.Lh.length≤16):Gv (eO c) λb=>b=true→
  ∀q∈c.Lh,Ma c q.LB≠[]→∀k,k<c.Lm.length→((Ma c q.LB).map (lD c k)).sum=10000:=by
 have hll:=h.l;unfold eO
 have hcap:∀q∈c.Lh,q.MS.length=c.Lm.length∧∀x∈q.MS,SS x:=by intro q hq';obtain⟨i,hi,rfl⟩:=UL hq';exact⟨(hq i hi).caps,(hq i hi).cap⟩
 refine ad (P:=λr=>match r with | .inl b=>b=false | .inr _=>∀q∈c.Lh,Ma c q.LB≠[]→∀k,k<c.Lm.length→((Ma c q.LB).map (lD c k)).sum=10000) ?_ ?_
 ·refine az (σ:=Unit) (λ_ i=>i) c.Lh.length (λk _=>∀q∈c.Lh.take k,Ma c q.LB≠[]→∀k,k<c.Lm.length→((Ma c q.LB).map (lD c k)).sum=10000) (by omega) ?_ ?_ (s:=()) (by simp)
  ·intro i hi _ hv;unfold eg;rw[ah hi,ai hi];simp only[cond_true,K_];rw[nf h,K_];have hkl:=oz c c.Lh[i].LB
   refine ad (P:=λr=>match r with | .inl b=>b=false | .inr _=>Ma c c.Lh[i].LB≠[]→∀k,k<c.Lm.length→((Ma c c.Lh[i].LB).map (lD c k)).sum=10000) ?_ ?_
   ·refine jA (λk=>0≤k∧∀j:Nat,(j:Int)<k→j<c.Lm.length∧((Ma c c.Lh[i].LB).map (lD c j)).sum=10000) (λk=>(c.Lm.length - k.toNat)) ?_ ⟨by omega,λj hj=>by omega⟩
    rintro k ⟨hk0,hk⟩;unfold oG
    refine ad (P:=λq=>if q=true then k<c.Lm.length else k<c.Lm.length→Ma c c.Lh[i].LB = []) ?_ ?_
    ·refine ae (λh1=>aa ?_) (λh1=>aa ?_)
     ·have h1:=of_decide_eq_true h1;split
      ·exact h1
      ·rename_i hh;intro _;simp only[decide_eq_true_eq]at hh
       exact QfL.1 (by omega)
     ·have h1:=of_decide_eq_false h1;simp;omega
    ·intro q hq1;refine ae (λe=>?_) (λe=>?_)
     ·subst e;simp only[if_true]at hq1
      have hkl:k.toNat<c.Lm.length:=by omega
      have hkk:k=(k.toNat:Int):=by omega
      have key:=(bF (λs i=>(s,i)) (Ma c c.Lh[i].LB) (λs p=>s+lD c k.toNat p) (λj s=>0≤s∧s≤10000*j) (λs=>s) (step:=iW c (Ma c c.Lh[i].LB) k) (by omega) ?_ ?_ (s:=(0:Int)) (by simp)).1
      ·rw[key,K_]
       have hsum:∀(l:List Str)(z:Int),l.foldl (λs p=>s+lD c k.toNat p) z=z+(l.map (lD c k.toNat)).sum:=by
        intro l
        induction l with
        | nil=>simp
        | cons x l ih=>intro z;rw[TN,ih,Nr,Wn];omega
       rw[hsum,Int.zero_add];refine ae (λ_=>aa (.inr ⟨_,rfl,rfl⟩)) (λe=>aa (.inl ⟨_,rfl,⟨?_,?_⟩,?_⟩))
       ·rw[aj (by omega) (by omega)];omega
       ·intro j hj
        rw[aj (by omega) (by omega)]at hj
        by_cases hjk:(j:Int)<k
        ·exact hk j hjk
        ·have:j=k.toNat:=by omega
         subst this
         exact⟨hkl,by simpa using e⟩
       ·rw[aj (by omega) (by omega)];omega
      ·intro j hj s hs;unfold iW;dsimp only;rw[ah hj,aC hj];simp only[cond_true,K_,La hj];rw[pA h];simp only[K_];obtain⟨_,q0,hq0,hp0,_⟩:=eW (Nq hj);obtain⟨q',hf,hm,hp'⟩:=pz hq0;rw[hp0]at hf
       have hb:Gv ((MZ k q'.MS.length).bind λi2=>q'.MS[i2]?) λx=>x∈q'.MS∧lD c k.toNat (Ma c c.Lh[i].LB)[j]=x.Oe:=by
        refine ad (me hk0 (by rw[(hcap q' hm).1];omega)) ?_
        rintro _ rfl
        refine nr (mX (by rw[(hcap q' hm).1];omega)) ?_
        rintro x ⟨hx,hx2⟩;refine⟨hx,?_⟩;unfold lD;rw[hf,K_,hx2];rfl
       obtain⟨x,ex,hx,hle⟩:=hb;have hco:=(hcap q' hm).2 x hx;unfold SS at hco;rw[hf];simp only[Option.elim_some]
       rw[← Option.bind_assoc,ex,K_,hle,aj (x:=s+x.Oe) (by omega) (by omega)]
       exact⟨rfl,by omega,by omega⟩
      ·intro s hs;unfold iW;dsimp only;rw[am];rfl
     ·subst e;simp only[R3,if_false]at hq1;refine aa (.inr ⟨_,rfl,λhne j hj=>?_⟩);by_cases hkl:k<c.Lm.length
      ·exact absurd (hq1 hkl) hne
      ·exact(hk j (by omega)).2
   ·rintro(b | u) hr
    ·exact aa (.inr ⟨_,rfl,hr⟩)
    ·refine aa (.inl ⟨(),rfl,?_⟩);rw[Ra hi];intro q hq';rcases N_.1 hq' with hq' | hq'
     ·exact hv q hq'
     ·rw[Ld]at hq';subst hq';exact hr
  ·intro _ hv;unfold eg;rw[am];rw[RB]at hv;exact aa ⟨_,rfl,hv⟩
 ·rintro(b | u) hr
  ·exact aa λe=>by simp only at hr;rw[hr]at e;cases e
  ·exact aa λ_=>hr
theorem HO{c:Lg}(h:Pb c)(hlab:∀x∈c.Lm,x.length<1000000)(hnd:∀q∈c.Lh,∀b∈q.LB,b≠45):Gv (bw c) λe=>e=0→Nj c:=by
 have hql:=h.q;have hll:=h.l;unfold bw
 obtain⟨x,ex,hx⟩:=Gc hlab (by omega)
 rw[ex];simp only[K_]
 refine ae (λe=>aa λe0=>by subst e0;simp at e) (λe=>?_)
 obtain⟨b1,b2,b3,b4,b5⟩:=hx (by simpa using e)
 refine ad (P:=λq=>q=false→∃q0,c.Lh[0]? = some q0∧q0.LB=root) ?_ ?_
 ·refine ae (λ_=>aa (by simp)) (λh1=>?_)
  have h1:¬ c.Lh.length=0:=by have:=beq_eq_false_iff_ne.1 h1;omega
  refine ad (eh (by omega) (by omega)) ?_
  rintro q ⟨hq,hq0⟩
  refine aa λe2=>⟨q,hq0,by simpa using e2⟩
 ·intro q hq
  refine ae (λ_=>aa (by omega)) (λe1=>?_)
  obtain⟨q0,hq0,hp0⟩:=hq e1;have hpos:0<c.Lh.length:=(Lb.1 hq0).1
  refine ad (P:=λr=>match r with | .inl q=>q≠0 | .inr _=>∀i (hi:i<c.Lh.length),QOk c i c.Lh[i]) ?_ ?_
  ·refine az (σ:=Unit) (λ_ i=>i) c.Lh.length (λk _=>∀i (hi:i<c.Lh.length),i<k→QOk c i c.Lh[i]) (by omega) ?_ ?_ (s:=()) (λi hi h0=>by omega)
   ·intro i hi _ hv;unfold dS;rw[ah hi];obtain⟨y,ey,hy⟩:=IG h hi;rw[ey];simp only[cond_true,K_]
    refine ae (λe2=>aa (.inr ⟨_,rfl,by simpa using e2⟩)) (λe2=>aa (.inl ⟨(),rfl,?_⟩))
    intro j hj hjk;by_cases hji:j=i
    ·subst hji;exact hy (by simpa using e2)
    ·exact hv j hj (by omega)
   ·intro _ hv;unfold dS;rw[am];exact aa ⟨_,rfl,λi hi=>hv i hi hi⟩
  ·rintro(y | u) hr
   ·exact aa λe2=>absurd e2 hr
   ·have afM:c.Lh[0]=q0:=by rw[La hpos]at hq0;exact Option.some.inj hq0
    have hc0:=(hr 0 hpos).caps;rw[afM]at hc0
    refine ad (P:=λr=>match r with | .inl q=>q≠0 | .inr _=>∀x∈q0.MS,x=⟨10000,10000⟩) ?_ ?_
    ·refine az (σ:=Unit) (λ_ i=>i) c.Lm.length (λk _=>∀x∈q0.MS.take k,x=⟨10000,10000⟩) (by omega) ?_ ?_ (s:=()) (by simp)
     ·intro k hk _ hv;unfold dV
      have hk2:k<q0.MS.length:=by omega
      have hi0:idx c.Lh 0=some q0:=by rw[← afM];exact ai hpos
      rw[ah hk,hi0];simp only[cond_true,K_];rw[ai hk2];simp only[K_]
      refine ae (λ_=>aa (.inr ⟨_,rfl,by simp⟩)) (λe2=>aa (.inl ⟨(),rfl,?_⟩))
      rw[Ra hk2];intro x hx;rcases N_.1 hx with hx | hx
      ·exact hv x hx
      ·rw[Ld]at hx;subst hx;simp at e2;rcases hcc:q0.MS[k]with⟨a,b⟩
       rw[hcc]at e2;simp at e2;rw[e2.1,e2.2]
     ·intro _ hv;unfold dV;rw[am];rw[← hc0,RB]at hv;exact aa ⟨_,rfl,hv⟩
    ·rintro(y | u) hr2
     ·exact aa λe2=>absurd e2 hr2
     ·refine ad (Kj h hr b3) ?_;intro b hb
      refine ae (λ_=>aa (by omega)) (λe3=>aa λ_=>?_)
      exact⟨⟨b1,b2⟩,b4,b5,⟨by omega,b3⟩,⟨q0,hq0,hp0,hr2⟩,hr,hb (by simpa using e3),hnd⟩
end Go.Fx.D

/-
  The reference manager: what holds of its state after every script. Conditions: none.
-/
import Derived.Test.YtdickabkndfjhaaGreatS1
namespace Go.Fx.D
open Go Go.Fx
set_option linter.unusedVariables false
set_option linter.unusedSimpArgs false
theorem B_{s:Str}(h:s.length<1000000000):Gv (cS s) λb=>b=true→1≤s.length∧s.length≤12∧∀b∈s,45≤b.toNat:=by
 unfold cS;refine ad (P:=λq=>q=false→1≤s.length∧s.length≤12) ?_ ?_
 ·refine ae (λ_=>aa (by simp)) (λh1=>aa ?_)
  intro h2;have h1:=of_decide_eq_false h1;have h2:=of_decide_eq_false h2;omega
 ·intro q hq
  refine ae (λ_=>aa (by simp)) (λh1=>?_)
  have hq:=hq h1
  refine ad (P:=λr=>match r with | .inl b=>b=false | .inr _=>∀b∈s,45≤b.toNat) ?_ ?_
  ·refine ay (σ:=Unit) (λ_ i=>i) s.length (λk _=>∀b∈s.take k,45≤b.toNat) (by omega) ?_ ?_ (s:=()) (by simp)
   ·intro k hk _ hv;unfold iA;rw[ah hk,ai hk];simp only[cond_true,K8];refine ad (P:=λq=>q=false→45≤s[k].toNat) ?_ ?_
    ·refine ae (λ_=>ae (λ_=>aa λe=>?_) (λe1=>ae (λ_=>aa λe=>?_) (λ_=>aa λ_=>?_))) (λe0=>ae (λ_=>ae (λ_=>aa λe=>?_) (λ_=>ae (λ_=>aa λe=>?_) (λ_=>aa λ_=>?_))) (λ_=>aa λ_=>?_))
     ·have e:(s[k].toNat:Int)=45:=by simpa using e
      omega
     ·have e1:=of_decide_eq_false e1;omega
     ·have e1:=of_decide_eq_false e1;omega
     all_goals (have e0:=of_decide_eq_false e0;omega)
    ·intro b hb;refine ae (λ_=>aa (.inr ⟨_,rfl,rfl⟩)) (λe=>aa (.inl ⟨(),rfl,?_⟩));rw[R3 hk];intro x hx;rcases OB.1 hx with hx | hx
     ·exact hv x hx
     ·rw[Lb]at hx;subst hx;exact hb e
   ·intro _ hv;unfold iA;rw[ar];rw[Sq]at hv;exact aa ⟨_,rfl,hv⟩
  ·rintro(q2 | u) hr
   ·exact aa λe=>by simp only at hr;rw[hr]at e;cases e
   ·exact aa λ_=>⟨hq.1,hq.2,hr⟩
theorem acs{s:Str}(k:Nat)(h:k<s.length):(s.take (k+1)).count 46=(s.take k).count 46+(if s[k]=46 then 1 else 0):=by rw[R3 h,QgX,List.count_singleton];simp only[beq_iff_eq]
structure Ox(s:Str):Prop where
 len:s.length≤51
 deep:s.count 46≤3
 root:s=root∨(root++[46]) <+: s
 ch:∀b∈s,45≤b.toNat
theorem D8{s:Str}(h:s.length<100000000):Gv (cY s) λb=>b=true→Ox s:=by
 unfold cY
 have hroot:∀k:Nat,s.take k=root→k<s.length→s[k]? = some 46→(root++[46]) <+: s:=by
  intro k e hk h46;refine⟨s.drop (k+1),?_⟩;rw[← e]
  have:s[k]=46:=by rw[K9 hk]at h46;exact Option.some.inj h46
  conv=>rhs;rw[← X0 k s,Ww hk,this]
  simp
 refine ad (P:=λr=>match r with
  | .inl b=>b=false
  | .inr n=>(n≤4→Ox s)) ?_ ?_
 ·have key:=ay (σ:=Int×Int) (λt i=>(t.1,t.2,i)) (s.length+1)
   (λk t=>0≤t.1∧t.1≤k∧t.2=((s.take k).count 46:Nat)+(if k=s.length+1 then 1 else 0)∧(t.1:Int)≤13*t.2∧(t.2=0→t.1=0)∧(0<t.2→k≤s.length→(root++[46]) <+: s)∧(k=s.length+1→Ox s∨4<t.2)∧(∀j (hj:j<s.length),(j:Int)<t.1→45≤s[j].toNat))
   (step:=ca s) (Q:=λr=>match r with
    | .inl b=>b=false
    | .inr n=>(n≤4→Ox s)) (by omega) ?_ ?_ (s:=(0,0)) ⟨by simp,by simp,by simp,by simp,by simp,by simp,by simp,λj hj h=>by dsimp only at h;omega⟩
  ·exact key
  ·rintro k hk ⟨a,n⟩ ⟨h0,h1,h2,h3,h4,h5,h6,h7⟩;dsimp only at h0 h1 h2 h3 h4 h5 h6 h7;unfold ca;dsimp only
   rw[decide_eq_true (by omega)]
   simp only[cond_true]
   rw[if_neg (by omega)]at h2
   have hc:(s.take k).count 46≤s.length:=Rb List.count_le_length (by rw[Oy];omega)
   refine ad (P:=λr=>match r with
    | .inl t=>0≤t.1∧t.1≤(k:Int)+1∧t.2=((s.take (k+1)).count 46:Nat)+(if k+1=s.length+1 then 1 else 0)∧(t.1:Int)≤13*t.2∧(t.2=0→t.1=0)∧(0<t.2→k+1≤s.length→(root++[46]) <+: s)∧(k+1=s.length+1→Ox s∨4<t.2)∧(∀j (hj:j<s.length),(j:Int)<t.1→45≤s[j].toNat)
    | .inr b=>b=false) ?_ ?_
   ·refine ad (P:=λq=>if q=true then k<s.length∧s[k]?≠some 46 else(k<s.length→s[k]? = some 46)) ?_ ?_
    ·refine ae (λhd=>?_) (λhd=>aa ?_)
     ·have hk':k<s.length:=by have:=of_decide_eq_true hd;omega
      rw[ai hk'];refine aa ?_
      have hb:((s[k].toNat:Int) != 46)=(s[k] != 46):=by
       rw[YA,bne_iff_ne,bne_iff_ne,ne_eq,ne_eq]
       refine not_congr ⟨λh=>?_,λh=>by rw[h];rfl⟩
       exact UInt8.toNat_inj.1 (by have:(46:UInt8).toNat=46:=rfl;omega)
      rw[hb,K9 hk'];split
      ·rename_i hh;exact⟨hk',by simpa using hh⟩
      ·rename_i hh;intro _;simpa using hh
     ·have:=of_decide_eq_false hd;simp;intro hk';omega
    ·intro q hq;refine ae (λe=>?_) (λe=>?_)
     ·subst e;simp only[if_true]at hq;have hk':=hq.1
      have hne:s[k]≠46:=by have:=hq.2;rw[K9 hk']at this;exactλe=>this (by rw[e])
      refine aa ?_;dsimp only
      rw[acs k hk',if_neg hne,if_neg (by omega)]
      exact⟨h0,by omega,by omega,h3,h4,λx _=>h5 x (by omega),λx=>by omega,h7⟩
     ·subst e;simp only[RZ,if_false]at hq
      have hsl:Gv (slc s a (k:Int)) λm=>m=(s.take k).drop a.toNat:=by
       have:=vP (l:=s) (a:=a) (b:=(k:Int)) h0 (by omega) (by omega)
       rw[Tz]at this;exact this
      have hlen:((s.take k).drop a.toNat).length=k - a.toNat:=by rw[Ro,Oy];omega
      refine ad (P:=λq1=>q1=false→k - a.toNat≤12∧(n=0→s.take k=root)∧∀b∈(s.take k).drop a.toNat,45≤b.toNat) ?_ ?_
      ·refine ad hsl ?_;rintro _ rfl
       refine ad (B_ (by omega)) ?_
       intro x hx
       refine ae (λ_=>aa (by simp)) (λe=>?_)
       have hx:=hx (by simpa using e)
       rw[hlen]at hx
       refine ae (λe0=>?_) (λe0=>aa λ_=>⟨hx.2.1,(λe1=>by simp[e1]at e0),hx.2.2⟩)
       refine ad hsl ?_;rintro _ rfl;refine aa λe2=>⟨hx.2.1,(λe1=>?_),hx.2.2⟩;have:a=0:=h4 e1;subst this;simpa using e2
      ·intro q1 hq1;refine ae (λ_=>aa rfl) (λe=>aa ?_);obtain⟨b1,b2,b3⟩:=hq1 e
       have nch:∀j (hj:j<s.length),j<k→45≤s[j].toNat:=by
        intro j hj hjk;by_cases hja:(j:Int)<a
        ·exact h7 j hj hja
        ·refine b3 _ ?_
         have hg:((s.take k).drop a.toNat)[j - a.toNat]? = some s[j]:=by
          rw[SY,RG,if_pos (by omega),show a.toNat+(j - a.toNat)=j by omega,K9 hj]
         exact Wu hg
       dsimp only
       rw[am (by omega) (by omega),am (by omega) (by omega)]
       by_cases hk':k<s.length
       ·have h46:=hq hk'
        have e46:s[k]=46:=by rw[K9 hk']at h46;exact Option.some.inj h46
        rw[acs k hk',if_pos e46,if_neg (by omega)]
        refine⟨by omega,by omega,by omega,by omega,by omega,λx _=>?_,λx=>by omega,λj hj hjk=>?_⟩
        rotate_left
        ·by_cases ao1:j<k
         ·exact nch j hj ao1
         ·have:j=k:=by omega
          subst this;rw[e46];decide
        by_cases hn:n=0
        ·exact hroot k (b2 hn) hk' h46
        ·exact h5 (by omega) (by omega)
       ·have hk2:k=s.length:=by omega
        subst hk2
        rw[if_pos rfl,Wv (by omega)]
        rw[Sq]at h2 b2
        refine⟨by omega,by omega,by omega,by omega,by omega,λx y=>by omega,λ_=>?_,λj hj _=>nch j hj hj⟩
        by_cases hn:4<n+1
        ·exact .inr hn
        ·refine .inl ⟨by omega,by omega,?_,λb hb=>by obtain⟨j,hj,rfl⟩:=Ul hb;exact nch j hj hj⟩
         by_cases hn:n=0
         ·exact .inl (b2 hn)
         ·exact .inr (h5 (by omega) (by omega))
   ·rintro(⟨a',n'⟩ | b) hr
    ·exact aa (.inl ⟨(a',n'),rfl,by simpa using hr⟩)
    ·exact aa (.inr ⟨_,rfl,hr⟩)
  ·rintro⟨a,n⟩ ⟨h0,h1,h2,h3,h4,h5,h6,h7⟩;unfold ca;dsimp only at h6 ⊢
   rw[decide_eq_false (by omega)]
   refine aa ⟨_,rfl,λhn=>?_⟩;rcases h6 rfl with h | h
   ·exact h
   ·omega
 ·rintro(b | n) hr
  ·exact aa λe=>by simp only at hr;rw[hr]at e;cases e
  ·exact aa λe=>hr (of_decide_eq_true e)
end Go.Fx.D

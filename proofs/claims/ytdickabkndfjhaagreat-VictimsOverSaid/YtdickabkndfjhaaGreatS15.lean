/-
  The reference manager: what holds of its state after every script. Conditions: none.
-/
import Derived.Test.YtdickabkndfjhaaGreatS14
namespace Go.Fx.D
open Go Go.Fx
set_option linter.unusedVariables false
set_option linter.unusedSimpArgs false
def kU(x:Ask):Vec:=⟨x.LV.Mem*x.Mw,x.LV.Lu*x.Mw⟩
def ga(l:List Ask)(label:Int):Vec:=Oh ((l.filter λx=>x.Ll == label).map kU)
theorem mn{c:Lf}{x:Ask}(h:NI c x):VB 53687091200 (kU x)∧Lx (x.LV.Mem*x.Mw)=x.LV.Mem*x.Mw∧Lx (x.LV.Lu*x.Mw)=x.LV.Lu*x.Mw:=by
 have h1:=h.size;have h2:=h.count;unfold RB at h1;obtain⟨⟨a1,a2⟩,a3,a4⟩:=h1
 have m1:=oq (n:=x.LV.Mem) (bp:=x.Mw) (N:=1073741824) (B:=50) (by omega) a2 (by omega) (by omega)
 have m2:=oq (n:=x.LV.Lu) (bp:=x.Mw) (N:=1073741824) (B:=50) (by omega) a4 (by omega) (by omega)
 refine⟨?_,am (by omega) (by omega),am (by omega) (by omega)⟩
 unfold VB kU;dsimp only;omega
theorem Hm{c:Lf}{l:List Ask}(hl:l.length≤100)(h:∀x∈l,NI c x)(label:Int):iR l label=some (ga l label):=by
 unfold iR
 rw[iU (λv i=>(v,i)) l (λx=>x.Ll == label) kU (step:=eW l label) (by omega) (λx hx _=>(mn (h x hx)).1.mono (by omega)) ?_ ?_]
 ·rfl
 ·intro k hk v hv;obtain⟨t1,t2,t3⟩:=mn (h _ (NQ hk));unfold eW;dsimp only;rw[ah hk,cond_true,ai hk];simp only[K8,t2,t3]
  have hp:aD v ⟨l[k].LV.Mem*l[k].Mw,l[k].LV.Lu*l[k].Mw⟩=some (MB v (kU l[k])):=lU (hv.mono (m:=200000000000000000) (by omega)) (t1.mono (by omega)) (by omega)
  rw[hp]
  cases l[k].Ll == label<;>rfl
 ·intro v;unfold eW;rw[ar];rfl
theorem qm{c:Lf}{l:List Ask}(hl:l.length≤8)(h:∀x∈l,NI c x)(label:Int):VB 429496729600 (ga l label):=by
 have:=oS (n:=53687091200) (by omega) (l:=(l.filter λx=>x.Ll == label).map kU) (λv hv=>by obtain⟨x,hx,rfl⟩:=Ra.1 hv;exact(mn (h x (PL.1 hx).1)).1)
 refine this.mono ?_;rw[Py];have:=Um (λx:Ask=>x.Ll == label) l;omega
def bB(s:JF)(Ld:Str)(label:Int):Vec:=Oh ((s.Lr.filter λa=>Mx a&&ba a.Lm Ld).map λa=>ga a.Mr label)
theorem rR{N:Nat}{s:JF}(h:Inv N s)(Ld:Str)(label:Int):dJ s Ld label=some (bB s Ld label):=by
 have hal:=h.al;unfold dJ
 rw[iU (λv i=>(v,i)) s.Lr (λa=>Mx a&&ba a.Lm Ld) (λa=>ga a.Mr label) (step:=d6 s Ld label) (by omega) (λa ha _=>(qm (h.ak a ha).al (h.ak a ha).ask label).mono (by omega)) ?_ ?_]
 ·rfl
 ·intro k hk v hv;have hak:=h.ak _ (NQ hk);unfold d6;dsimp only;rw[ah hk,cond_true,ai hk];simp only[K8]
  rw[mK,Ar (h.R5 (NQ hk)),Hm (by have:=hak.al;omega) hak.ask]
  simp only[K8]
  have hp:aD v (ga s.Lr[k].Mr label)=some (MB v (ga s.Lr[k].Mr label)):=lU (hv.mono (m:=200000000000000000) (by omega)) ((qm hak.al hak.ask label).mono (by omega)) (by omega)
  rw[hp]
  cases Mx s.Lr[k]<;>cases ba s.Lr[k].Lm Ld<;>rfl
 ·intro v;unfold d6;rw[ar];rfl
theorem Da{N:Nat}{s:JF}(h:Inv N s)(Ld:Str)(label:Int):VB 6871947673600 (bB s Ld label):=by
 have hal:=h.al
 have:=oS (n:=429496729600) (by omega) (l:=(s.Lr.filter λa=>Mx a&&ba a.Lm Ld).map λa=>ga a.Mr label) (λv hv=>by obtain⟨a,ha,rfl⟩:=Ra.1 hv;exact qm (h.ak a (PL.1 ha).1).al (h.ak a (PL.1 ha).1).ask label)
 refine this.mono ?_;rw[Py];have:=Um (λa:LD=>Mx a&&ba a.Lm Ld) s.Lr;omega
def LM(n:Int):Int:=if n<0∨n>1125899906842624 then 0 else n
theorem i_(n:Int):bG n=some (LM n):=by
 unfold bG LM;by_cases h1:n<0
 ·rw[decide_eq_true h1,if_pos (.inl h1)];rfl
 ·rw[decide_eq_false h1];by_cases h2:n>1125899906842624
  ·rw[decide_eq_true h2,if_pos (.inr h2)];rfl
  ·rw[decide_eq_false h2,if_neg (by omega)];rfl
theorem G2(total:Int){least want most:List Int}{n:Nat}(h1:least.length=n)(h2:want.length=n)(h3:most.length=n)(hn:n≤100000):Gv (cZ total least want most) λl=>l.length=n:=by
 unfold cZ
 have e:Mj (Mj (least.length:Int) (want.length:Int)) (most.length:Int)=(n:Int):=by rw[h1,h2,h3];unfold Mj;simp
 dsimp only;rw[e,i_,K8];refine ad (P:=λq=>q.2.length=n) ?_ ?_
 ·refine ay (λ(t:Int×List Int) i=>(t.1,t.2,i)) n (λk t=>t.2.length=k) (step:=bK least want most (n:Int)) (by omega) ?_ ?_ (s:=(LM total,[])) rfl
  ·rintro k hk ⟨a,l⟩ hl;dsimp only at hl;unfold bK;dsimp only
   rw[ah hk,cond_true,ai (by omega),K8,i_,K8,ai (by omega),K8,i_,K8,ai (by omega),K8,i_,K8,
    aj (by simp;omega) (by omega),K8]
   exact aa (.inl ⟨(_,_),rfl,by simp[hl]⟩)
  ·rintro t ht;unfold bK;dsimp only;rw[ar,cond_false];exact aa ⟨_,rfl,ht⟩
 ·rintro⟨a,l⟩ hl;dsimp only at hl ⊢;refine ad (P:=λl=>l.length=n) ?_ λl hl=>aa hl
  refine ay (λ(t:Int×List Int) i=>(t.1,t.2,i)) n (λk t=>t.2.length=n) (step:=bL want most (n:Int)) (by omega) ?_ ?_ (s:=(a,l)) hl
  ·rintro k hk ⟨a,l⟩ hl;dsimp only at hl;unfold bL;dsimp only
   have hkl:k<l.length:=by omega
   rw[ah hk,cond_true,ai (by omega),K8,i_,K8,ai (by omega),K8,i_,K8]
   simp only[aC hkl,K8,K9 hkl]
   exact aa (.inl ⟨(_,_),rfl,by simp[hl]⟩)
  ·rintro t ht;unfold bL;dsimp only;rw[ar,cond_false];exact aa ⟨_,rfl,ht⟩
theorem F5{N:Nat}{s:JF}(h:Inv N s)(label:Int):∀(d n:Nat)(Ld:Str)(mem:Int),3≤Ld.count 46+d→d≤n→d≤3→(Nb s.Lf Ld).isSome=true→
  Gv (aV (n+1) s Ld label mem) λl=>l.length≤16 ^ d∧∀x∈l,Nq s.Lf x.LC=true:=by
 have hsc:=h.sc;have hq:=h.cf.qs;intro d
 induction d with
 | zero=>
  intro n Ld mem hc _ _ hf
  have hk:LP s.Lf Ld = []:=by
   cases hk:LP s.Lf Ld with
   | nil=>rfl
   | cons x l=>
    have hx:x∈LP s.Lf Ld:=by rw[hk];simp
    obtain⟨hp,q,hq,rfl,ha⟩:=dK hx;have h1:=dQ hp ha;have h2:=(jh h.cf hq).deep;omega
  show Gv (bi _ s Ld label mem) _;unfold bi;rw[mI h.cf.small,K8,hk]
  refine aa ⟨by simp,λx hx=>?_⟩
  have:x=⟨Ld,mem⟩:=by simpa using hx
  subst this;show Nq s.Lf Ld=true;unfold Nq;rw[hf,hk];rfl
 | succ d ih=>
  intro n Ld mem hc hn hd3 hf
  obtain⟨n,rfl⟩:∃m,n=m+1:=⟨n - 1,by omega⟩
  have hkl:=nK s.Lf Ld;show Gv (bi (aV (n+1)) s Ld label mem) _;unfold bi;rw[mI h.cf.small,K8];generalize hK:LP s.Lf Ld=kids at hkl
  have YO:∀x∈kids,Ox x∧x.count 46=Ld.count 46+1∧(Nb s.Lf x).isSome=true:=by
   intro x hx;rw[← hK]at hx;obtain⟨hp,q,hq',rfl,ha⟩:=dK hx;obtain⟨q',e,_⟩:=oM hq'
   exact⟨jh h.cf hq',dQ hp ha,by rw[e];rfl⟩
  refine ae (λhz=>?_) λhz=>?_
  ·have hk0:kids = []:=by
    have:(kids.length:Int)=0:=by simpa using hz
    exact Ui (by omega)
   refine aa ⟨by simp;exact Nat.one_le_pow _ _ (by omega),λx hx=>?_⟩
   have:x=⟨Ld,mem⟩:=by simpa using hx
   subst this;show Nq s.Lf Ld=true;unfold Nq;rw[hf,hK,hk0];rfl
  ·refine ad (P:=λq=>q.1.length=kids.length∧q.2.1.length=kids.length∧q.2.2.length=kids.length) ?_ ?_
   ·refine ay (λ(t:List Int×List Int×List Int) i=>(t.1,t.2.1,t.2.2,i)) kids.length (λk t=>t.1.length=k∧t.2.1.length=k∧t.2.2.length=k) (step:=bA s label kids) (by omega) ?_ ?_ (s:=([],[],[])) ⟨rfl,rfl,rfl⟩
    ·rintro k hk ⟨a,b,c⟩ ⟨q1,q2,q3⟩;dsimp only at q1 q2 q3
     have hlen:kids[k].length≤1000000:=by have:=(YO _ (NQ hk)).1.len;omega
     unfold bA;dsimp only;rw[ah hk,cond_true];simp only[aC hk,K8,K9 hk]
     rw[nt hsc hlen,K8,aj (by simp;omega) (by omega),K8,wW hsc hlen,K8,aj (by simp;omega) (by omega),K8,jH h.sb,K8,
      rR h,K8,aj (by simp;omega) (by omega),K8]
     exact aa (.inl ⟨(_,_,_),rfl,by simp[q1],by simp[q2],by simp[q3]⟩)
    ·rintro t ht;unfold bA;dsimp only;rw[ar,cond_false];exact aa ⟨_,rfl,ht⟩
   ·rintro⟨a,b,c⟩ ⟨q1,q2,q3⟩
    refine ad (G2 mem q1 q2 q3 (by omega)) λx8 hx8=>?_
    have VF:16 ^ d≤16 ^ 3:=QdV (by omega) (by omega)
    refine ad (P:=λl=>l.length≤kids.length*16 ^ d∧∀x∈l,Nq s.Lf x.LC=true) ?_ ?_
    ·refine ay (λ(t:List MC) i=>(t,i)) kids.length (λk l=>l.length≤k*16 ^ d∧∀x∈l,Nq s.Lf x.LC=true) (step:=be s label (aV (n+1)) kids x8) (by omega) ?_ ?_ (s:=[]) ⟨by simp,by simp⟩
     ·rintro k hk l ⟨hl,hll⟩;obtain⟨k1,k2,k3⟩:=YO _ (NQ hk)
      have hmul:k*16 ^ d≤16*16 ^ 3:=QeS (by omega) VF
      unfold be;dsimp only
      rw[ah hk,cond_true,aC hk,K8,K9 hk,K8,aC (by omega),K8,K9 (by omega),K8]
      refine ad (ih n kids[k] _ (by omega) (by omega) (by omega) k3) ?_
      rintro m ⟨hm,hml⟩
      rw[aj (by omega) (by omega),K8]
      refine aa (.inl ⟨l++m,rfl,by rw[La,TF];omega,λx hx=>?_⟩)
      rcases OB.1 hx with hx | hx
      ·exact hll x hx
      ·exact hml x hx
     ·rintro l hl;unfold be;dsimp only;rw[ar,cond_false];exact aa ⟨l,rfl,hl⟩
    ·rintro l ⟨hl,hll⟩;refine aa ⟨?_,hll⟩
     have h2:kids.length*16 ^ d≤16*16 ^ d:=Rp _ (by omega)
     rw[Nat.pow_succ,Nat.mul_comm (16 ^ d)];omega
theorem ra{N:Nat}{s:JF}(h:Inv N s)(label:Int):Gv (bY s label) λl=>l.length≤4096∧∀x∈l,Nq s.Lf x.LC=true:=by
 unfold bY j_;rw[o0 h.sb,K8]
 refine ad (F5 h label 3 63 root _ (by decide) (by omega) (by omega) (vH h.cf)) ?_
 rintro l ⟨hl,hll⟩;have hl:l.length≤4096:=hl
 refine ad (P:=λm=>m.length=l.length∧∀x∈m,x∈l) ?_ λm hm=>aa ⟨by rw[hm.1];exact hl,λx hx=>hll x (hm.2 x hx)⟩
 refine ay (λ(t:List MC) i=>(t,i)) l.length (λk m=>m.length=k∧∀x∈m,x∈l) (step:=bf l) (by omega) ?_ ?_ (s:=[]) ⟨rfl,by simp⟩
 ·rintro k hk m ⟨hm,hml⟩;unfold bf;dsimp only;rw[ah hk,cond_true];refine ad (P:=λj=>∃i:Nat,j=(i:Int)∧i≤m.length) ?_ ?_
  ·have ew:=jT m (λy=>Op.bytesLess y.LC l[k].LC) (step:=bz l (m,(k:Int))) (by omega) ?_ ?_
   ·rw[ew];exact aa ⟨_,rfl,mg _ _⟩
   ·intro j hj;unfold bz;dsimp only;rw[ah hj,cond_true,aC hj,K8,K9 hj,K8,aC hk,K8,K9 hk,K8,K8]
    cases Op.bytesLess m[j].LC l[k].LC<;>rfl
   ·unfold bz;dsimp only;rw[ar];rfl
  ·rintro j ⟨i,rfl,hi⟩
   refine ad (qe (l:=m) (by omega) (by omega) (by omega)) ?_
   rintro p ⟨p1,p2⟩
   rw[aj (by simp;omega) (by omega),K8,aC hk,K8,K9 hk,K8,aj (by simp;omega) (by omega),K8]
   refine ad (qe (l:=m) (by omega) (by omega) (by omega)) ?_
   rintro p' ⟨q1,q2⟩
   rw[aj (by simp;omega) (by omega),K8]
   refine aa (.inl ⟨_,rfl,by simp;omega,λx hx=>?_⟩)
   simp only[PE,OB,Lb]at hx;rcases hx with(hx | rfl) | hx
   ·exact hml x (p2 x hx)
   ·exact NQ hk
   ·exact hml x (q2 x hx)
 ·rintro m hm;unfold bf;rw[ar];exact aa ⟨m,rfl,hm⟩
theorem Ip{N:Nat}{s:JF}(h:Inv N s)(label:Int)(Ld:Str):Gv (cU s label Ld) λ_=>True:=by
 unfold cU;refine ad (ra h label) ?_;rintro l ⟨hl,_⟩;refine ad (P:=λ_=>True) ?_ ?_
 ·refine ay (λ(_:Unit) i=>i) l.length (λ_ _=>True) (step:=bE Ld l) (by omega) ?_ ?_ (s:=()) trivial
  ·intro k hk _ _;unfold bE;rw[ah hk,cond_true];simp only[aC hk,K8,K9 hk];exact ae (λ_=>aa (.inr ⟨_,rfl,trivial⟩)) λ_=>aa (.inl ⟨(),rfl,trivial⟩)
  ·intro _ _;unfold bE;rw[ar];exact aa ⟨_,rfl,trivial⟩
 ·rintro(q | q) _
  ·exact aa trivial
  ·exact aa trivial
end Go.Fx.D

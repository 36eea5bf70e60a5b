/-
  The reference manager: what holds of its state after every script. Conditions: none.
-/
import Derived.Test.YtdickabkndfjhaaGreatS17
namespace Go.Fx.D
open Go Go.Fx
set_option linter.unusedVariables false
set_option linter.unusedSimpArgs false
theorem l9{s t:List UInt8}(hs:∀b∈s,b≠45)(ht:∀b∈t,b≠45):∀b∈s++t,b≠45:=λb hb=>(N_.1 hb).elim (hs b) (ht b)
theorem AJ{n:Int}{k:Nat}(h0:0≤n)(h1:n<10)(hk:1≤k):Gv (some (List.map toB [IntKind.u8.wrap (LC (48+n))])) λs=>s.length≤k∧∀b∈s,b≠45:=by
 refine aa ⟨by simpa using hk,?_⟩
 have:n=0∨n=1∨n=2∨n=3∨n=4∨n=5∨n=6∨n=7∨n=8∨n=9:=by omega
 rcases this with rfl | rfl | rfl | rfl | rfl | rfl | rfl | rfl | rfl | rfl<;>decide +kernel
theorem DT:∀(d m:Nat)(n:Int),d≤m→0≤n→n<10 ^ (d+1)→d≤15→Gv (cy (m+1) n) λs=>s.length≤2 ^ d∧∀b∈s,b≠45:=by
 intro d
 induction d with
 | zero=>
  intro m n _ h0 h1 _;show Gv (dw (cy m) n) _;unfold dw
  have h1:n<10:=by simpa using h1
  rw[decide_eq_false (by omega),cond_false,decide_eq_false (by omega),cond_false]
  exact AJ h0 h1 (by decide)
 | succ d ih=>
  intro m n hm h0 h1 hd
  obtain⟨m,rfl⟩:∃k,m=k+1:=⟨m - 1,by omega⟩
  show Gv (dw (cy (m+1)) n) _;unfold dw
  rw[decide_eq_false (by omega:¬ n<0),cond_false]
  refine ae (λh10=>?_) λh10=>AJ h0 (by simp only[decide_eq_false_iff_not]at h10;omega) (Nat.one_le_pow _ _ (by omega))
  simp only[decide_eq_true_eq]at h10;have e1:Int.tdiv n 10=n / 10:=QeA h0;have e2:Int.tmod n 10=n % 10:=Int.tmod_eq_emod_of_nonneg h0
  have hp:(10:Int) ^ (d+1+1)=10 ^ (d+1)*10:=by rw[Int.pow_succ]
  have hb:(10:Int) ^ (d+1)≤10 ^ 15:=by
   have:(10:Nat) ^ (d+1)≤10 ^ 15:=QdV (by omega) (by omega)
   exact_mod_cast this
  have h10p:(10:Int)≤10 ^ (d+1):=by
   have:(10:Nat) ^ 1≤10 ^ (d+1):=QdV (by omega) (by omega)
   exact_mod_cast this
  have hb15:(10:Int) ^ 15=1000000000000000:=by decide
  rw[e1,e2,aj (by omega) (by omega)]
  refine ad (ih m (n / 10) (by omega) (by omega) (by omega) (by omega)) λx1 hx1=>?_
  refine ad (ih m (n % 10) (by omega) (by omega) (by omega) (by omega)) λx2 hx2=>?_
  have VH:2 ^ d≤2 ^ 15:=QdV (by omega) (by omega)
  rw[eD (by have:=hx1.1;have:=hx2.1;omega),K_]
  refine aa ⟨?_,λb hb=>?_⟩
  ·rw[Lc,Nat.pow_succ];have:=hx1.1;have:=hx2.1;omega
  ·rcases N_.1 hb with hb | hb
   ·exact hx1.2 b hb
   ·exact hx2.2 b hb
theorem zJ{n:Int}(h0:0≤n)(h1:n≤1000000):Gv (cX n) λs=>s.length≤64∧∀b∈s,b≠45:=by
 unfold cX
 exact DT 6 63 n (by omega) h0 (by omega) (by omega)
theorem CF{L Q:Nat}(hL:L≤10)(hQ:Q≤10){c:Lg}(hc:CB L Q c):Gv (iJ c) λs=>∀b∈s,b≠45:=by
 unfold iJ;refine ad (P:=λs=>s.length≤1000∧∀b∈s,b≠45) ?_ λs hs=>?_
 ·refine jA (λt:List UInt8×Int=>1≤t.2∧t.2≤11∧(t.1.length:Int)≤6+30*t.2∧∀b∈t.1,b≠45) (λt=>(11 - t.2).toNat) ?_ ⟨by dsimp only;omega,by dsimp only;omega,by dsimp only;simp,by decide⟩
  rintro⟨s,i⟩ ⟨h1,h2,h3,h4⟩;dsimp only at h1 h2 h3 h4;unfold oR;dsimp only
  refine ae (λhlt=>?_) λ_=>aa (.inr ⟨s,rfl,by omega,h4⟩)
  simp only[decide_eq_true_eq]at hlt;have hl:=hc.lab
  rw[eD (by simp;omega),K_]
  refine ad (eh (by omega) hlt) λx hx=>?_
  have hxl:=hc.aaH x hx.1
  rw[eD (by simp;omega),K_]
  refine aa (.inl ⟨_,rfl,?_,?_⟩)
  ·rw[aj (x:=i+1) (by omega) (by omega)]
   dsimp only;simp only[Lc,P5,Xb]
   exact⟨by omega,by omega,by omega,l9 (l9 h4 (by decide)) (hc.nl x hx.1)⟩
  ·rw[aj (x:=i+1) (by omega) (by omega)]
   dsimp only;omega
 ·obtain⟨hs,hsn⟩:=hs
  rw[eD (by simp;omega),K_]
  refine ad (P:=λs=>∀b∈s,b≠45) ?_ λ_ h=>aa h
  refine az (λ(s:List UInt8) i=>(s,i)) c.Lh.length (λk s=>s.length≤1001+k*3000∧∀b∈s,b≠45) (step:=iP c) (by have:=hc.qs;omega) ?_ ?_ (s:=_) ⟨by simp;omega,l9 hsn (by decide)⟩
  ·rintro k hk s ⟨hs,hsn⟩;have hq:=hc.q _ (Nq hk);have hp:=hq.Lf;have hqs:=hc.qs;unfold iP;dsimp only
   rw[ah hk,cond_true,ai hk,K_,eD (by simp;omega),K_,eD (by simp;omega),K_,eD (by simp;omega),K_]
   refine ad (zJ hq.user.1 hq.user.2) λx2 hx2=>?_;obtain⟨hx2,hn2⟩:=hx2
   rw[eD (by simp;omega),K_]
   refine ad (P:=λm=>m.length≤1001+k*3000+200+10*200∧∀b∈m,b≠45) ?_ λm hm=>?_
   ·refine az (λ(s:List UInt8) i=>(s,i)) c.Lh[k].MS.length (λj m=>m.length≤1001+k*3000+200+j*200∧∀b∈m,b≠45) (step:=i9 c.Lh[k]) (by have:=hq.caps;omega) ?_ ?_ (s:=_) ⟨by simp;omega,l9 (l9 (l9 (l9 hsn (by decide)) hq.nd) (by decide)) hn2⟩
    ·rintro j hj m ⟨hm,hmn⟩;have hcap:=hq.cap _ (Nq hj);have hcl:=hq.caps;unfold i9;dsimp only
     rw[ah hj,cond_true,eD (by simp;omega),K_]
     simp only[ai hj,K_];refine ad (zJ hcap.1.1 hcap.1.2) λx4 hx4=>?_;obtain⟨hx4,hn4⟩:=hx4
     rw[eD (by simp;omega),K_,eD (by simp;omega),K_]
     refine ad (zJ hcap.2.1 hcap.2.2) λx6 hx6=>?_;obtain⟨hx6,hn6⟩:=hx6
     rw[eD (by simp;omega),K_]
     exact aa (.inl ⟨_,rfl,by simp only[Lc,P5,Xb];omega,l9 (l9 (l9 (l9 hmn (by decide)) hn4) (by decide)) hn6⟩)
    ·rintro m ⟨hm,hmn⟩;have hcl:=hq.caps;unfold i9;dsimp only;rw[am,cond_false]
     exact aa ⟨m,rfl,by omega,hmn⟩
   ·obtain⟨hm,hmn⟩:=hm
    rw[eD (by simp;omega),K_]
    exact aa (.inl ⟨_,rfl,by simp only[Lc,P5,Xb];omega,l9 hmn (by decide)⟩)
  ·rintro s ⟨hs,hsn⟩;unfold iP;dsimp only;rw[am,cond_false];exact aa ⟨s,rfl,hsn⟩
theorem Ck:∀(l:List Ls),l≠[]→∃q∈l,∀x∈l,x.LB.length≤q.LB.length
 | [],h=>absurd rfl h
 | [q],_=>⟨q,by simp,by simp⟩
 | q::r::l,_=>by
  obtain⟨m,hm,h⟩:=Ck (r::l) (by simp)
  by_cases hq:q.LB.length≤m.LB.length
  ·refine⟨m,by simp[hm],λx hx=>?_⟩
   rcases NH.1 hx with rfl | hx
   ·exact hq
   ·exact h x hx
  ·refine⟨q,by simp,λx hx=>?_⟩
   rcases NH.1 hx with rfl | hx
   ·exact MO _
   ·have:=h x hx;omega
theorem BC{c:Lg}(h:Nj c):∃q∈c.Lh,Nu c q.LB=true:=by
 have hq:=h.qs
 obtain⟨q,hq,hmax⟩:=Ck c.Lh (by intro e;rw[e]at hq;simp at hq)
 refine⟨q,hq,?_⟩;obtain⟨q',e,_⟩:=pz hq
 have hk:Ma c q.LB = []:=by
  cases hk:Ma c q.LB with
  | nil=>rfl
  | cons x l=>
   have hx:x∈Ma c q.LB:=by rw[hk];simp
   obtain⟨hp,y,hy,rfl,ha⟩:=eW hx
   have hne:y.LB≠[]:=λe=>by rw[e]at ha;exact hp ha.symm
   have:=fY hne;have:=hmax y hy;rw[ha]at *;omega
 unfold Nu;rw[e,hk];rfl
def qT(c:Lg):List Str:=(c.Lh.filter λq=>Nu c q.LB).map (·.LB)
theorem DU{c:Lg}(h:Nj c):jW c=some (qT c):=by
 have hq:=h.qs;unfold jW
 have e:=bQ (λ(l:List Str) i=>(l,i)) c.Lh (λq=>Nu c q.LB) (·.LB) (step:=fQ c) (by omega) ?_ ?_
 ·rw[e];rfl
 ·intro k hk l hl;unfold fQ;dsimp only;rw[ah hk,cond_true];simp only[ai hk,K_];rw[uS h.small,K_]
  cases hp:Nu c c.Lh[k].LB
  ·rfl
  ·rw[cond_true,ao (by simp;omega) (by omega)]
   rfl
 ·intro l;unfold fQ;rw[am];rfl
theorem Bz{c:Lg}(h:Nj c):0<(qT c).length∧(qT c).length≤16:=by
 obtain⟨q,hq,hl⟩:=BC h;have hqs:=h.qs;constructor
 ·exact QeR (a:=q.LB) (RA.2 ⟨q,Ta.2 ⟨hq,hl⟩,rfl⟩)
 ·unfold qT;rw[PI];exact P6 (TP _ _) hqs.2
theorem we(n:Int):Gv (eS n) λ_=>True:=by
 unfold eS
 refine ad (b7 n (n:=5) (by omega) (by omega)) λx hx=>?_
 refine ad (me hx.1 (by simp;omega)) ?_
 rintro i rfl
 exact ad (cY (mX (by simp;omega))) λ_ _=>aa trivial
theorem C6{N:Nat}{s:JG}(h:Inv N s)(a:Act):Gv (fa a s) WR:=by
 have hal:=h.al;have hcl:=h.cl;have hlb:=h.cf.lab;unfold fa
 refine ae (λ_=>aa ⟨by simp,by simp,by simp,by simp⟩) λhz=>?_
 have hz:(s.Lv.length:Int)≠0:=by simpa using hz
 refine ad (b7 a.A (n:=s.Lv.length) (by omega) (by omega)) λx hx=>?_
 refine ad (cY (eh hx.1 hx.2)) λx1 _=>?_
 refine ad (b7 a.B (n:=8) (by omega) (by omega)) λx2 _=>?_
 refine ad (P:=λi=>i.Ids.length≤0∧i.Mq.length≤1000∧0≤i.LM.User∧i.LM.User≤2∧∀b∈i.Text,b≠45) ?_ ?_
 ·refine ae (λ_=>?_) λ_=>aa ⟨by simp,by simp,by simp⟩
  refine ad (cY (b7 a.B (n:=5) (by omega) (by omega))) λx3 _=>ad (cY (b7 a.C (n:=s.Lg.Lm.length) (by omega) (by omega))) λx4 _=>
   ad (we a.D) λx5 _=>ad (cY (b7 a.D (n:=7) (by omega) (by omega))) λx6 _=>?_
  refine ad (P:=λ_=>True) ?_ λk _=>?_
  ·refine ae (λ_=>ad (cY (b7 a.C (n:=3) (by omega) (by omega))) λ_ _=>aa trivial) λ_=>aa trivial
  refine ad (P:=λ_=>True) ?_ λk1 _=>aa ⟨by simp,by simp,by simp⟩
  refine ae (λ_=>ad (cY (b7 a.C (n:=3) (by omega) (by omega))) λ_ _=>ad (cY (b7 a.B (n:=6) (by omega) (by omega))) λ_ _=>aa trivial) λ_=>aa trivial
 ·intro i0 hi0;refine ad (P:=WR) ?_ λi hi=>aa hi
  refine az (λ(i:Input) k=>(i,k)) s.Kl.length (λk i=>i.Ids.length≤k∧i.Mq.length≤1000∧0≤i.LM.User∧i.LM.User≤2∧∀b∈i.Text,b≠45) (step:=dI a s x1) (by omega) ?_ ?_ (s:=i0) hi0
  ·rintro k hk i ⟨q1,q2,q3⟩;unfold dI;dsimp only;rw[ah hk,cond_true];refine ad (P:=λi=>i.Ids.length≤k+1∧i.Mq.length≤1000∧0≤i.LM.User∧i.LM.User≤2∧∀b∈i.Text,b≠45) ?_ λi hi=>aa (.inl ⟨i,rfl,hi⟩);simp only[ai hk,K_];refine ad (P:=λ_=>True) ?_ λq _=>?_
   ·exact ae (λ_=>ad (cY (b7 _ (n:=11) (by omega) (by omega))) λ_ _=>aa trivial) λ_=>aa trivial
   ·refine ae (λ_=>?_) λ_=>aa ⟨by omega,q2,q3⟩
    rw[ao (by simp;omega) (by omega),K_]
    exact aa ⟨by simp;omega,q2,q3⟩
  ·rintro i ⟨q1,q2,q3⟩;unfold dI;rw[am]
   exact aa ⟨i,rfl,⟨by omega,q2,⟨q3.1,q3.2.1⟩,q3.2.2⟩⟩
theorem GV{N:Nat}{s:JG}(h:Inv N s)(a:Act):Gv (fX a s) WR:=by
 have hnl:=h.nl;have hcl:=h.cl;have hlb:=h.cf.lab;have hlv:=Bz h.cf
 have w:∀(x:Int){n:Int},0<n→n≤1000000→Gv (au x n) λ_=>True:=λx n h0 h1=>cY (b7 x h0 (by omega))
 have ok:∀{i:Input},i.Ids = []→i.Mq = []→i.LM.User=0→i.Text = []→WR i:=λe1 e2 e3 e4=>⟨by rw[e1];simp,by rw[e2];simp,by omega,by rw[e4];simp⟩
 unfold fX
 refine ad (w a.A (n:=6) (by omega) (by omega)) λN8 _=>?_
 rw[DU h.cf,K_]
 refine ad (w a.B (n:=4) (by omega) (by omega)) λx _=>?_
 refine ad (P:=WR) ?_ λi hi=>aa hi
 refine ad (w a.Kind (n:=16) (by omega) (by omega)) λx1 _=>?_
 have tst:∀(c:Bool)(b d:Bool),Gv (bif c then some b else some d) λ_=>True:=λc b d=>by cases c<;>exact aa trivial
 refine ad (tst _ _ _) λq _=>ae (λ_=>?_) λ_=>?_
 ·refine ad (w a.B (n:=s.Lg.Lm.length) (by omega) (by omega)) λx2 _=>ad (w a.C (n:=3) (by omega) (by omega)) λx3 _=>ad (w a.D (n:=12) (by omega) (by omega)) λx4 _=>
   ad (w a.D (n:=8) (by omega) (by omega)) λx5 _=>aa (ok rfl rfl rfl rfl)
 refine ad (P:=λ_=>True) ?_ λq1 _=>ae (λ_=>?_) λ_=>?_
 ·repeat' (first | exact⟨_,rfl,trivial⟩ | refine ae (λ_=>?_) (λ_=>?_))
 ·refine ad (P:=λi=>i.Ids.length≤0∧i.Mq.length≤1000∧0≤i.LM.User∧i.LM.User≤2∧∀b∈i.Text,b≠45) ?_ λi0 hi0=>?_
  ·refine az (λ(i:Input) k=>(i,k)) s.Lu.length (λk i=>i.Ids.length≤0∧i.Mq.length≤1000∧0≤i.LM.User∧i.LM.User≤2∧∀b∈i.Text,b≠45) (step:=d5 a s N8) (by omega) ?_ ?_ (s:=_) ⟨by simp,by simp,by simp,by simp,by simp⟩
   ·rintro k hk i hi;unfold d5;dsimp only;rw[ah hk,cond_true];refine ad (P:=λi=>i.Ids.length≤0∧i.Mq.length≤1000∧0≤i.LM.User∧i.LM.User≤2∧∀b∈i.Text,b≠45) ?_ λi hi=>aa (.inl ⟨i,rfl,hi⟩);simp only[ai hk,K_]
    exact ae (λ_=>ad (w a.B (n:=8) (by omega) (by omega)) λ_ _=>aa hi) λ_=>aa hi
   ·rintro i hi;unfold d5;rw[am];exact aa ⟨i,rfl,hi⟩
  ·refine ad (P:=WR) ?_ λi hi=>aa hi
   refine az (λ(i:Input) k=>(i,k)) s.Kl.length (λk i=>i.Ids.length≤k∧i.Mq.length≤1000∧0≤i.LM.User∧i.LM.User≤2∧∀b∈i.Text,b≠45) (step:=d6 a s N8) (by omega) ?_ ?_ (s:=i0) hi0
   ·rintro k hk i ⟨q1,q2,q3⟩;unfold d6;dsimp only;rw[ah hk,cond_true];refine ad (P:=λi=>i.Ids.length≤k+1∧i.Mq.length≤1000∧0≤i.LM.User∧i.LM.User≤2∧∀b∈i.Text,b≠45) ?_ λi hi=>aa (.inl ⟨i,rfl,hi⟩);simp only[ai hk,K_];refine ad (P:=λ_=>True) ?_ λq _=>?_
    ·exact ae (λ_=>ad (w _ (n:=9) (by omega) (by omega)) λ_ _=>aa trivial) λ_=>aa trivial
    ·refine ae (λ_=>?_) λ_=>aa ⟨by omega,q2,q3⟩
     rw[ao (by simp;omega) (by omega),K_]
     exact aa ⟨by simp;omega,q2,q3⟩
   ·rintro i ⟨q1,q2,q3⟩;unfold d6;rw[am]
    exact aa ⟨i,rfl,⟨by omega,q2,⟨q3.1,q3.2.1⟩,q3.2.2⟩⟩
 refine ad (tst _ _ _) λq3 _=>ae (λ_=>?_) λ_=>?_
 ·refine ad (w a.A (n:=20) (by omega) (by omega)) λYx _=>ad (b7 a.B (n:=(qT s.Lg).length) (by omega) (by omega)) λWd aaJ=>?_
  refine ad (me aaJ.1 aaJ.2) ?_;rintro i rfl
  refine ad (cY (mX (by omega))) λx18 _=>ad (b7 a.C (n:=3) (by omega) (by omega)) λx19 hx19=>ad (w a.D (n:=3) (by omega) (by omega)) λx20 _=>ad (we _) λx21 _=>aa ⟨by simp,by simp,by dsimp only;omega,by simp⟩
 refine ad (P:=λ_=>True) ?_ λq4 _=>ae (λ_=>?_) λ_=>?_
 ·repeat' (first | exact⟨_,rfl,trivial⟩ | refine ae (λ_=>?_) (λ_=>?_))
 ·exact ad (C6 h a) λi hi=>aa hi
 refine ae (λ_=>?_) λ_=>?_
 ·refine ad (b7 a.B (n:=2) (by omega) (by omega)) λx23 hx=>?_
  refine ad (me hx.1 (by simp;omega)) ?_
  rintro i rfl
  exact ad (cY (mX (by simp;omega))) λx24 _=>ad (w a.A (n:=20) (by omega) (by omega)) λx25 _=>aa (ok rfl rfl rfl rfl)
 refine ad (tst _ _ _) λq5 _=>ae (λ_=>?_) λ_=>?_
 ·exact ad (w a.A (n:=5) (by omega) (by omega)) λx26 _=>aa (ok rfl rfl rfl rfl)
 refine ae (λ_=>?_) λ_=>?_
 ·refine ad (b7 a.D (n:=3) (by omega) (by omega)) λx27 hx=>?_
  refine ad (me hx.1 (by simp;omega)) ?_
  rintro i rfl
  exact ad (cY (mX (by simp;omega))) λx28 _=>ad (w a.B (n:=s.Lg.Lm.length) (by omega) (by omega)) λx29 _=>ad (w a.C (n:=5) (by omega) (by omega)) λx30 _=>ad (we _) λx31 _=>
   ad (w a.C (n:=12) (by omega) (by omega)) λx32 _=>aa (ok rfl rfl rfl rfl)
 refine ae (λ_=>?_) λ_=>aa (ok rfl rfl rfl rfl)
 refine ad (b7 a.A (n:=3) (by omega) (by omega)) λx33 hx=>?_
 refine ad (me hx.1 (by simp;omega)) ?_
 rintro i rfl
 refine ad (cY (mX (by simp;omega))) λx34 _=>ad (C1 a.B (ns:=[a.C,a.D]) (by simp)) ?_
 rintro c ⟨L,Q,hL,hQ,hc⟩
 exact ad (CF hL hQ hc) λx36 h36=>aa ⟨by simp,by simp,by dsimp only;omega,h36⟩
def newS:JG:=⟨⟨[([]:List UInt8)],[⟨root,[⟨10000,10000⟩],10000⟩]⟩,[],[],[],[],[],0,0,0⟩
theorem X7{τ σ : Type}{step:τ→Option (τ ⊕ σ)}{t t':τ}(h:step t=some (.inl t')):loop step t=loop step t':=by rw[aP,h]
theorem fin{τ σ : Type}{step:τ→Option (τ ⊕ σ)}{t:τ}{r:σ}(h:step t=some (.inr r)):loop step t=some r:=by rw[aP,h]
theorem Hr(hs:Pb newS.Lg):bw newS.Lg=some 0:=by
 have nm:dg root=some true:=by unfold dg;show(loop (iX root) 0).bind _=_;rw[X7 (t':=1) rfl,X7 (t':=2) rfl,X7 (t':=3) rfl,X7 (t':=4) rfl,fin (r:=.inr ()) rfl];rfl
 have s4:cp root (0,0,4)=some (.inl (5,1,5)):=by
  unfold cp;dsimp only
  rw[show decide ((4:Int)≤(root.length:Int))=true from rfl,cond_true,show decide ((4:Int)<(root.length:Int))=false from rfl,cond_false,K_,cond_false,show slc root 0 4=some root from rfl,K_,nm,K_]
  rfl
 have ip:dm root=some true:=by unfold dm;rw[X7 (t':=(0,0,1)) rfl,X7 (t':=(0,0,2)) rfl,X7 (t':=(0,0,3)) rfl,X7 (t':=(0,0,4)) rfl,X7 s4,fin (r:=.inr 1) rfl];rfl
 have qu:cM newS.Lg 0=some 0:=by
  unfold cM
  rw[show idx newS.Lg.Lh 0=some ⟨root,[⟨10000,10000⟩],10000⟩from rfl,K_]
  dsimp only
  rw[ip,K_,PG,cond_false,show decide ((0:Int)>0)=false from rfl,cond_false,K_,cond_false,sF (by decide),K_,pA hs,K_,cond_false,K_,cond_false]
  rw[X7 (t':=1) rfl,fin (r:=.inr ()) rfl];rfl
 have lb:cB newS.Lg=some 0:=by unfold cB;rw[fin (step:=kW newS.Lg) (r:=.inr ()) rfl,fin (step:=kT newS.Lg) (r:=.inr ()) rfl];rfl
 have sm:eO newS.Lg=some true:=by
  unfold eO
  have k0:eg newS.Lg 0=some (.inl 1):=by
   unfold eg
   rw[show decide ((0:Int)<(newS.Lg.Lh.length:Int))=true from rfl,cond_true,show idx newS.Lg.Lh 0=some ⟨root,[⟨10000,10000⟩],10000⟩from rfl,K_,nf hs,K_,show Ma newS.Lg root = []from by decide]
   rw[fin (r:=.inr ()) rfl];rfl
  rw[X7 k0,fin (r:=.inr ()) rfl];rfl
 unfold bw
 rw[lb,K_,show((0:Int) != 0)=false from rfl,cond_false,show((newS.Lg.Lh.length:Int) == 0)=false from rfl,cond_false,show idx newS.Lg.Lh 0=some ⟨root,[⟨10000,10000⟩],10000⟩from rfl,K_,K_,
  show(!((⟨root,[⟨10000,10000⟩],10000⟩:Ls).LB == ([114,111,111,116]:List UInt8)))=false from rfl,cond_false]
 have c0:dS newS.Lg 0=some (.inl 1):=by unfold dS;rw[qu];rfl
 rw[X7 c0,fin (r:=.inr ()) rfl,K_];dsimp only;rw[X7 (step:=dV newS.Lg) (t':=1) rfl,fin (step:=dV newS.Lg) (r:=.inr ()) rfl,K_];dsimp only;rw[sm];rfl
theorem wa:Inv 0 newS:=by
 have hq:QOk newS.Lg 0 ⟨root,[⟨10000,10000⟩],10000⟩:=by
  refine⟨⟨by decide,by decide,.inl rfl,by decide⟩,λp h=>absurd h (by omega),λh=>absurd h (by omega),by dsimp only;omega,rfl,λx hx=>?_⟩
  have:x=⟨10000,10000⟩:=by simpa using hx
  subst this
  exact⟨by dsimp only;omega,by dsimp only;omega,by dsimp only;omega⟩
 have cf:Nj newS.Lg:=by
  refine⟨by decide,rfl,by decide,by decide,⟨_,rfl,rfl,λx hx=>by simpa using hx⟩,λi hi=>?_,λq hq'=>?_,λq hq'=>?_⟩
  ·have hi:i=0:=by have:i<1:=hi;omega
   subst hi;exact hq
  ·have hq':q=⟨root,[⟨10000,10000⟩],10000⟩:=by simpa[newS]using hq'
   subst hq';intro hk
   exact absurd (by decide) hk
  ·have hq':q=⟨root,[⟨10000,10000⟩],10000⟩:=by simpa[newS]using hq'
   subst hq';decide
 have no:∀{α : Type}{P:α→Prop},∀x∈([]:List α),P x:=λx hx=>(QfC hx).elim
 exact⟨cf,(by decide),List.Pairwise.nil,no,(by decide),List.Pairwise.nil,no,(by decide),List.Pairwise.nil,no,List.Pairwise.nil,no,(by decide),List.Pairwise.nil,no,(by decide),(by decide),(by decide),⟨by decide,by decide,no⟩,Hr cf.small,no,no,no,no,no⟩
theorem Er:lA=some newS:=rfl
theorem Ho(x:Script)(h1:x.Ns.length≤30)(h2:x.UC.length≤80):Gv (cG x) (Inv 400000):=by
 unfold cG;rw[Er,K_]
 refine ad (C1 x.Shape (ns:=x.Ns) (by omega)) ?_
 rintro c ⟨L,Q,hL,hQ,hc⟩;refine ad (CF hL hQ hc) λx3 hx3=>?_
 refine ad (Cl (by omega) wa ⟨by simp,by simp,by simp,hx3⟩) λx4 hx4=>?_
 refine ad (P:=Inv 4000) ?_ λs hs=>?_
 ·exact ae (λ_=>aa (hx4.mono (by omega))) λ_=>aa (wa.mono (by omega))
 ·refine ad (P:=Inv 400000) ?_ λt ht=>aa ht
  refine az (λ(s:JG) k=>(s,k)) x.UC.length (λk s=>Inv (4000+4000*k) s) (step:=cW x) (by omega) ?_ ?_ (s:=s) hs
  ·intro k hk t ht;unfold cW;dsimp only;rw[ah hk,cond_true,ai hk,K_]
   refine ad (GV ht _) λi hi=>ad (Cl (by omega) ht hi) λr hr=>aa (.inl ⟨r.1,rfl,hr.mono (by omega)⟩)
  ·intro t ht;unfold cW;rw[am]
   exact aa ⟨t,rfl,ht.mono (by omega)⟩
end Go.Fx.D

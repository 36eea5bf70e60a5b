/-
  The reference manager: what holds of its state after every script. Conditions: none.
-/
import Derived.Test.YtdickabkndfjhaaGreatS17
namespace Go.Fx.D
open Go Go.Fx
set_option linter.unusedVariables false
set_option linter.unusedSimpArgs false
theorem lF{s t:List UInt8}(hs:∀b∈s,b≠45)(ht:∀b∈t,b≠45):∀b∈s++t,b≠45:=λb hb=>(OB.1 hb).elim (hs b) (ht b)
theorem zT{n:Int}{k:Nat}(h0:0≤n)(h1:n<10)(hk:1≤k):Gv (some (List.map toB [IntKind.u8.wrap (Lx (48+n))])) λs=>s.length≤k∧∀b∈s,b≠45:=by
 refine aa ⟨by simpa using hk,?_⟩
 have:n=0∨n=1∨n=2∨n=3∨n=4∨n=5∨n=6∨n=7∨n=8∨n=9:=by omega
 rcases this with rfl | rfl | rfl | rfl | rfl | rfl | rfl | rfl | rfl | rfl<;>decide +kernel
theorem Dh:∀(d m:Nat)(n:Int),d≤m→0≤n→n<10 ^ (d+1)→d≤15→Gv (b8 (m+1) n) λs=>s.length≤2 ^ d∧∀b∈s,b≠45:=by
 intro d
 induction d with
 | zero=>
  intro m n _ h0 h1 _;show Gv (dh (b8 m) n) _;unfold dh
  have h1:n<10:=by simpa using h1
  rw[decide_eq_false (by omega),cond_false,decide_eq_false (by omega),cond_false]
  exact zT h0 h1 (by decide)
 | succ d ih=>
  intro m n hm h0 h1 hd
  obtain⟨m,rfl⟩:∃k,m=k+1:=⟨m - 1,by omega⟩
  show Gv (dh (b8 (m+1)) n) _;unfold dh
  rw[decide_eq_false (by omega:¬ n<0),cond_false]
  refine ae (λh10=>?_) λh10=>zT h0 (by simp only[decide_eq_false_iff_not]at h10;omega) (Nat.one_le_pow _ _ (by omega))
  simp only[decide_eq_true_eq]at h10;have e1:Int.tdiv n 10=n / 10:=QeC h0;have e2:Int.tmod n 10=n % 10:=Int.tmod_eq_emod_of_nonneg h0
  have hp:(10:Int) ^ (d+1+1)=10 ^ (d+1)*10:=by rw[Int.pow_succ]
  have hb:(10:Int) ^ (d+1)≤10 ^ 15:=by
   have:(10:Nat) ^ (d+1)≤10 ^ 15:=QdV (by omega) (by omega)
   exact_mod_cast this
  have h10p:(10:Int)≤10 ^ (d+1):=by
   have:(10:Nat) ^ 1≤10 ^ (d+1):=QdV (by omega) (by omega)
   exact_mod_cast this
  have hb15:(10:Int) ^ 15=1000000000000000:=by decide
  rw[e1,e2,am (by omega) (by omega)]
  refine ad (ih m (n / 10) (by omega) (by omega) (by omega) (by omega)) λx1 hx1=>?_
  refine ad (ih m (n % 10) (by omega) (by omega) (by omega) (by omega)) λx2 hx2=>?_
  have VF:2 ^ d≤2 ^ 15:=QdV (by omega) (by omega)
  rw[eD (by have:=hx1.1;have:=hx2.1;omega),K8]
  refine aa ⟨?_,λb hb=>?_⟩
  ·rw[La,Nat.pow_succ];have:=hx1.1;have:=hx2.1;omega
  ·rcases OB.1 hb with hb | hb
   ·exact hx1.2 b hb
   ·exact hx2.2 b hb
theorem zO{n:Int}(h0:0≤n)(h1:n≤1000000):Gv (cH n) λs=>s.length≤64∧∀b∈s,b≠45:=by
 unfold cH
 exact Dh 6 63 n (by omega) h0 (by omega) (by omega)
theorem CG{L Q:Nat}(hL:L≤10)(hQ:Q≤10){c:Lf}(hc:CB L Q c):Gv (gX c) λs=>∀b∈s,b≠45:=by
 unfold gX;refine ad (P:=λs=>s.length≤1000∧∀b∈s,b≠45) ?_ λs hs=>?_
 ·refine gD (λt:List UInt8×Int=>1≤t.2∧t.2≤11∧(t.1.length:Int)≤6+30*t.2∧∀b∈t.1,b≠45) (λt=>(11 - t.2).toNat) ?_ ⟨by dsimp only;omega,by dsimp only;omega,by dsimp only;simp,by decide⟩
  rintro⟨s,i⟩ ⟨h1,h2,h3,h4⟩;dsimp only at h1 h2 h3 h4;unfold nZ;dsimp only
  refine ae (λhlt=>?_) λ_=>aa (.inr ⟨s,rfl,by omega,h4⟩)
  simp only[decide_eq_true_eq]at hlt;have hl:=hc.lab
  rw[eD (by simp;omega),K8]
  refine ad (eB (by omega) hlt) λx hx=>?_
  have hxl:=hc.aaq x hx.1
  rw[eD (by simp;omega),K8]
  refine aa (.inl ⟨_,rfl,?_,?_⟩)
  ·rw[am (x:=i+1) (by omega) (by omega)]
   dsimp only;simp only[La,PN,WV]
   exact⟨by omega,by omega,by omega,lF (lF h4 (by decide)) (hc.nl x hx.1)⟩
  ·rw[am (x:=i+1) (by omega) (by omega)]
   dsimp only;omega
 ·obtain⟨hs,hsn⟩:=hs
  rw[eD (by simp;omega),K8]
  refine ad (P:=λs=>∀b∈s,b≠45) ?_ λ_ h=>aa h
  refine ay (λ(s:List UInt8) i=>(s,i)) c.Lg.length (λk s=>s.length≤1001+k*3000∧∀b∈s,b≠45) (step:=iI c) (by have:=hc.qs;omega) ?_ ?_ (s:=_) ⟨by simp;omega,lF hsn (by decide)⟩
  ·rintro k hk s ⟨hs,hsn⟩;have hq:=hc.q _ (NQ hk);have hp:=hq.Ld;have hqs:=hc.qs;unfold iI;dsimp only
   rw[ah hk,cond_true,ai hk,K8,eD (by simp;omega),K8,eD (by simp;omega),K8,eD (by simp;omega),K8]
   refine ad (zO hq.user.1 hq.user.2) λx2 hx2=>?_;obtain⟨hx2,hn2⟩:=hx2
   rw[eD (by simp;omega),K8]
   refine ad (P:=λm=>m.length≤1001+k*3000+200+10*200∧∀b∈m,b≠45) ?_ λm hm=>?_
   ·refine ay (λ(s:List UInt8) i=>(s,i)) c.Lg[k].MR.length (λj m=>m.length≤1001+k*3000+200+j*200∧∀b∈m,b≠45) (step:=iC c.Lg[k]) (by have:=hq.caps;omega) ?_ ?_ (s:=_) ⟨by simp;omega,lF (lF (lF (lF hsn (by decide)) hq.nd) (by decide)) hn2⟩
    ·rintro j hj m ⟨hm,hmn⟩;have hcap:=hq.cap _ (NQ hj);have hcl:=hq.caps;unfold iC;dsimp only
     rw[ah hj,cond_true,eD (by simp;omega),K8]
     simp only[ai hj,K8];refine ad (zO hcap.1.1 hcap.1.2) λx4 hx4=>?_;obtain⟨hx4,hn4⟩:=hx4
     rw[eD (by simp;omega),K8,eD (by simp;omega),K8]
     refine ad (zO hcap.2.1 hcap.2.2) λx6 hx6=>?_;obtain⟨hx6,hn6⟩:=hx6
     rw[eD (by simp;omega),K8]
     exact aa (.inl ⟨_,rfl,by simp only[La,PN,WV];omega,lF (lF (lF (lF hmn (by decide)) hn4) (by decide)) hn6⟩)
    ·rintro m ⟨hm,hmn⟩;have hcl:=hq.caps;unfold iC;dsimp only;rw[ar,cond_false]
     exact aa ⟨m,rfl,by omega,hmn⟩
   ·obtain⟨hm,hmn⟩:=hm
    rw[eD (by simp;omega),K8]
    exact aa (.inl ⟨_,rfl,by simp only[La,PN,WV];omega,lF hmn (by decide)⟩)
  ·rintro s ⟨hs,hsn⟩;unfold iI;dsimp only;rw[ar,cond_false];exact aa ⟨s,rfl,hsn⟩
theorem BP:∀(l:List Lm),l≠[]→∃q∈l,∀x∈l,x.LC.length≤q.LC.length
 | [],h=>absurd rfl h
 | [q],_=>⟨q,by simp,by simp⟩
 | q::r::l,_=>by
  obtain⟨m,hm,h⟩:=BP (r::l) (by simp)
  by_cases hq:q.LC.length≤m.LC.length
  ·refine⟨m,by simp[hm],λx hx=>?_⟩
   rcases Nz.1 hx with rfl | hx
   ·exact hq
   ·exact h x hx
  ·refine⟨q,by simp,λx hx=>?_⟩
   rcases Nz.1 hx with rfl | hx
   ·exact MN _
   ·have:=h x hx;omega
theorem BI{c:Lf}(h:Nj c):∃q∈c.Lg,Nq c q.LC=true:=by
 have hq:=h.qs
 obtain⟨q,hq,hmax⟩:=BP c.Lg (by intro e;rw[e]at hq;simp at hq)
 refine⟨q,hq,?_⟩;obtain⟨q',e,_⟩:=oM hq
 have hk:LP c q.LC = []:=by
  cases hk:LP c q.LC with
  | nil=>rfl
  | cons x l=>
   have hx:x∈LP c q.LC:=by rw[hk];simp
   obtain⟨hp,y,hy,rfl,ha⟩:=dK hx
   have hne:y.LC≠[]:=λe=>by rw[e]at ha;exact hp ha.symm
   have:=cN hne;have:=hmax y hy;rw[ha]at *;omega
 unfold Nq;rw[e,hk];rfl
def qG(c:Lf):List Str:=(c.Lg.filter λq=>Nq c q.LC).map (·.LC)
theorem DQ{c:Lf}(h:Nj c):jp c=some (qG c):=by
 have hq:=h.qs;unfold jp
 have e:=bU (λ(l:List Str) i=>(l,i)) c.Lg (λq=>Nq c q.LC) (·.LC) (step:=fD c) (by omega) ?_ ?_
 ·rw[e];rfl
 ·intro k hk l hl;unfold fD;dsimp only;rw[ah hk,cond_true];simp only[ai hk,K8];rw[wR h.small,K8]
  cases hp:Nq c c.Lg[k].LC
  ·rfl
  ·rw[cond_true,aj (by simp;omega) (by omega)]
   rfl
 ·intro l;unfold fD;rw[ar];rfl
theorem BH{c:Lf}(h:Nj c):0<(qG c).length∧(qG c).length≤16:=by
 obtain⟨q,hq,hl⟩:=BI h;have hqs:=h.qs;constructor
 ·exact Qe_ (a:=q.LC) (Ra.2 ⟨q,PL.2 ⟨hq,hl⟩,rfl⟩)
 ·unfold qG;rw[Py];exact Rb (Um _ _) hqs.2
theorem vw(n:Int):Gv (eI n) λ_=>True:=by
 unfold eI
 refine ad (bQ n (n:=5) (by omega) (by omega)) λx hx=>?_
 refine ad (lQ hx.1 (by simp;omega)) ?_
 rintro i rfl
 exact ad (cL (mj (by simp;omega))) λ_ _=>aa trivial
theorem Dr{N:Nat}{s:JF}(h:Inv N s)(a:Act):Gv (eX a s) WJ:=by
 have hal:=h.al;have hcl:=h.cl;have hlb:=h.cf.lab;unfold eX
 refine ae (λ_=>aa ⟨by simp,by simp,by simp,by simp⟩) λhz=>?_
 have hz:(s.Lr.length:Int)≠0:=by simpa using hz
 refine ad (bQ a.A (n:=s.Lr.length) (by omega) (by omega)) λx hx=>?_
 refine ad (cL (eB hx.1 hx.2)) λx1 _=>?_
 refine ad (bQ a.B (n:=8) (by omega) (by omega)) λx2 _=>?_
 refine ad (P:=λi=>i.Ids.length≤0∧i.Mr.length≤1000∧0≤i.LD.User∧i.LD.User≤2∧∀b∈i.Text,b≠45) ?_ ?_
 ·refine ae (λ_=>?_) λ_=>aa ⟨by simp,by simp,by simp⟩
  refine ad (cL (bQ a.B (n:=5) (by omega) (by omega))) λx3 _=>ad (cL (bQ a.C (n:=s.Lf.Lp.length) (by omega) (by omega))) λx4 _=>
   ad (vw a.D) λx5 _=>ad (cL (bQ a.D (n:=7) (by omega) (by omega))) λx6 _=>?_
  refine ad (P:=λ_=>True) ?_ λk _=>?_
  ·refine ae (λ_=>ad (cL (bQ a.C (n:=3) (by omega) (by omega))) λ_ _=>aa trivial) λ_=>aa trivial
  refine ad (P:=λ_=>True) ?_ λk1 _=>aa ⟨by simp,by simp,by simp⟩
  refine ae (λ_=>ad (cL (bQ a.C (n:=3) (by omega) (by omega))) λ_ _=>ad (cL (bQ a.B (n:=6) (by omega) (by omega))) λ_ _=>aa trivial) λ_=>aa trivial
 ·intro i0 hi0;refine ad (P:=WJ) ?_ λi hi=>aa hi
  refine ay (λ(i:Input) k=>(i,k)) s.Lc.length (λk i=>i.Ids.length≤k∧i.Mr.length≤1000∧0≤i.LD.User∧i.LD.User≤2∧∀b∈i.Text,b≠45) (step:=dl a s x1) (by omega) ?_ ?_ (s:=i0) hi0
  ·rintro k hk i ⟨q1,q2,q3⟩;unfold dl;dsimp only;rw[ah hk,cond_true];refine ad (P:=λi=>i.Ids.length≤k+1∧i.Mr.length≤1000∧0≤i.LD.User∧i.LD.User≤2∧∀b∈i.Text,b≠45) ?_ λi hi=>aa (.inl ⟨i,rfl,hi⟩);simp only[ai hk,K8];refine ad (P:=λ_=>True) ?_ λq _=>?_
   ·exact ae (λ_=>ad (cL (bQ _ (n:=11) (by omega) (by omega))) λ_ _=>aa trivial) λ_=>aa trivial
   ·refine ae (λ_=>?_) λ_=>aa ⟨by omega,q2,q3⟩
    rw[aj (by simp;omega) (by omega),K8]
    exact aa ⟨by simp;omega,q2,q3⟩
  ·rintro i ⟨q1,q2,q3⟩;unfold dl;rw[ar]
   exact aa ⟨i,rfl,⟨by omega,q2,⟨q3.1,q3.2.1⟩,q3.2.2⟩⟩
theorem Gj{N:Nat}{s:JF}(h:Inv N s)(a:Act):Gv (fI a s) WJ:=by
 have hnl:=h.nl;have hcl:=h.cl;have hlb:=h.cf.lab;have hlv:=BH h.cf
 have w:∀(x:Int){n:Int},0<n→n≤1000000→Gv (au x n) λ_=>True:=λx n h0 h1=>cL (bQ x h0 (by omega))
 have ok:∀{i:Input},i.Ids = []→i.Mr = []→i.LD.User=0→i.Text = []→WJ i:=λe1 e2 e3 e4=>⟨by rw[e1];simp,by rw[e2];simp,by omega,by rw[e4];simp⟩
 unfold fI
 refine ad (w a.A (n:=6) (by omega) (by omega)) λN_ _=>?_
 rw[DQ h.cf,K8]
 refine ad (w a.B (n:=4) (by omega) (by omega)) λx _=>?_
 refine ad (P:=WJ) ?_ λi hi=>aa hi
 refine ad (w a.Kind (n:=16) (by omega) (by omega)) λx1 _=>?_
 have tst:∀(c:Bool)(b d:Bool),Gv (bif c then some b else some d) λ_=>True:=λc b d=>by cases c<;>exact aa trivial
 refine ad (tst _ _ _) λq _=>ae (λ_=>?_) λ_=>?_
 ·refine ad (w a.B (n:=s.Lf.Lp.length) (by omega) (by omega)) λx2 _=>ad (w a.C (n:=3) (by omega) (by omega)) λx3 _=>ad (w a.D (n:=12) (by omega) (by omega)) λx4 _=>
   ad (w a.D (n:=8) (by omega) (by omega)) λx5 _=>aa (ok rfl rfl rfl rfl)
 refine ad (P:=λ_=>True) ?_ λq1 _=>ae (λ_=>?_) λ_=>?_
 ·repeat' (first | exact⟨_,rfl,trivial⟩ | refine ae (λ_=>?_) (λ_=>?_))
 ·refine ad (P:=λi=>i.Ids.length≤0∧i.Mr.length≤1000∧0≤i.LD.User∧i.LD.User≤2∧∀b∈i.Text,b≠45) ?_ λi0 hi0=>?_
  ·refine ay (λ(i:Input) k=>(i,k)) s.Ls.length (λk i=>i.Ids.length≤0∧i.Mr.length≤1000∧0≤i.LD.User∧i.LD.User≤2∧∀b∈i.Text,b≠45) (step:=dO a s N_) (by omega) ?_ ?_ (s:=_) ⟨by simp,by simp,by simp,by simp,by simp⟩
   ·rintro k hk i hi;unfold dO;dsimp only;rw[ah hk,cond_true];refine ad (P:=λi=>i.Ids.length≤0∧i.Mr.length≤1000∧0≤i.LD.User∧i.LD.User≤2∧∀b∈i.Text,b≠45) ?_ λi hi=>aa (.inl ⟨i,rfl,hi⟩);simp only[ai hk,K8]
    exact ae (λ_=>ad (w a.B (n:=8) (by omega) (by omega)) λ_ _=>aa hi) λ_=>aa hi
   ·rintro i hi;unfold dO;rw[ar];exact aa ⟨i,rfl,hi⟩
  ·refine ad (P:=WJ) ?_ λi hi=>aa hi
   refine ay (λ(i:Input) k=>(i,k)) s.Lc.length (λk i=>i.Ids.length≤k∧i.Mr.length≤1000∧0≤i.LD.User∧i.LD.User≤2∧∀b∈i.Text,b≠45) (step:=dN a s N_) (by omega) ?_ ?_ (s:=i0) hi0
   ·rintro k hk i ⟨q1,q2,q3⟩;unfold dN;dsimp only;rw[ah hk,cond_true];refine ad (P:=λi=>i.Ids.length≤k+1∧i.Mr.length≤1000∧0≤i.LD.User∧i.LD.User≤2∧∀b∈i.Text,b≠45) ?_ λi hi=>aa (.inl ⟨i,rfl,hi⟩);simp only[ai hk,K8];refine ad (P:=λ_=>True) ?_ λq _=>?_
    ·exact ae (λ_=>ad (w _ (n:=9) (by omega) (by omega)) λ_ _=>aa trivial) λ_=>aa trivial
    ·refine ae (λ_=>?_) λ_=>aa ⟨by omega,q2,q3⟩
     rw[aj (by simp;omega) (by omega),K8]
     exact aa ⟨by simp;omega,q2,q3⟩
   ·rintro i ⟨q1,q2,q3⟩;unfold dN;rw[ar]
    exact aa ⟨i,rfl,⟨by omega,q2,⟨q3.1,q3.2.1⟩,q3.2.2⟩⟩
 refine ad (tst _ _ _) λq3 _=>ae (λ_=>?_) λ_=>?_
 ·refine ad (w a.A (n:=20) (by omega) (by omega)) λx16 _=>ad (bQ a.B (n:=(qG s.Lf).length) (by omega) (by omega)) λYh aas=>?_
  refine ad (lQ aas.1 aas.2) ?_;rintro i rfl
  refine ad (cL (mj (by omega))) λx18 _=>ad (bQ a.C (n:=3) (by omega) (by omega)) λx19 hx19=>ad (w a.D (n:=3) (by omega) (by omega)) λx20 _=>ad (vw _) λx21 _=>aa ⟨by simp,by simp,by dsimp only;omega,by simp⟩
 refine ad (P:=λ_=>True) ?_ λq4 _=>ae (λ_=>?_) λ_=>?_
 ·repeat' (first | exact⟨_,rfl,trivial⟩ | refine ae (λ_=>?_) (λ_=>?_))
 ·exact ad (Dr h a) λi hi=>aa hi
 refine ae (λ_=>?_) λ_=>?_
 ·refine ad (bQ a.B (n:=2) (by omega) (by omega)) λx23 hx=>?_
  refine ad (lQ hx.1 (by simp;omega)) ?_
  rintro i rfl
  exact ad (cL (mj (by simp;omega))) λx24 _=>ad (w a.A (n:=20) (by omega) (by omega)) λx25 _=>aa (ok rfl rfl rfl rfl)
 refine ad (tst _ _ _) λq5 _=>ae (λ_=>?_) λ_=>?_
 ·exact ad (w a.A (n:=5) (by omega) (by omega)) λx26 _=>aa (ok rfl rfl rfl rfl)
 refine ae (λ_=>?_) λ_=>?_
 ·refine ad (bQ a.D (n:=3) (by omega) (by omega)) λx27 hx=>?_
  refine ad (lQ hx.1 (by simp;omega)) ?_
  rintro i rfl
  exact ad (cL (mj (by simp;omega))) λx28 _=>ad (w a.B (n:=s.Lf.Lp.length) (by omega) (by omega)) λx29 _=>ad (w a.C (n:=5) (by omega) (by omega)) λx30 _=>ad (vw _) λx31 _=>
   ad (w a.C (n:=12) (by omega) (by omega)) λx32 _=>aa (ok rfl rfl rfl rfl)
 refine ae (λ_=>?_) λ_=>aa (ok rfl rfl rfl rfl)
 refine ad (bQ a.A (n:=3) (by omega) (by omega)) λx33 hx=>?_
 refine ad (lQ hx.1 (by simp;omega)) ?_
 rintro i rfl
 refine ad (cL (mj (by simp;omega))) λx34 _=>ad (CS a.B (ns:=[a.C,a.D]) (by simp)) ?_
 rintro c ⟨L,Q,hL,hQ,hc⟩
 exact ad (CG hL hQ hc) λx36 h36=>aa ⟨by simp,by simp,by dsimp only;omega,h36⟩
def newS:JF:=⟨⟨[([]:List UInt8)],[⟨root,[⟨10000,10000⟩],10000⟩]⟩,[],[],[],[],[],0,0,0⟩
theorem Xt{τ σ : Type}{step:τ→Option (τ ⊕ σ)}{t t':τ}(h:step t=some (.inl t')):loop step t=loop step t':=by rw[aX,h]
theorem fin{τ σ : Type}{step:τ→Option (τ ⊕ σ)}{t:τ}{r:σ}(h:step t=some (.inr r)):loop step t=some r:=by rw[aX,h]
theorem GH(hs:O9 newS.Lf):bH newS.Lf=some 0:=by
 have nm:cS root=some true:=by unfold cS;show(loop (iA root) 0).bind _=_;rw[Xt (t':=1) rfl,Xt (t':=2) rfl,Xt (t':=3) rfl,Xt (t':=4) rfl,fin (r:=.inr ()) rfl];rfl
 have s4:ca root (0,0,4)=some (.inl (5,1,5)):=by
  unfold ca;dsimp only
  rw[show decide ((4:Int)≤(root.length:Int))=true from rfl,cond_true,show decide ((4:Int)<(root.length:Int))=false from rfl,cond_false,K8,cond_false,show slc root 0 4=some root from rfl,K8,nm,K8]
  rfl
 have ip:cY root=some true:=by unfold cY;rw[Xt (t':=(0,0,1)) rfl,Xt (t':=(0,0,2)) rfl,Xt (t':=(0,0,3)) rfl,Xt (t':=(0,0,4)) rfl,Xt s4,fin (r:=.inr 1) rfl];rfl
 have qu:cD newS.Lf 0=some 0:=by
  unfold cD
  rw[show idx newS.Lf.Lg 0=some ⟨root,[⟨10000,10000⟩],10000⟩from rfl,K8]
  dsimp only
  rw[ip,K8,PZ,cond_false,show decide ((0:Int)>0)=false from rfl,cond_false,K8,cond_false,rQ (by decide),K8,oN hs,K8,cond_false,K8,cond_false]
  rw[Xt (t':=1) rfl,fin (r:=.inr ()) rfl];rfl
 have lb:ci newS.Lf=some 0:=by unfold ci;rw[fin (step:=ku newS.Lf) (r:=.inr ()) rfl,fin (step:=kt newS.Lf) (r:=.inr ()) rfl];rfl
 have sm:eF newS.Lf=some true:=by
  unfold eF
  have k0:d7 newS.Lf 0=some (.inl 1):=by
   unfold d7
   rw[show decide ((0:Int)<(newS.Lf.Lg.length:Int))=true from rfl,cond_true,show idx newS.Lf.Lg 0=some ⟨root,[⟨10000,10000⟩],10000⟩from rfl,K8,mI hs,K8,show LP newS.Lf root = []from by decide]
   rw[fin (r:=.inr ()) rfl];rfl
  rw[Xt k0,fin (r:=.inr ()) rfl];rfl
 unfold bH
 rw[lb,K8,show((0:Int) != 0)=false from rfl,cond_false,show((newS.Lf.Lg.length:Int) == 0)=false from rfl,cond_false,show idx newS.Lf.Lg 0=some ⟨root,[⟨10000,10000⟩],10000⟩from rfl,K8,K8,
  show(!((⟨root,[⟨10000,10000⟩],10000⟩:Lm).LC == ([114,111,111,116]:List UInt8)))=false from rfl,cond_false]
 have c0:dt newS.Lf 0=some (.inl 1):=by unfold dt;rw[qu];rfl
 rw[Xt c0,fin (r:=.inr ()) rfl,K8];dsimp only;rw[Xt (step:=dG newS.Lf) (t':=1) rfl,fin (step:=dG newS.Lf) (r:=.inr ()) rfl,K8];dsimp only;rw[sm];rfl
theorem vt:Inv 0 newS:=by
 have hq:QOk newS.Lf 0 ⟨root,[⟨10000,10000⟩],10000⟩:=by
  refine⟨⟨by decide,by decide,.inl rfl,by decide⟩,λp h=>absurd h (by omega),λh=>absurd h (by omega),by dsimp only;omega,rfl,λx hx=>?_⟩
  have:x=⟨10000,10000⟩:=by simpa using hx
  subst this
  exact⟨by dsimp only;omega,by dsimp only;omega,by dsimp only;omega⟩
 have cf:Nj newS.Lf:=by
  refine⟨by decide,rfl,by decide,by decide,⟨_,rfl,rfl,λx hx=>by simpa using hx⟩,λi hi=>?_,λq hq'=>?_,λq hq'=>?_⟩
  ·have hi:i=0:=by have:i<1:=hi;omega
   subst hi;exact hq
  ·have hq':q=⟨root,[⟨10000,10000⟩],10000⟩:=by simpa[newS]using hq'
   subst hq';intro hk
   exact absurd (by decide) hk
  ·have hq':q=⟨root,[⟨10000,10000⟩],10000⟩:=by simpa[newS]using hq'
   subst hq';decide
 have no:∀{α : Type}{P:α→Prop},∀x∈([]:List α),P x:=λx hx=>(QeT hx).elim
 exact⟨cf,(by decide),List.Pairwise.nil,no,(by decide),List.Pairwise.nil,no,(by decide),List.Pairwise.nil,no,List.Pairwise.nil,no,(by decide),List.Pairwise.nil,no,(by decide),(by decide),(by decide),⟨by decide,by decide,no⟩,GH cf.small,no,no,no,no,no⟩
theorem FP:kH=some newS:=rfl
theorem Ic(x:Script)(h1:x.Ns.length≤30)(h2:x.Ux.length≤80):Gv (cm x) (Inv 400000):=by
 unfold cm;rw[FP,K8]
 refine ad (CS x.Shape (ns:=x.Ns) (by omega)) ?_
 rintro c ⟨L,Q,hL,hQ,hc⟩;refine ad (CG hL hQ hc) λx3 hx3=>?_
 refine ad (Cv (by omega) vt ⟨by simp,by simp,by simp,hx3⟩) λx4 hx4=>?_
 refine ad (P:=Inv 4000) ?_ λs hs=>?_
 ·exact ae (λ_=>aa (hx4.mono (by omega))) λ_=>aa (vt.mono (by omega))
 ·refine ad (P:=Inv 400000) ?_ λt ht=>aa ht
  refine ay (λ(s:JF) k=>(s,k)) x.Ux.length (λk s=>Inv (4000+4000*k) s) (step:=cO x) (by omega) ?_ ?_ (s:=s) hs
  ·intro k hk t ht;unfold cO;dsimp only;rw[ah hk,cond_true,ai hk,K8]
   refine ad (Gj ht _) λi hi=>ad (Cv (by omega) ht hi) λr hr=>aa (.inl ⟨r.1,rfl,hr.mono (by omega)⟩)
  ·intro t ht;unfold cO;rw[ar]
   exact aa ⟨t,rfl,ht.mono (by omega)⟩
end Go.Fx.D

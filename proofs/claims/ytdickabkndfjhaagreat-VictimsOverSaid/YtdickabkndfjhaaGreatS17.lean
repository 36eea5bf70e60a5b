/-
  The reference manager: what holds of its state after every script. Conditions: none.
-/
import Derived.Test.YtdickabkndfjhaaGreatS16
namespace Go.Fx.D
open Go Go.Fx
set_option linter.unusedVariables false
set_option linter.unusedSimpArgs false
theorem CW{a n:Int}(hn:0<n):-n<Int.tmod a n∧Int.tmod a n<n:=⟨Int.lt_tmod_of_pos a hn,Int.tmod_lt_of_pos a hn⟩
theorem jV(a:Int){n:Int}(h0:0<n)(h1:n≤1000000000000):Gv (bc a n) λk=>0≤k∧k<n:=by
 have ht:=CW (a:=a) h0;unfold bc
 rw[CC (by omega),K8]
 refine ad (P:=λk=>0≤k∧k<n) ?_ λk hk=>aa hk;refine ae (λh=>aa ?_) λh=>aa ?_
 ·simp only[decide_eq_true_eq]at h
  rw[am (by omega) (by omega)]
  omega
 ·simp only[decide_eq_false_iff_not]at h;omega
theorem bQ(a:Int){n:Int}(h0:0<n)(h1:n≤1000000000000):Gv (au a n) λk=>0≤k∧k<n:=jV a h0 h1
theorem uj(ns:List Int)(hl:ns.length≤1000000){i:Int}(hi:0≤i):Gv (cT ns i) λ_=>True:=by
 unfold cT;refine ae (λ_=>aa trivial) λh=>?_
 have h:(ns.length:Int)≠0:=by simpa using h
 rw[CC h,K8]
 have ht:=CW (a:=i) (n:=ns.length) (by omega)
 have h0:0≤Int.tmod i ns.length:=Int.tmod_nonneg _ hi;exact ad (cL (eB h0 ht.2)) λ_ _=>aa trivial
structure QB(L:Nat)(q:Lm):Prop where
 Ld:q.LC.length≤20
 nd:∀b∈q.LC,b≠45
 user:0≤q.User∧q.User≤1000000
 caps:q.MR.length=L
 cap:∀x∈q.MR,(0≤x.Oe∧x.Oe≤1000000)∧0≤x.Most∧x.Most≤1000000
structure CB(L Q:Nat)(c:Lf):Prop where
 lab:c.Lp.length=L
 aaq:∀x∈c.Lp,x.length≤20
 qs:c.Lg.length=Q
 q:∀q∈c.Lg,QB L q
 nl:∀x∈c.Lp,∀b∈x,b≠45
theorem CB.small{L Q:Nat}{c:Lf}(h:CB L Q c)(hL:L≤10)(hQ:Q≤10):O9 c:=by
 have h1:=h.lab;have h2:=h.qs
 exact⟨by omega,by omega,λx hx=>by have:=(h.q x hx).Ld;omega,λx hx=>by have:=(h.q x hx).caps;omega⟩
theorem DV{L Q:Nat}(hQ:Q≤10){kids:List Str}{t3:Lf×Int}{k:Nat}(hk:t3.2=(k:Int))(hkL:k<L){t4:Lf×Int×Int}{j:Nat}(hj:t4.2.2=(j:Int))(hjk:j<kids.length){n Yh:Int}(hn:0≤n∧n≤1000000)(hx:0≤Yh∧Yh≤1000000){c:Lf}(hc:CB L Q c) :
  Gv (loop (eh kids t3 t4 n Yh) (c,0)) (CB L Q):=by
 refine ay (λ(c:Lf) i=>(c,i)) Q (λ_ c=>CB L Q c) (step:=eh kids t3 t4 n Yh) (by omega) ?_ ?_ (s:=c) hc
 ·intro m hm c hc
  have hmq:m<c.Lg.length:=by rw[hc.qs];exact hm
  unfold eh;dsimp only;rw[ah hmq,cond_true];refine ad (P:=CB L Q) ?_ λc hc=>aa (.inl ⟨c,rfl,hc⟩);rw[hj,hk];simp only[aC hmq,aC hjk,K8,K9 hmq,K9 hjk];refine ae (λ_=>?_) λ_=>aa hc;have hq:=hc.q _ (NQ hmq)
  have hkc:k<c.Lg[m].MR.length:=by rw[hq.caps];exact hkL
  rw[aC hkc,K8,K9 hkc,K8]
  refine aa ⟨hc.lab,hc.aaq,by show(List.set _ _ _).length=Q;rw[Xx];exact hc.qs,λq hq'=>?_,hc.nl⟩
  rcases QfE hq' with hq' | rfl
  ·exact hc.q q hq'
  ·refine⟨hq.Ld,hq.nd,hq.user,by show(List.set _ _ _).length=L;rw[Xx];exact hq.caps,λx hx'=>?_⟩
   rcases QfE hx' with hx' | rfl
   ·exact hq.cap x hx'
   ·exact⟨hn,hx⟩
 ·intro c hc;unfold eh;dsimp only;rw[hc.qs,ar,cond_false];exact aa ⟨c,rfl,hc⟩
theorem E2{a b c:Int}{P:Int→Prop}(ha:P a)(hb:P b)(hc:P c){k:Int}(h0:0≤k)(h1:k<3):Gv ((MZ k [a,b,c].length).bind λi=>([a,b,c][i]?).bind λx=>some x) P:=by
 have:k=0∨k=1∨k=2:=by omega
 rcases this with rfl | rfl | rfl
 ·exact aa ha
 ·exact aa hb
 ·exact aa hc
theorem GL{a b c d:Int}{P:Int→Prop}(ha:P a)(hb:P b)(hc:P c)(hd:P d){k:Int}(h0:0≤k)(h1:k<4):Gv ((MZ k [a,b,c,d].length).bind λi=>([a,b,c,d][i]?).bind λx=>some x) P:=by
 have:k=0∨k=1∨k=2∨k=3:=by omega
 rcases this with rfl | rfl | rfl | rfl
 ·exact aa ha
 ·exact aa hb
 ·exact aa hc
 ·exact aa hd
theorem CH{α β : Type}{m:Option Nat}{l:List α}{f:α→Option β}{P:α→Prop}{Q:β→Prop}(h:Gv (m.bind λi=>(l[i]?).bind λx=>some x) P)(k:∀a,P a→Gv (f a) Q):Gv (m.bind λi=>(l[i]?).bind f) Q:=by
 cases m with
 | none=>obtain⟨a,e,_⟩:=h;cases e
 | some i=>
  rw[K8]at h ⊢;obtain⟨a,e,ha⟩:=h
  cases hl:l[i]? with
  | none=>rw[hl]at e;cases e
  | some b=>rw[hl,K8]at e;cases e;exact k _ ha
theorem Dk{L Q:Nat}(hQ:Q≤10){ns:List Int}(hns:ns.length≤1000){t2:Lf×Int}{i:Nat}(hi:t2.2=(i:Int))(hib:i≤100){kids:List Str}(hkids:kids.length≤10){t3:Lf×Int}{k:Nat}(hk:t3.2=(k:Int))(hkL:k<L)(hL:L≤10)(hc:CB L Q t3.1) :
  Gv (loop (d4 ns t2 kids t3) (t3.1,10000,0)) (CB L Q):=by
 refine ay (λ(p:Lf×Int) i=>(p.1,p.2,i)) kids.length (λ_ p=>CB L Q p.1∧0≤p.2∧p.2≤10000) (step:=d4 ns t2 kids t3) (by omega) ?_ ?_ (s:=(t3.1,10000)) ⟨hc,by dsimp only;omega⟩
 ·rintro j hj ⟨c,left⟩ ⟨hc,h1,h2⟩;dsimp only at hc h1 h2;unfold d4;dsimp only;rw[ah hj,cond_true,hi,hk]
  have w1:Lx (((kids.length:Int)) - 1)=(kids.length:Int) - 1:=am (by omega) (by omega)
  have w2:Lx ((i:Int)+(j:Int))=(i:Int)+j:=am (by omega) (by omega)
  have w3:Lx ((i:Int)+(j:Int)+(k:Int))=(i:Int)+j+k:=am (by omega) (by omega)
  have hij:0≤(i:Int)*(j:Int)∧(i:Int)*(j:Int)≤100*10:=oq (by omega) (by omega) (by omega) (by omega)
  have w4:Lx ((i:Int)*(j:Int))=(i:Int)*j:=am (by omega) (by omega)
  have w5:Lx ((i:Int)*(j:Int)+(k:Int))=(i:Int)*j+k:=am (by omega) (by omega)
  have w6:Lx ((j:Int)+(k:Int))=(j:Int)+k:=am (by omega) (by omega)
  have w7:Lx (2*(j:Int))=2*(j:Int):=am (by omega) (by omega)
  have w8:Lx ((i:Int)+2*(j:Int))=(i:Int)+2*j:=am (by omega) (by omega)
  have w9:Lx (left+1)=left+1:=am (by omega) (by omega)
  rw[w1,w2,w3,w4,w5,w6,w7,w8,w9];refine ad (P:=λn=>0≤n∧n≤left) ?_ ?_
  ·refine ae (λ_=>?_) λ_=>aa (by omega)
   refine ad (uj ns (by omega) (by omega)) λx8 _=>ad (jV x8 (n:=left+1) (by omega) (by omega)) λx9 hx9=>?_
   refine ad (uj ns (by omega) (by omega)) λx10 _=>ad (jV x10 (n:=4) (by omega) (by omega)) λPK afs=>?_
   have hdiv:0≤Int.tdiv left 2∧Int.tdiv left 2≤left:=by rw[QeC h1];omega
   exact GL (P:=λn=>0≤n∧n≤left) (by omega) (by rw[am (by omega) (by omega)];exact hdiv) (by omega) (by omega) afs.1 afs.2
  ·rintro n ⟨n1,n2⟩
   have w10:Lx (10000 - n)=10000 - n:=am (by omega) (by omega)
   have w11:Lx (10000 - n+1)=10000 - n+1:=am (by omega) (by omega)
   rw[w10,w11]
   refine ad (uj ns (by omega) (by omega)) λUy _=>ad (jV Uy (n:=10000 - n+1) (by omega) (by omega)) λWm hx14=>?_
   refine ad (uj ns (by omega) (by omega)) λXr _=>ad (jV Xr (n:=3) (by omega) (by omega)) λx16 hx16=>?_
   refine CH (E2 (P:=λm=>0≤m∧m≤1000000) (by omega) (by omega) (by rw[am (by omega) (by omega)];omega) hx16.1 hx16.2) λYh aas=>?_
   refine ad (DV hQ hk hkL (t4:=(c,left,(j:Int))) rfl hj (by omega) aas hc) λc2 hc2=>?_
   refine aa (.inl ⟨(c2,Lx (left - n)),rfl,hc2,?_⟩)
   rw[am (x:=left - n) (by omega) (by omega)]
   dsimp only;omega
 ·rintro⟨c,left⟩ ⟨hc,_⟩;unfold d4;dsimp only;rw[ar,cond_false];exact aa ⟨c,rfl,hc⟩
theorem DO{L Q:Nat}(hL:L≤10)(hQ:Q≤10){ns:List Int}(hns:ns.length≤1000){x2:List Str}(hx2:x2.length≤10){c:Lf}(hc:CB L Q c):Gv (loop (dZ ns x2) (c,0)) (CB L Q):=by
 refine ay (λ(c:Lf) i=>(c,i)) x2.length (λ_ c=>CB L Q c) (step:=dZ ns x2) (by omega) ?_ ?_ (s:=c) hc
 ·intro i hi c hc;unfold dZ;dsimp only;rw[ah hi,cond_true,ai hi,K8,mI (hc.small hL hQ),K8];have hkl:=nK c x2[i];have hqs:=hc.qs;refine ad (P:=CB L Q) ?_ λc hc=>aa (.inl ⟨c,rfl,hc⟩)
  refine ay (λ(c:Lf) i=>(c,i)) L (λ_ c=>CB L Q c) (step:=iy ns (c,(i:Int)) (LP c x2[i])) (by omega) ?_ ?_ (s:=c) hc
  ·intro k hk c' hc';unfold iy;dsimp only;rw[hc'.lab,ah hk,cond_true]
   exact ad (Dk hQ hns (t2:=(c,(i:Int))) rfl (by omega) (by omega) (t3:=(c',(k:Int))) rfl hk hL hc') λc hc=>aa (.inl ⟨c,rfl,hc⟩)
  ·intro c' hc';unfold iy;dsimp only;rw[hc'.lab,ar,cond_false];exact aa ⟨c',rfl,hc'⟩
 ·intro c hc;unfold dZ;rw[ar];exact aa ⟨c,rfl,hc⟩
theorem DH{L:Nat}(hL:L≤10){ns:List Int}(hns:ns.length≤1000){x2:List Str}(hx2:x2.length≤10)(hp:∀p∈x2,p.length≤20∧∀b∈p,b≠45){lab:List Str}(hl:lab.length=L)(hls:∀x∈lab,x.length≤20)(hln:∀x∈lab,∀b∈x,b≠45) :
  Gv (loop (dS ns x2) ((⟨lab,[]⟩:Lf),0)) (CB L x2.length):=by
 refine ay (λ(c:Lf) i=>(c,i)) x2.length (λk c=>CB L k c) (step:=dS ns x2) (by omega) ?_ ?_ (s:=(⟨lab,[]⟩:Lf)) ⟨hl,hls,rfl,by simp,hln⟩
 ·intro i hi c hc;unfold dS;dsimp only;rw[ah hi,cond_true,ai hi,K8];refine ad (P:=QB 0) ?_ ?_
  ·refine ad (P:=λb=>b=true→i<ns.length) ?_ λb hb=>?_
   ·refine ae (λh=>?_) λ_=>aa (by simp)
    simp only[decide_eq_true_eq]at h
    have hlt:i<ns.length:=by omega
    rw[ai hlt,K8];exact aa λ_=>hlt
   ·refine ae (λhbt=>?_) λ_=>aa ⟨(hp _ (NQ hi)).1,(hp _ (NQ hi)).2,by dsimp only;omega,rfl,by simp⟩
    rw[ai (hb hbt),K8]
    refine ad (jV _ (n:=20000) (by omega) (by omega)) λx6 hx6=>aa ⟨(hp _ (NQ hi)).1,(hp _ (NQ hi)).2,?_,rfl,by simp⟩
    rw[am (x:=1+x6) (by omega) (by omega)]
    dsimp only;omega
  ·intro q1 hq1;refine ad (P:=QB L) ?_ λq2 hq2=>?_
   ·refine ay (λ(q:Lm) i=>(q,i)) L (λk q=>QB k q) (step:=iO (c,(i:Int))) (by omega) ?_ ?_ (s:=q1) hq1
    ·intro k hk q hq;unfold iO;dsimp only
     rw[hc.lab,ah hk,cond_true,aj (by have:=hq.caps;simp;omega) (by omega),K8]
     refine aa (.inl ⟨_,rfl,hq.Ld,hq.nd,hq.user,by simp[hq.caps],λx hx=>?_⟩)
     rcases OB.1 hx with hx | hx
     ·exact hq.cap x hx
     ·rw[Lb]at hx;subst hx;dsimp only;omega
    ·intro q hq;unfold iO;dsimp only;rw[hc.lab,ar,cond_false];exact aa ⟨q,rfl,hq⟩
   ·rw[aj (by have:=hc.qs;simp;omega) (by omega),K8]
    refine aa (.inl ⟨_,rfl,hc.lab,hc.aaq,by simp[hc.qs],λq hq=>?_,hc.nl⟩)
    rcases OB.1 hq with hq | hq
    ·exact hc.q q hq
    ·rw[Lb]at hq;subst hq;exact hq2
 ·intro c hc;unfold dS;rw[ar];exact aa ⟨c,rfl,hc⟩
theorem CS(shape:Int){ns:List Int}(hns:ns.length≤1000):Gv (g9 shape ns) λc=>∃L Q,L≤10∧Q≤10∧CB L Q c:=by
 unfold g9
 refine ad (jV _ (n:=2) (by omega) (by omega)) λx hx=>?_
 refine ad (qe (l:=[([]:List UInt8),([103,112,117]:List UInt8)]) (a:=0) (b:=Lx (1+x)) (by omega) (by rw[am (by omega) (by omega)];omega) (by rw[am (by omega) (by omega)];simp;omega)) ?_
 rintro p ⟨p1,p2⟩
 refine ad (jV shape (n:=5) (by omega) (by omega)) λx1 hx1=>?_
 refine CH (P:=λl=>l.length≤10∧∀p∈l,p.length≤20∧∀b∈p,b≠45) ?_ ?_
 ·refine ad (lQ hx1.1 (by simp;omega)) ?_
  rintro i rfl
  refine ad (mj (by simp;omega)) λy hy=>aa ?_
  have key:∀l∈[[([114,111,111,116]:List UInt8)],[([114,111,111,116]:List UInt8),([114,111,111,116,46,97]:List UInt8),([114,111,111,116,46,98]:List UInt8)],[([114,111,111,116]:List UInt8),([114,111,111,116,46,97]:List UInt8),([114,111,111,116,46,97,46,120]:List UInt8),([114,111,111,116,46,97,46,121]:List UInt8),([114,111,111,116,46,98]:List UInt8)],[([114,111,111,116]:List UInt8),([114,111,111,116,46,97]:List UInt8),([114,111,111,116,46,98]:List UInt8),([114,111,111,116,46,98,46,120]:List UInt8),([114,111,111,116,46,98,46,120,46,112]:List UInt8),([114,111,111,116,46,98,46,120,46,113]:List UInt8),([114,111,111,116,46,99]:List UInt8)],[([114,111,111,116]:List UInt8),([114,111,111,116,46,97]:List UInt8)]],l.length≤10∧∀p∈l,p.length≤20∧∀b∈p,b≠45:=by decide +kernel
  exact key y hy.1
 ·rintro x2 ⟨h1,h2⟩
  refine ad (DH (L:=(sub [([]:List UInt8),([103,112,117]:List UInt8)] p.1 p.2).length) (by rw[p1,am (by omega) (by omega)];omega) hns h1 h2 rfl (λy hy=>?_) (λy hy=>?_)) λc hc=>?_
  ·have:=p2 y hy
   have key:∀y∈[([]:List UInt8),([103,112,117]:List UInt8)],y.length≤20:=by decide
   exact key y this
  ·have:=p2 y hy
   have key:∀y∈[([]:List UInt8),([103,112,117]:List UInt8)],∀b∈y,b≠45:=by decide
   exact key y this
  ·have hL:(sub [([]:List UInt8),([103,112,117]:List UInt8)] p.1 p.2).length≤10:=by rw[p1,am (by omega) (by omega)];omega
   refine ad (DO hL h1 hns h1 hc) λc hc=>aa ⟨_,_,hL,h1,hc⟩
end Go.Fx.D

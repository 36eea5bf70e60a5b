/-
  The reference manager: what holds of its state after every script. Conditions: none.
-/
import Derived.Test.YtdickabkndfjhaaGreatS16
namespace Go.Fx.D
open Go Go.Fx
set_option linter.unusedVariables false
set_option linter.unusedSimpArgs false
theorem Cg{a n:Int}(hn:0<n):-n<Int.tmod a n∧Int.tmod a n<n:=⟨Int.lt_tmod_of_pos a hn,Int.tmod_lt_of_pos a hn⟩
theorem kH(a:Int){n:Int}(h0:0<n)(h1:n≤1000000000000):Gv (be a n) λk=>0≤k∧k<n:=by
 have ht:=Cg (a:=a) h0;unfold be
 rw[Cj (by omega),K_]
 refine ad (P:=λk=>0≤k∧k<n) ?_ λk hk=>aa hk;refine ae (λh=>aa ?_) λh=>aa ?_
 ·simp only[decide_eq_true_eq]at h
  rw[aj (by omega) (by omega)]
  omega
 ·simp only[decide_eq_false_iff_not]at h;omega
theorem b7(a:Int){n:Int}(h0:0<n)(h1:n≤1000000000000):Gv (au a n) λk=>0≤k∧k<n:=kH a h0 h1
theorem uZ(ns:List Int)(hl:ns.length≤1000000){i:Int}(hi:0≤i):Gv (dh ns i) λ_=>True:=by
 unfold dh;refine ae (λ_=>aa trivial) λh=>?_
 have h:(ns.length:Int)≠0:=by simpa using h
 rw[Cj h,K_]
 have ht:=Cg (a:=i) (n:=ns.length) (by omega)
 have h0:0≤Int.tmod i ns.length:=Int.tmod_nonneg _ hi;exact ad (cY (eh h0 ht.2)) λ_ _=>aa trivial
structure QB(L:Nat)(q:Ls):Prop where
 Lf:q.LB.length≤20
 nd:∀b∈q.LB,b≠45
 user:0≤q.User∧q.User≤1000000
 caps:q.MS.length=L
 cap:∀x∈q.MS,(0≤x.Oe∧x.Oe≤1000000)∧0≤x.Most∧x.Most≤1000000
structure CB(L Q:Nat)(c:Lg):Prop where
 lab:c.Lm.length=L
 aaH:∀x∈c.Lm,x.length≤20
 qs:c.Lh.length=Q
 q:∀q∈c.Lh,QB L q
 nl:∀x∈c.Lm,∀b∈x,b≠45
theorem CB.small{L Q:Nat}{c:Lg}(h:CB L Q c)(hL:L≤10)(hQ:Q≤10):Pb c:=by
 have h1:=h.lab;have h2:=h.qs
 exact⟨by omega,by omega,λx hx=>by have:=(h.q x hx).Lf;omega,λx hx=>by have:=(h.q x hx).caps;omega⟩
theorem DN{L Q:Nat}(hQ:Q≤10){kids:List Str}{t3:Lg×Int}{k:Nat}(hk:t3.2=(k:Int))(hkL:k<L){t4:Lg×Int×Int}{j:Nat}(hj:t4.2.2=(j:Int))(hjk:j<kids.length){n Wd:Int}(hn:0≤n∧n≤1000000)(hx:0≤Wd∧Wd≤1000000){c:Lg}(hc:CB L Q c) :
  Gv (loop (d9 kids t3 t4 n Wd) (c,0)) (CB L Q):=by
 refine az (λ(c:Lg) i=>(c,i)) Q (λ_ c=>CB L Q c) (step:=d9 kids t3 t4 n Wd) (by omega) ?_ ?_ (s:=c) hc
 ·intro m hm c hc
  have hmq:m<c.Lh.length:=by rw[hc.qs];exact hm
  unfold d9;dsimp only;rw[ah hmq,cond_true];refine ad (P:=CB L Q) ?_ λc hc=>aa (.inl ⟨c,rfl,hc⟩);rw[hj,hk];simp only[aC hmq,aC hjk,K_,La hmq,La hjk];refine ae (λ_=>?_) λ_=>aa hc;have hq:=hc.q _ (Nq hmq)
  have hkc:k<c.Lh[m].MS.length:=by rw[hq.caps];exact hkL
  rw[aC hkc,K_,La hkc,K_]
  refine aa ⟨hc.lab,hc.aaH,by show(List.set _ _ _).length=Q;rw[Yc];exact hc.qs,λq hq'=>?_,hc.nl⟩
  rcases QeZ hq' with hq' | rfl
  ·exact hc.q q hq'
  ·refine⟨hq.Lf,hq.nd,hq.user,by show(List.set _ _ _).length=L;rw[Yc];exact hq.caps,λx hx'=>?_⟩
   rcases QeZ hx' with hx' | rfl
   ·exact hq.cap x hx'
   ·exact⟨hn,hx⟩
 ·intro c hc;unfold d9;dsimp only;rw[hc.qs,am,cond_false];exact aa ⟨c,rfl,hc⟩
theorem FL{a b c:Int}{P:Int→Prop}(ha:P a)(hb:P b)(hc:P c){k:Int}(h0:0≤k)(h1:k<3):Gv ((MZ k [a,b,c].length).bind λi=>([a,b,c][i]?).bind λx=>some x) P:=by
 have:k=0∨k=1∨k=2:=by omega
 rcases this with rfl | rfl | rfl
 ·exact aa ha
 ·exact aa hb
 ·exact aa hc
theorem HC{a b c d:Int}{P:Int→Prop}(ha:P a)(hb:P b)(hc:P c)(hd:P d){k:Int}(h0:0≤k)(h1:k<4):Gv ((MZ k [a,b,c,d].length).bind λi=>([a,b,c,d][i]?).bind λx=>some x) P:=by
 have:k=0∨k=1∨k=2∨k=3:=by omega
 rcases this with rfl | rfl | rfl | rfl
 ·exact aa ha
 ·exact aa hb
 ·exact aa hc
 ·exact aa hd
theorem Ci{α β : Type}{m:Option Nat}{l:List α}{f:α→Option β}{P:α→Prop}{Q:β→Prop}(h:Gv (m.bind λi=>(l[i]?).bind λx=>some x) P)(k:∀a,P a→Gv (f a) Q):Gv (m.bind λi=>(l[i]?).bind f) Q:=by
 cases m with
 | none=>obtain⟨a,e,_⟩:=h;cases e
 | some i=>
  rw[K_]at h ⊢;obtain⟨a,e,ha⟩:=h
  cases hl:l[i]? with
  | none=>rw[hl]at e;cases e
  | some b=>rw[hl,K_]at e;cases e;exact k _ ha
theorem Dw{L Q:Nat}(hQ:Q≤10){ns:List Int}(hns:ns.length≤1000){t2:Lg×Int}{i:Nat}(hi:t2.2=(i:Int))(hib:i≤100){kids:List Str}(hkids:kids.length≤10){t3:Lg×Int}{k:Nat}(hk:t3.2=(k:Int))(hkL:k<L)(hL:L≤10)(hc:CB L Q t3.1) :
  Gv (loop (eB ns t2 kids t3) (t3.1,10000,0)) (CB L Q):=by
 refine az (λ(p:Lg×Int) i=>(p.1,p.2,i)) kids.length (λ_ p=>CB L Q p.1∧0≤p.2∧p.2≤10000) (step:=eB ns t2 kids t3) (by omega) ?_ ?_ (s:=(t3.1,10000)) ⟨hc,by dsimp only;omega⟩
 ·rintro j hj ⟨c,left⟩ ⟨hc,h1,h2⟩;dsimp only at hc h1 h2;unfold eB;dsimp only;rw[ah hj,cond_true,hi,hk]
  have w1:LC (((kids.length:Int)) - 1)=(kids.length:Int) - 1:=aj (by omega) (by omega)
  have w2:LC ((i:Int)+(j:Int))=(i:Int)+j:=aj (by omega) (by omega)
  have w3:LC ((i:Int)+(j:Int)+(k:Int))=(i:Int)+j+k:=aj (by omega) (by omega)
  have hij:0≤(i:Int)*(j:Int)∧(i:Int)*(j:Int)≤100*10:=oJ (by omega) (by omega) (by omega) (by omega)
  have w4:LC ((i:Int)*(j:Int))=(i:Int)*j:=aj (by omega) (by omega)
  have w5:LC ((i:Int)*(j:Int)+(k:Int))=(i:Int)*j+k:=aj (by omega) (by omega)
  have w6:LC ((j:Int)+(k:Int))=(j:Int)+k:=aj (by omega) (by omega)
  have w7:LC (2*(j:Int))=2*(j:Int):=aj (by omega) (by omega)
  have w8:LC ((i:Int)+2*(j:Int))=(i:Int)+2*j:=aj (by omega) (by omega)
  have w9:LC (left+1)=left+1:=aj (by omega) (by omega)
  rw[w1,w2,w3,w4,w5,w6,w7,w8,w9];refine ad (P:=λn=>0≤n∧n≤left) ?_ ?_
  ·refine ae (λ_=>?_) λ_=>aa (by omega)
   refine ad (uZ ns (by omega) (by omega)) λx8 _=>ad (kH x8 (n:=left+1) (by omega) (by omega)) λx9 hx9=>?_
   refine ad (uZ ns (by omega) (by omega)) λx10 _=>ad (kH x10 (n:=4) (by omega) (by omega)) λPE afJ=>?_
   have hdiv:0≤Int.tdiv left 2∧Int.tdiv left 2≤left:=by rw[QeA h1];omega
   exact HC (P:=λn=>0≤n∧n≤left) (by omega) (by rw[aj (by omega) (by omega)];exact hdiv) (by omega) (by omega) afJ.1 afJ.2
  ·rintro n ⟨n1,n2⟩
   have w10:LC (10000 - n)=10000 - n:=aj (by omega) (by omega)
   have w11:LC (10000 - n+1)=10000 - n+1:=aj (by omega) (by omega)
   rw[w10,w11]
   refine ad (uZ ns (by omega) (by omega)) λUD _=>ad (kH UD (n:=10000 - n+1) (by omega) (by omega)) λVt hx14=>?_
   refine ad (uZ ns (by omega) (by omega)) λWt _=>ad (kH Wt (n:=3) (by omega) (by omega)) λYx hx16=>?_
   refine Ci (FL (P:=λm=>0≤m∧m≤1000000) (by omega) (by omega) (by rw[aj (by omega) (by omega)];omega) hx16.1 hx16.2) λWd aaJ=>?_
   refine ad (DN hQ hk hkL (t4:=(c,left,(j:Int))) rfl hj (by omega) aaJ hc) λc2 hc2=>?_
   refine aa (.inl ⟨(c2,LC (left - n)),rfl,hc2,?_⟩)
   rw[aj (x:=left - n) (by omega) (by omega)]
   dsimp only;omega
 ·rintro⟨c,left⟩ ⟨hc,_⟩;unfold eB;dsimp only;rw[am,cond_false];exact aa ⟨c,rfl,hc⟩
theorem DY{L Q:Nat}(hL:L≤10)(hQ:Q≤10){ns:List Int}(hns:ns.length≤1000){x2:List Str}(hx2:x2.length≤10){c:Lg}(hc:CB L Q c):Gv (loop (eH ns x2) (c,0)) (CB L Q):=by
 refine az (λ(c:Lg) i=>(c,i)) x2.length (λ_ c=>CB L Q c) (step:=eH ns x2) (by omega) ?_ ?_ (s:=c) hc
 ·intro i hi c hc;unfold eH;dsimp only;rw[ah hi,cond_true,ai hi,K_,nf (hc.small hL hQ),K_];have hkl:=oz c x2[i];have hqs:=hc.qs;refine ad (P:=CB L Q) ?_ λc hc=>aa (.inl ⟨c,rfl,hc⟩)
  refine az (λ(c:Lg) i=>(c,i)) L (λ_ c=>CB L Q c) (step:=i7 ns (c,(i:Int)) (Ma c x2[i])) (by omega) ?_ ?_ (s:=c) hc
  ·intro k hk c' hc';unfold i7;dsimp only;rw[hc'.lab,ah hk,cond_true]
   exact ad (Dw hQ hns (t2:=(c,(i:Int))) rfl (by omega) (by omega) (t3:=(c',(k:Int))) rfl hk hL hc') λc hc=>aa (.inl ⟨c,rfl,hc⟩)
  ·intro c' hc';unfold i7;dsimp only;rw[hc'.lab,am,cond_false];exact aa ⟨c',rfl,hc'⟩
 ·intro c hc;unfold eH;rw[am];exact aa ⟨c,rfl,hc⟩
theorem C4{L:Nat}(hL:L≤10){ns:List Int}(hns:ns.length≤1000){x2:List Str}(hx2:x2.length≤10)(hp:∀p∈x2,p.length≤20∧∀b∈p,b≠45){lab:List Str}(hl:lab.length=L)(hls:∀x∈lab,x.length≤20)(hln:∀x∈lab,∀b∈x,b≠45) :
  Gv (loop (eo ns x2) ((⟨lab,[]⟩:Lg),0)) (CB L x2.length):=by
 refine az (λ(c:Lg) i=>(c,i)) x2.length (λk c=>CB L k c) (step:=eo ns x2) (by omega) ?_ ?_ (s:=(⟨lab,[]⟩:Lg)) ⟨hl,hls,rfl,by simp,hln⟩
 ·intro i hi c hc;unfold eo;dsimp only;rw[ah hi,cond_true,ai hi,K_];refine ad (P:=QB 0) ?_ ?_
  ·refine ad (P:=λb=>b=true→i<ns.length) ?_ λb hb=>?_
   ·refine ae (λh=>?_) λ_=>aa (by simp)
    simp only[decide_eq_true_eq]at h
    have hlt:i<ns.length:=by omega
    rw[ai hlt,K_];exact aa λ_=>hlt
   ·refine ae (λhbt=>?_) λ_=>aa ⟨(hp _ (Nq hi)).1,(hp _ (Nq hi)).2,by dsimp only;omega,rfl,by simp⟩
    rw[ai (hb hbt),K_]
    refine ad (kH _ (n:=20000) (by omega) (by omega)) λx6 hx6=>aa ⟨(hp _ (Nq hi)).1,(hp _ (Nq hi)).2,?_,rfl,by simp⟩
    rw[aj (x:=1+x6) (by omega) (by omega)]
    dsimp only;omega
  ·intro q1 hq1;refine ad (P:=QB L) ?_ λq2 hq2=>?_
   ·refine az (λ(q:Ls) i=>(q,i)) L (λk q=>QB k q) (step:=iZ (c,(i:Int))) (by omega) ?_ ?_ (s:=q1) hq1
    ·intro k hk q hq;unfold iZ;dsimp only
     rw[hc.lab,ah hk,cond_true,ao (by have:=hq.caps;simp;omega) (by omega),K_]
     refine aa (.inl ⟨_,rfl,hq.Lf,hq.nd,hq.user,by simp[hq.caps],λx hx=>?_⟩)
     rcases N_.1 hx with hx | hx
     ·exact hq.cap x hx
     ·rw[Ld]at hx;subst hx;dsimp only;omega
    ·intro q hq;unfold iZ;dsimp only;rw[hc.lab,am,cond_false];exact aa ⟨q,rfl,hq⟩
   ·rw[ao (by have:=hc.qs;simp;omega) (by omega),K_]
    refine aa (.inl ⟨_,rfl,hc.lab,hc.aaH,by simp[hc.qs],λq hq=>?_,hc.nl⟩)
    rcases N_.1 hq with hq | hq
    ·exact hc.q q hq
    ·rw[Ld]at hq;subst hq;exact hq2
 ·intro c hc;unfold eo;rw[am];exact aa ⟨c,rfl,hc⟩
theorem C1(shape:Int){ns:List Int}(hns:ns.length≤1000):Gv (iC shape ns) λc=>∃L Q,L≤10∧Q≤10∧CB L Q c:=by
 unfold iC
 refine ad (kH _ (n:=2) (by omega) (by omega)) λx hx=>?_
 refine ad (qE (l:=[([]:List UInt8),([103,112,117]:List UInt8)]) (a:=0) (b:=LC (1+x)) (by omega) (by rw[aj (by omega) (by omega)];omega) (by rw[aj (by omega) (by omega)];simp;omega)) ?_
 rintro p ⟨p1,p2⟩
 refine ad (kH shape (n:=5) (by omega) (by omega)) λx1 hx1=>?_
 refine Ci (P:=λl=>l.length≤10∧∀p∈l,p.length≤20∧∀b∈p,b≠45) ?_ ?_
 ·refine ad (me hx1.1 (by simp;omega)) ?_
  rintro i rfl
  refine ad (mX (by simp;omega)) λy hy=>aa ?_
  have key:∀l∈[[([114,111,111,116]:List UInt8)],[([114,111,111,116]:List UInt8),([114,111,111,116,46,97]:List UInt8),([114,111,111,116,46,98]:List UInt8)],[([114,111,111,116]:List UInt8),([114,111,111,116,46,97]:List UInt8),([114,111,111,116,46,97,46,120]:List UInt8),([114,111,111,116,46,97,46,121]:List UInt8),([114,111,111,116,46,98]:List UInt8)],[([114,111,111,116]:List UInt8),([114,111,111,116,46,97]:List UInt8),([114,111,111,116,46,98]:List UInt8),([114,111,111,116,46,98,46,120]:List UInt8),([114,111,111,116,46,98,46,120,46,112]:List UInt8),([114,111,111,116,46,98,46,120,46,113]:List UInt8),([114,111,111,116,46,99]:List UInt8)],[([114,111,111,116]:List UInt8),([114,111,111,116,46,97]:List UInt8)]],l.length≤10∧∀p∈l,p.length≤20∧∀b∈p,b≠45:=by decide +kernel
  exact key y hy.1
 ·rintro x2 ⟨h1,h2⟩
  refine ad (C4 (L:=(sub [([]:List UInt8),([103,112,117]:List UInt8)] p.1 p.2).length) (by rw[p1,aj (by omega) (by omega)];omega) hns h1 h2 rfl (λy hy=>?_) (λy hy=>?_)) λc hc=>?_
  ·have:=p2 y hy
   have key:∀y∈[([]:List UInt8),([103,112,117]:List UInt8)],y.length≤20:=by decide
   exact key y this
  ·have:=p2 y hy
   have key:∀y∈[([]:List UInt8),([103,112,117]:List UInt8)],∀b∈y,b≠45:=by decide
   exact key y this
  ·have hL:(sub [([]:List UInt8),([103,112,117]:List UInt8)] p.1 p.2).length≤10:=by rw[p1,aj (by omega) (by omega)];omega
   refine ad (DY hL h1 hns h1 hc) λc hc=>aa ⟨_,_,hL,h1,hc⟩
end Go.Fx.D

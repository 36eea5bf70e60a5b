/-
  The reference manager: what holds of its state after every script. Conditions: none.
-/
import Derived.Test.YtmpaebhomokjmaaGreatS16
namespace Go.Fx.D
open Go Go.Fx
set_option linter.unusedVariables false
set_option linter.unusedSimpArgs false
theorem B_ {a n : Int} (hn : 0 < n) : -n < Int.tmod a n ∧ Int.tmod a n < n:=⟨Int.lt_tmod_of_pos a hn,Int.tmod_lt_of_pos a hn⟩
theorem jU (a : Int) {n : Int} (h0 : 0 < n) (h1 : n ≤ 1000000000000) : Gv (a9 a n) fun k => 0 ≤ k ∧ k < n:=by
 have ht:=B_ (a:=a) h0
 unfold a9
 rw [Ci (by omega),Jw]
 refine ad (P:=fun k => 0 ≤ k ∧ k < n) ?_ fun k hk => aa hk
 refine ae (fun h => aa ?_) fun h => aa ?_
 ·simp only [decide_eq_true_eq] at h
  rw [ao (by omega) (by omega)]
  omega
 ·simp only [decide_eq_false_iff_not] at h
  omega
theorem bA (a : Int) {n : Int} (h0 : 0 < n) (h1 : n ≤ 1000000000000) : Gv (au a n) fun k => 0 ≤ k ∧ k < n:=jU a h0 h1
theorem vw (ns : List Int) (hl : ns.length ≤ 1000000) {i : Int} (hi : 0 ≤ i) : Gv (cB ns i) fun _ => True:=by
 unfold cB
 refine ae (fun _ => aa trivial) fun h => ?_
 have h : (ns.length : Int) ≠ 0:=by simpa using h
 rw [Ci h,Jw]
 have ht:=B_ (a:=i) (n:=ns.length) (by omega)
 have h0 : 0 ≤ Int.tmod i ns.length:=Int.tmod_nonneg _ hi
 exact ad (dj (fA h0 ht.2)) fun _ _ => aa trivial
structure QB (L : Nat) (q : Queue) : Prop where
 path : q.Path.length ≤ 20
 nd : ∀ b ∈ q.Path,b ≠ 45
 user : 0 ≤ q.User ∧ q.User ≤ 1000000
 caps : q.Caps.length = L
 cap : ∀ x ∈ q.Caps,(0 ≤ x.Least ∧ x.Least ≤ 1000000) ∧ 0 ≤ x.Most ∧ x.Most ≤ 1000000
structure CB (L Q : Nat) (c : Conf) : Prop where
 lab : c.Labels.length = L
 labs : ∀ x ∈ c.Labels,x.length ≤ 20
 qs : c.Queues.length = Q
 q : ∀ q ∈ c.Queues,QB L q
 nl : ∀ x ∈ c.Labels,∀ b ∈ x,b ≠ 45
theorem CB.small {L Q : Nat} {c : Conf} (h : CB L Q c) (hL : L ≤ 10) (hQ : Q ≤ 10) : CSmall c:=by
 have h1:=h.lab
 have h2:=h.qs
 exact ⟨by omega,by omega,fun x hx => by have:=(h.q x hx).path; omega,fun x hx => by have:=(h.q x hx).caps; omega⟩
theorem Dq {L Q : Nat} (hQ : Q ≤ 10) {kids : List Str} {t3 : Conf × Int} {k : Nat} (hk : t3.2 = (k : Int)) (hkL : k < L) {t4 : Conf × Int × Int} {j : Nat} (hj : t4.2.2 = (j : Int)) (hjk : j < kids.length) {n x17 : Int} (hn : 0 ≤ n ∧ n ≤ 1000000) (hx : 0 ≤ x17 ∧ x17 ≤ 1000000) {c : Conf} (hc : CB L Q c) :
  Gv (loop (dI kids t3 t4 n x17) (c,0)) (CB L Q):=by
 refine aG (fun (c : Conf) i => (c,i)) Q (fun _ c => CB L Q c) (step:=dI kids t3 t4 n x17) (by omega) ?_ ?_ (s:=c) hc
 ·intro m hm c hc
  have hmq : m < c.Queues.length:=by rw [hc.qs]; exact hm
  unfold dI
  dsimp only
  rw [aj hmq,cond_true]
  refine ad (P:=CB L Q) ?_ fun c hc => aa (.inl ⟨c,rfl,hc⟩)
  rw [hj,hk]
  simp only [aM hmq,aM hjk,Jw,Jx hmq,Jx hjk]
  refine ae (fun _ => ?_) fun _ => aa hc
  have hq:=hc.q _ (List.getElem_mem hmq)
  have hkc : k < c.Queues[m].Caps.length:=by rw [hq.caps]; exact hkL
  rw [aM hkc,Jw,Jx hkc,Jw]
  refine aa ⟨hc.lab,hc.labs,by show (List.set _ _ _).length = Q; rw [List.length_set]; exact hc.qs,fun q hq' => ?_,hc.nl⟩
  rcases List.mem_or_eq_of_mem_set hq' with hq' | rfl
  ·exact hc.q q hq'
  ·refine ⟨hq.path,hq.nd,hq.user,by show (List.set _ _ _).length = L; rw [List.length_set]; exact hq.caps,fun x hx' => ?_⟩
   rcases List.mem_or_eq_of_mem_set hx' with hx' | rfl
   ·exact hq.cap x hx'
   ·exact ⟨hn,hx⟩
 ·intro c hc
  unfold dI
  dsimp only
  rw [hc.qs,ar,cond_false]
  exact aa ⟨c,rfl,hc⟩
theorem Fj {a b c : Int} {P : Int → Prop} (ha : P a) (hb : P b) (hc : P c) {k : Int} (h0 : 0 ≤ k) (h1 : k < 3) : Gv ((inb k [a,b,c].length).bind fun i => ([a,b,c][i]?).bind fun x => some x) P:=by
 have : k = 0 ∨ k = 1 ∨ k = 2:=by omega
 rcases this with rfl | rfl | rfl
 ·exact aa ha
 ·exact aa hb
 ·exact aa hc
theorem Gz {a b c d : Int} {P : Int → Prop} (ha : P a) (hb : P b) (hc : P c) (hd : P d) {k : Int} (h0 : 0 ≤ k) (h1 : k < 4) : Gv ((inb k [a,b,c,d].length).bind fun i => ([a,b,c,d][i]?).bind fun x => some x) P:=by
 have : k = 0 ∨ k = 1 ∨ k = 2 ∨ k = 3:=by omega
 rcases this with rfl | rfl | rfl | rfl
 ·exact aa ha
 ·exact aa hb
 ·exact aa hc
 ·exact aa hd
theorem Cw {α β : Type} {m : Option Nat} {l : List α} {f : α → Option β} {P : α → Prop} {Q : β → Prop} (h : Gv (m.bind fun i => (l[i]?).bind fun x => some x) P) (k : ∀ a,P a → Gv (f a) Q) : Gv (m.bind fun i => (l[i]?).bind f) Q:=by
 cases m with
 | none => obtain ⟨a,e,_⟩:=h; cases e
 | some i =>
  rw [Jw] at h ⊢
  obtain ⟨a,e,ha⟩:=h
  cases hl : l[i]? with
  | none => rw [hl] at e; cases e
  | some b =>
   rw [hl,Jw] at e
   cases e
   exact k _ ha
theorem Dv {L Q : Nat} (hQ : Q ≤ 10) {ns : List Int} (hns : ns.length ≤ 1000) {t2 : Conf × Int} {i : Nat} (hi : t2.2 = (i : Int)) (hib : i ≤ 100) {kids : List Str} (hkids : kids.length ≤ 10) {t3 : Conf × Int} {k : Nat} (hk : t3.2 = (k : Int)) (hkL : k < L) (hL : L ≤ 10) (hc : CB L Q t3.1) :
  Gv (loop (dP ns t2 kids t3) (t3.1,10000,0)) (CB L Q):=by
 refine aG (fun (p : Conf × Int) i => (p.1,p.2,i)) kids.length (fun _ p => CB L Q p.1 ∧ 0 ≤ p.2 ∧ p.2 ≤ 10000) (step:=dP ns t2 kids t3) (by omega) ?_ ?_ (s:=(t3.1,10000)) ⟨hc,by dsimp only; omega⟩
 ·rintro j hj ⟨c,left⟩ ⟨hc,h1,h2⟩
  dsimp only at hc h1 h2
  unfold dP
  dsimp only
  rw [aj hj,cond_true,hi,hk]
  have w1 : w64 (((kids.length : Int)) - 1) = (kids.length : Int) - 1:=ao (by omega) (by omega)
  have w2 : w64 ((i : Int) + (j : Int)) = (i : Int) + j:=ao (by omega) (by omega)
  have w3 : w64 ((i : Int) + (j : Int) + (k : Int)) = (i : Int) + j + k:=ao (by omega) (by omega)
  have hij : 0 ≤ (i : Int) * (j : Int) ∧ (i : Int) * (j : Int) ≤ 100 * 10:=oK (by omega) (by omega) (by omega) (by omega)
  have w4 : w64 ((i : Int) * (j : Int)) = (i : Int) * j:=ao (by omega) (by omega)
  have w5 : w64 ((i : Int) * (j : Int) + (k : Int)) = (i : Int) * j + k:=ao (by omega) (by omega)
  have w6 : w64 ((j : Int) + (k : Int)) = (j : Int) + k:=ao (by omega) (by omega)
  have w7 : w64 (2 * (j : Int)) = 2 * (j : Int):=ao (by omega) (by omega)
  have w8 : w64 ((i : Int) + 2 * (j : Int)) = (i : Int) + 2 * j:=ao (by omega) (by omega)
  have w9 : w64 (left + 1) = left + 1:=ao (by omega) (by omega)
  rw [w1,w2,w3,w4,w5,w6,w7,w8,w9]
  refine ad (P:=fun n => 0 ≤ n ∧ n ≤ left) ?_ ?_
  ·refine ae (fun _ => ?_) fun _ => aa (by omega)
   refine ad (vw ns (by omega) (by omega)) fun x8 _ => ad (jU x8 (n:=left + 1) (by omega) (by omega)) fun x9 hx9 => ?_
   refine ad (vw ns (by omega) (by omega)) fun x10 _ => ad (jU x10 (n:=4) (by omega) (by omega)) fun x11 hx11 => ?_
   have hdiv : 0 ≤ Int.tdiv left 2 ∧ Int.tdiv left 2 ≤ left:=by
    rw [Int.tdiv_eq_ediv_of_nonneg h1]
    omega
   exact Gz (P:=fun n => 0 ≤ n ∧ n ≤ left) (by omega) (by rw [ao (by omega) (by omega)]; exact hdiv) (by omega) (by omega) hx11.1 hx11.2
  ·rintro n ⟨n1,n2⟩
   have w10 : w64 (10000 - n) = 10000 - n:=ao (by omega) (by omega)
   have w11 : w64 (10000 - n + 1) = 10000 - n + 1:=ao (by omega) (by omega)
   rw [w10,w11]
   refine ad (vw ns (by omega) (by omega)) fun x13 _ => ad (jU x13 (n:=10000 - n + 1) (by omega) (by omega)) fun x14 hx14 => ?_
   refine ad (vw ns (by omega) (by omega)) fun x15 _ => ad (jU x15 (n:=3) (by omega) (by omega)) fun x16 hx16 => ?_
   refine Cw (Fj (P:=fun m => 0 ≤ m ∧ m ≤ 1000000) (by omega) (by omega) (by rw [ao (by omega) (by omega)]; omega) hx16.1 hx16.2) fun x17 hx17 => ?_
   refine ad (Dq hQ hk hkL (t4:=(c,left,(j : Int))) rfl hj (by omega) hx17 hc) fun c2 hc2 => ?_
   refine aa (.inl ⟨(c2,w64 (left - n)),rfl,hc2,?_⟩)
   rw [ao (x:=left - n) (by omega) (by omega)]
   dsimp only
   omega
 ·rintro ⟨c,left⟩ ⟨hc,_⟩
  unfold dP
  dsimp only
  rw [ar,cond_false]
  exact aa ⟨c,rfl,hc⟩
theorem CS {L Q : Nat} (hL : L ≤ 10) (hQ : Q ≤ 10) {ns : List Int} (hns : ns.length ≤ 1000) {x2 : List Str} (hx2 : x2.length ≤ 10) {c : Conf} (hc : CB L Q c) : Gv (loop (dG ns x2) (c,0)) (CB L Q):=by
 refine aG (fun (c : Conf) i => (c,i)) x2.length (fun _ c => CB L Q c) (step:=dG ns x2) (by omega) ?_ ?_ (s:=c) hc
 ·intro i hi c hc
  unfold dG
  dsimp only
  rw [aj hi,cond_true,ai hi,Jw,ot (hc.small hL hQ),Jw]
  have hkl:=oz c x2[i]
  have hqs:=hc.qs
  refine ad (P:=CB L Q) ?_ fun c hc => aa (.inl ⟨c,rfl,hc⟩)
  refine aG (fun (c : Conf) i => (c,i)) L (fun _ c => CB L Q c) (step:=h_ ns (c,(i : Int)) (pKids c x2[i])) (by omega) ?_ ?_ (s:=c) hc
  ·intro k hk c' hc'
   unfold h_
   dsimp only
   rw [hc'.lab,aj hk,cond_true]
   exact ad (Dv hQ hns (t2:=(c,(i : Int))) rfl (by omega) (by omega) (t3:=(c',(k : Int))) rfl hk hL hc') fun c hc => aa (.inl ⟨c,rfl,hc⟩)
  ·intro c' hc'
   unfold h_
   dsimp only
   rw [hc'.lab,ar,cond_false]
   exact aa ⟨c',rfl,hc'⟩
 ·intro c hc
  unfold dG
  rw [ar]
  exact aa ⟨c,rfl,hc⟩
theorem CZ {L : Nat} (hL : L ≤ 10) {ns : List Int} (hns : ns.length ≤ 1000) {x2 : List Str} (hx2 : x2.length ≤ 10) (hp : ∀ p ∈ x2,p.length ≤ 20 ∧ ∀ b ∈ p,b ≠ 45) {lab : List Str} (hl : lab.length = L) (hls : ∀ x ∈ lab,x.length ≤ 20) (hln : ∀ x ∈ lab,∀ b ∈ x,b ≠ 45) :
  Gv (loop (dW ns x2) ((⟨lab,[]⟩ : Conf),0)) (CB L x2.length):=by
 refine aG (fun (c : Conf) i => (c,i)) x2.length (fun k c => CB L k c) (step:=dW ns x2) (by omega) ?_ ?_ (s:=(⟨lab,[]⟩ : Conf)) ⟨hl,hls,rfl,by simp,hln⟩
 ·intro i hi c hc
  unfold dW
  dsimp only
  rw [aj hi,cond_true,ai hi,Jw]
  refine ad (P:=QB 0) ?_ ?_
  ·refine ad (P:=fun b => b = true → i < ns.length) ?_ fun b hb => ?_
   ·refine ae (fun h => ?_) fun _ => aa (by simp)
    simp only [decide_eq_true_eq] at h
    have hlt : i < ns.length:=by omega
    rw [ai hlt,Jw]
    exact aa fun _ => hlt
   ·refine ae (fun hbt => ?_) fun _ => aa ⟨(hp _ (List.getElem_mem hi)).1,(hp _ (List.getElem_mem hi)).2,by dsimp only; omega,rfl,by simp⟩
    rw [ai (hb hbt),Jw]
    refine ad (jU _ (n:=20000) (by omega) (by omega)) fun x6 hx6 => aa ⟨(hp _ (List.getElem_mem hi)).1,(hp _ (List.getElem_mem hi)).2,?_,rfl,by simp⟩
    rw [ao (x:=1 + x6) (by omega) (by omega)]
    dsimp only
    omega
  ·intro q1 hq1
   refine ad (P:=QB L) ?_ fun q2 hq2 => ?_
   ·refine aG (fun (q : Queue) i => (q,i)) L (fun k q => QB k q) (step:=hS (c,(i : Int))) (by omega) ?_ ?_ (s:=q1) hq1
    ·intro k hk q hq
     unfold hS
     dsimp only
     rw [hc.lab,aj hk,cond_true,am (by have:=hq.caps; simp; omega) (by omega),Jw]
     refine aa (.inl ⟨_,rfl,hq.path,hq.nd,hq.user,by simp [hq.caps],fun x hx => ?_⟩)
     rcases List.mem_append.1 hx with hx | hx
     ·exact hq.cap x hx
     ·rw [JA] at hx
      subst hx
      dsimp only
      omega
    ·intro q hq
     unfold hS
     dsimp only
     rw [hc.lab,ar,cond_false]
     exact aa ⟨q,rfl,hq⟩
   ·rw [am (by have:=hc.qs; simp; omega) (by omega),Jw]
    refine aa (.inl ⟨_,rfl,hc.lab,hc.labs,by simp [hc.qs],fun q hq => ?_,hc.nl⟩)
    rcases List.mem_append.1 hq with hq | hq
    ·exact hc.q q hq
    ·rw [JA] at hq
     subst hq
     exact hq2
 ·intro c hc
  unfold dW
  rw [ar]
  exact aa ⟨c,rfl,hc⟩
theorem Cn (shape : Int) {ns : List Int} (hns : ns.length ≤ 1000) : Gv (gL shape ns) fun c => ∃ L Q,L ≤ 10 ∧ Q ≤ 10 ∧ CB L Q c:=by
 unfold gL
 refine ad (jU _ (n:=2) (by omega) (by omega)) fun x hx => ?_
 refine ad (qO (l:=[([] : List UInt8),([103,112,117] : List UInt8)]) (a:=0) (b:=w64 (1 + x)) (by omega) (by rw [ao (by omega) (by omega)]; omega) (by rw [ao (by omega) (by omega)]; simp; omega)) ?_
 rintro p ⟨p1,p2⟩
 refine ad (jU shape (n:=5) (by omega) (by omega)) fun x1 hx1 => ?_
 refine Cw (P:=fun l => l.length ≤ 10 ∧ ∀ p ∈ l,p.length ≤ 20 ∧ ∀ b ∈ p,b ≠ 45) ?_ ?_
 ·refine ad (mD hx1.1 (by simp; omega)) ?_
  rintro i rfl
  refine ad (my (by simp; omega)) fun y hy => aa ?_
  have key : ∀ l ∈ [[([114,111,111,116] : List UInt8)],[([114,111,111,116] : List UInt8),([114,111,111,116,46,97] : List UInt8),([114,111,111,116,46,98] : List UInt8)],[([114,111,111,116] : List UInt8),([114,111,111,116,46,97] : List UInt8),([114,111,111,116,46,97,46,120] : List UInt8),([114,111,111,116,46,97,46,121] : List UInt8),([114,111,111,116,46,98] : List UInt8)],[([114,111,111,116] : List UInt8),([114,111,111,116,46,97] : List UInt8),([114,111,111,116,46,98] : List UInt8),([114,111,111,116,46,98,46,120] : List UInt8),([114,111,111,116,46,98,46,120,46,112] : List UInt8),([114,111,111,116,46,98,46,120,46,113] : List UInt8),([114,111,111,116,46,99] : List UInt8)],[([114,111,111,116] : List UInt8),([114,111,111,116,46,97] : List UInt8)]],l.length ≤ 10 ∧ ∀ p ∈ l,p.length ≤ 20 ∧ ∀ b ∈ p,b ≠ 45:=by decide +kernel
  exact key y hy.1
 ·rintro x2 ⟨h1,h2⟩
  refine ad (CZ (L:=(sub [([] : List UInt8),([103,112,117] : List UInt8)] p.1 p.2).length) (by rw [p1,ao (by omega) (by omega)]; omega) hns h1 h2 rfl (fun y hy => ?_) (fun y hy => ?_)) fun c hc => ?_
  ·have:=p2 y hy
   have key : ∀ y ∈ [([] : List UInt8),([103,112,117] : List UInt8)],y.length ≤ 20:=by decide
   exact key y this
  ·have:=p2 y hy
   have key : ∀ y ∈ [([] : List UInt8),([103,112,117] : List UInt8)],∀ b ∈ y,b ≠ 45:=by decide
   exact key y this
  ·have hL : (sub [([] : List UInt8),([103,112,117] : List UInt8)] p.1 p.2).length ≤ 10:=by rw [p1,ao (by omega) (by omega)]; omega
   refine ad (CS hL h1 hns h1 hc) fun c hc => aa ⟨_,_,hL,h1,hc⟩
end Go.Fx.D

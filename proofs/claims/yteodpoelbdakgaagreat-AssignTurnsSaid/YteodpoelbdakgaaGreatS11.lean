/-
  The reference manager: what holds of its state after every script. Conditions: none.
-/
import Derived.Test.YteodpoelbdakgaaGreatS10
namespace Go.Fx.D
open Go Go.Fx
set_option linter.unusedVariables false
set_option linter.unusedSimpArgs false
theorem m9 {s : State} {i : Int} {a : App} (h : appAt s i = some a) : a ∈ s.Apps ∧ a.Id = i := fh h
theorem Inv.appAt {N : Nat} {s : State} (h : Inv N s) {a : App} (ha : a ∈ s.Apps) : appAt s a.Id = some a := qc h.asr ha
theorem Inv.uniqA {N : Nat} {s : State} (h : Inv N s) {a b : App} (ha : a ∈ s.Apps) (hb : b ∈ s.Apps) (e : a.Id = b.Id) : a = b := by
 have h1 := h.appAt ha
 rw [e, h.appAt hb] at h1
 cases h1
 rfl
theorem Inv.noc {N : Nat} {s : State} (h : Inv N s) {a : App} (ha : a ∈ s.Apps) : a.State = 2 ∨ ∀ c ∈ s.Conts, c.App ≠ a.Id := by
 by_cases h2 : a.State = 2
 ·exact .inl h2
 ·refine .inr fun c hc e => ?_
  obtain ⟨b, hb, e1, e2⟩ := (h.ck c hc).app
  have := h.uniqA ha hb (by omega)
  subst this
  exact h2 e2
theorem vG {a : App} (h : pLive a = true) : a.State = 1 ∨ a.State = 2 := by
 unfold pLive at h
 simpa using h
theorem yb (a : Ask) (n : Node) : Gv (aO a n) fun _ => True := by
 unfold aO
 repeat' (first | exact ⟨_, rfl, trivial⟩ | refine aw (fun _ => ?_) (fun _ => ?_) | refine aT (P := fun _ => True) ?_ (fun _ _ => ?_))
def eR (a : Ask) (n : Node) : Int := (aO a n).getD 0
theorem ig (a : Ask) (n : Node) : aO a n = some (eR a n) := pZ (yb a n) 0
theorem AP (a : Ask) (n : Node) : Gv (aY a n) fun _ => True := by
 unfold aY
 rw [ig, Ba]
 repeat' (first | exact ⟨_, rfl, trivial⟩ | refine aw (fun _ => ?_) (fun _ => ?_))
def pMay (a : Ask) (n : Node) : Bool := (aY a n).getD false
theorem lE (a : Ask) (n : Node) : aY a n = some (pMay a n) := pZ (AP a n) false
structure Keep (s t : State) : Prop where
 cf : t.Conf = s.Conf
 nd : t.Nodes = s.Nodes
 sl : t.Slots = s.Slots
 cs : t.Conts = s.Conts
 pl : t.Plans = s.Plans
 now : t.Now = s.Now
 ep : t.Epoch = s.Epoch
 sq : t.Seq = s.Seq
 ap : ∀ a ∈ s.Apps, ∃ b ∈ t.Apps, b.Id = a.Id ∧ b.State = a.State ∧ b.Queue = a.Queue ∧ b.User = a.User
theorem Keep.refl (s : State) : Keep s s := ⟨rfl, rfl, rfl, rfl, rfl, rfl, rfl, rfl, fun a ha => ⟨a, ha, rfl, rfl, rfl, rfl⟩⟩
theorem Keep.trans {s t u : State} (h : Keep s t) (k : Keep t u) : Keep s u := by
 refine ⟨k.cf.trans h.cf, k.nd.trans h.nd, k.sl.trans h.sl, k.cs.trans h.cs, k.pl.trans h.pl, k.now.trans h.now, k.ep.trans h.ep, k.sq.trans h.sq, fun a ha => ?_⟩
 obtain ⟨b, hb, e1, e2, e3, e4⟩ := h.ap a ha
 obtain ⟨c, hc, f1, f2, f3, f4⟩ := k.ap b hb
 exact ⟨c, hc, f1.trans e1, f2.trans e2, f3.trans e3, f4.trans e4⟩
def eY (a : App) (prio : Int) : App := ⟨a.Id, a.State, a.Queue, a.User, a.Prio, a.Master, pMiss a.Asks prio, a.Seen, a.Beat, a.Grants, a.Kills, a.Told, a.Lost⟩
theorem pc (p : Int) (x : Ask) : (missK p x).Prio = x.Prio := by unfold missK; split <;> rfl
theorem AF {l : List Ask} (h : l.Pairwise fun x y => x.Prio < y.Prio) (p : Int) : (pMiss l p).Pairwise fun x y => x.Prio < y.Prio := by
 unfold pMiss
 rw [List.pairwise_map]
 refine h.imp fun {a b} hab => ?_
 rw [pc, pc]; exact hab
theorem pN {p : Int} {x y : Ask} (h : takeK p x = some y) : y.Prio = x.Prio := by
 unfold takeK at h
 split at h
 ·split at h
  ·cases h
  ·cases h; rfl
 ·cases h; rfl
theorem vn (p : Int) : ∀ {l : List Ask}, l.Pairwise (fun x y => x.Prio < y.Prio) → (pTake l p).Pairwise fun x y => x.Prio < y.Prio
 | [], _ => by simp [pTake]
 | x :: l, h => by
  have h1 := (List.pairwise_cons.1 h).1
  have ih := vn p (List.pairwise_cons.1 h).2
  unfold pTake at ih ⊢
  rw [List.filterMap_cons]
  split
  ·exact ih
  ·rename_i y hy
   refine List.pairwise_cons.2 ⟨fun z hz => ?_, ih⟩
   obtain ⟨u, hu, e⟩ := List.mem_filterMap.1 hz
   rw [pN hy, pN e]
   exact h1 u hu
theorem zJ {N : Nat} {c : Conf} {a : App} (h : AppOk N c a) (prio : Int) : AppOk N c (eY a prio) := by
 refine ⟨h.st, h.user, h.path, h.leaf, h.mas, by show (a.Asks.map _).length ≤ 8; rw [List.length_map]; exact h.al, ?_, h.gr, h.ki, h.to, h.lo, AF h.ap prio⟩
 intro x hx
 obtain ⟨y, hy, rfl⟩ := List.mem_map.1 hx
 have := h.ask y hy
 unfold missK
 split
 ·exact ⟨this.label, this.size, this.count⟩
 ·exact this
theorem Inv.miss {N : Nat} {s : State} (h : Inv N s) {a : App} (ha : a ∈ s.Apps) (prio : Int) : Inv N (pPutA s (eY a prio)) ∧ Keep s (pPutA s (eY a prio)) := by
 refine ⟨h.putA ⟨a, ha, rfl⟩ (zJ (h.ak a ha) prio) (h.noc (a := a) ha : a.State = 2 ∨ ∀ c ∈ s.Conts, c.App ≠ a.Id), ⟨rfl, rfl, rfl, rfl, rfl, rfl, rfl, rfl, fun b hb => ?_⟩⟩
 by_cases he : b.Id = a.Id
 ·have := h.uniqA hb ha he
  subst this
  exact ⟨eY b prio, (bd h.asr).2 (.inl rfl), rfl, rfl, rfl, rfl⟩
 ·exact ⟨b, (bd h.asr).2 (.inr ⟨hb, he⟩), rfl, rfl, rfl, rfl⟩
theorem ur {c : Conf} {l : List Ask} (h : ∀ x ∈ l, AskOk c x) (prio : Int) : (pTake l prio).length ≤ l.length ∧ ∀ x ∈ pTake l prio, AskOk c x := by
 refine ⟨List.length_filterMap_le _ _, fun x hx => ?_⟩
 obtain ⟨y, hy, e⟩ := List.mem_filterMap.1 hx
 have := h y hy
 unfold takeK at e
 split at e
 ·split at e
  ·cases e
  ·cases e
   exact ⟨this.label, this.size, by have := this.count; dsimp only; omega⟩
 ·cases e
  exact this
theorem yZ {α : Type} (id : α → Int) (l : List α) (a : α) : (insG id l a).length = l.length + 1 := by
 unfold insG
 have := congrArg List.length (List.takeWhile_append_dropWhile (p := fun x => decide (id x < id a)) (l := l))
 rw [Bd] at this ⊢
 rw [List.length_cons]
 omega
theorem Inv.grant {N : Nat} {s : State} (h : Inv N s) {n : Node} (hn : n ∈ s.Nodes) {a : App} (ha : a ∈ s.Apps) (hl : pLive a = true) {x : Ask} (hx : AskOk s.Conf x) (hc : s.Conts.length < 200) (hq : s.Seq < 1048575) : Inv (N + 1) (bX s n a x) := by
 have hid := wy h.ep h.sq
 have hlt : ∀ c ∈ s.Conts, c.Id < (gCont s n a x).Id := by
  intro c hc
  have := (h.ck c hc).id
  show c.Id < cid s
  omega
 have e : insG (·.Id) s.Conts (gCont s n a x) = putG (·.Id) s.Conts (gCont s n a x) := sC fun c hc => by have := hlt c hc; omega
 have hak := h.ak a ha
 have hlv := vG hl
 have hap : AppOk (N + 1) s.Conf (gApp s a x) := by
  unfold gApp
  split
  ·exact ⟨by dsimp only; omega, hak.user, hak.path, fun _ => hak.leaf hlv, hak.mas, by simp, by simp, Nat.le_succ_of_le hak.gr, Nat.le_succ_of_le hak.ki, Nat.le_succ_of_le hak.to, Nat.le_succ_of_le hak.lo, by simp⟩
  ·have ht := ur hak.ask x.Prio
   exact ⟨hak.st, hak.user, hak.path, hak.leaf, hak.mas, Nat.le_trans ht.1 hak.al, ht.2, by have := hak.gr; simp; omega, Nat.le_succ_of_le hak.ki, Nat.le_succ_of_le hak.to, Nat.le_succ_of_le hak.lo, vn x.Prio hak.ap⟩
 have hgid : (gApp s a x).Id = a.Id := by unfold gApp; split <;> rfl
 have hgst : (gApp s a x).State = 2 := by
  unfold gApp
  split
  ·rfl
  ·dsimp only; omega
 have hin : gApp s a x ∈ (bX s n a x).Apps := (bd h.asr).2 (.inl rfl)
 refine ⟨h.cf, h.nl, h.ns, h.nk, ?_, fQ h.asr, ?_, ?_, ?_, ?_, h.ss, h.sk, h.pl, h.ps, h.pk, h.now, h.ep, ?_, by have := h.en; show s.Epoch ≤ ((N + 1 : Nat) : Int); omega⟩
 ·show (putG (·.Id) s.Apps (gApp s a x)).length ≤ 16
  rw [kz.2 ⟨a, ha, hgid.symm⟩ h.asr]; exact h.al
 ·intro b hb
  rcases (bd h.asr).1 hb with rfl | ⟨hb, _⟩
  ·exact hap
  ·exact (h.ak b hb).mono (by omega)
 ·show (insG (·.Id) s.Conts (gCont s n a x)).length ≤ 200
  rw [yZ]; omega
 ·show (insG (·.Id) s.Conts (gCont s n a x)).Pairwise _
  rw [e]; exact fQ h.cs
 ·intro c hc
  have hc : c ∈ insG (·.Id) s.Conts (gCont s n a x) := hc
  rw [e] at hc
  rcases (bd h.cs).1 hc with rfl | ⟨hc, _⟩
  ·have hnk := h.nk n hn
   refine ⟨hx.size, ⟨_, hin, hgid, hgst⟩, hnk.2, ?_⟩
   show 0 ≤ cid s ∧ cid s ≤ s.Epoch * 1048576 + (s.Seq + 1)
   have := h.ep
   have := h.sq
   omega
  ·have := h.ck c hc
   refine ⟨this.size, ?_, this.label, ?_⟩
   ·obtain ⟨b, hb, e1, e2⟩ := this.app
    by_cases he : b.Id = (gApp s a x).Id
    ·exact ⟨_, hin, by omega, hgst⟩
    ·exact ⟨b, (bd h.asr).2 (.inr ⟨hb, he⟩), e1, e2⟩
   ·have := this.id
    show 0 ≤ c.Id ∧ c.Id ≤ s.Epoch * 1048576 + (s.Seq + 1)
    omega
 ·have := h.sq
  show 0 ≤ s.Seq + 1 ∧ s.Seq + 1 ≤ 1048575
  omega
def AskR (N : Nat) (s : State) (r : State × Int × Cont) : Prop := (r.2.1 = 0 → Inv N r.1 ∧ Keep s r.1) ∧ (r.2.1 ≠ 0 → Inv (N + 1) r.1 ∧ r.1.Conf = s.Conf ∧ r.1.Nodes = s.Nodes)
theorem ni {N : Nat} {s t : State} {c : Cont} (h : Inv N t) (k : Keep s t) : AskR N s (t, 0, c) := ⟨fun _ => ⟨h, k⟩, fun h => absurd rfl h⟩
theorem si {N : Nat} {s t : State} {c : Cont} {k : Int} (hk : k ≠ 0) (h : Inv (N + 1) t) (h1 : t.Conf = s.Conf) (h2 : t.Nodes = s.Nodes) : AskR N s (t, k, c) := ⟨fun h => absurd h hk, fun _ => ⟨h, h1, h2⟩⟩
theorem Inv.leafLen {N : Nat} {s : State} (h : Inv N s) {a : App} (ha : a ∈ s.Apps) : a.Queue.length ≤ 1000000 := by have := (h.ak a ha).path.len; omega
theorem w5 {N : Nat} {s : State} (h : Inv N s) (hN : N ≤ 1000000) {n : Node} (hn : n ∈ s.Nodes) (hfree : ∀ y ∈ s.Slots, y.Node ≠ n.Id) {a : App} (ha : a ∈ s.Apps) (hl : pLive a = true) {x : Ask} (hx : AskOk s.Conf x) (hc : s.Conts.length < 200) (hq : s.Seq < 1048575) (first : Bool) :
  Gv (bv s n a x first) (AskR N s) := by
 have hsc := h.sc
 have hak := h.ak a ha
 unfold bv
 rw [po hsc (h.leafLen ha) hx.size.vb, Ba]
 refine aT (P := fun _ => True) ?_ fun q _ => ?_
 ·rw [ig, Ba, eQ, Ba]
  repeat' (first | exact ⟨_, rfl, trivial⟩ | refine aw (fun _ => ?_) (fun _ => ?_))
 refine aw (fun _ => af (ni h (.refl s))) fun _ => ?_
 rw [lE, Ba]
 refine aw (fun _ => ?_) fun _ => ?_
 ·refine aT (P := fun t => Inv N t ∧ Keep s t) ?_ fun t ht => af (ni ht.1 ht.2)
  refine aw (fun _ => ?_) fun _ => af ⟨h, .refl s⟩
  rw [u1 (by have := hak.al; omega), Ba]
  refine aT (P := fun t => t = pPutA s (eY a x.Prio)) (fm (nI h.z _) rfl) ?_
  rintro t rfl
  exact af (h.miss ha x.Prio)
 ·rw [nS hsc (h.leafLen ha) n.Label hx.size.vb, Ba]
  refine aw (fun _ => af (ni h (.refl s))) fun _ => ?_
  rw [lv h.sb, Ba, eQ, Ba]
  refine aw (fun _ => ?_) fun _ => ?_
  ·rw [mo h.z h.sq n (by have := hak.al; omega) (fun y hy => by have := (hak.ask y hy).count; omega) (by have := hak.gr; omega) x, Ba]
   exact af (si (by simp) (h.grant hn ha hl hx hc hq) rfl rfl)
  ·refine aT (P := fun _ => True) ?_ fun q1 _ => ?_
   ·rw [ta h.z, Ba]
    repeat' (first | exact ⟨_, rfl, trivial⟩ | refine aw (fun _ => ?_) (fun _ => ?_))
   ·refine aw (fun _ => ?_) fun _ => af (ni h (.refl s))
    rw [u7 h.z, Ba]
    exact af (si (by simp) ((h.hold hfree ⟨n, hn, rfl⟩).mono (by omega)) rfl rfl)
structure RI (N : Nat) (n : Node) (s t : State) : Prop where
 i : Inv N t
 k : Keep s t
def RQ (N : Nat) (n : Node) (s : State) (r : (State × Int × Cont) ⊕ (State × State × Cont)) : Prop :=
 match r with
 | .inl q => q.2.1 ≠ 0 ∧ Inv (N + 1) q.1 ∧ q.1.Conf = s.Conf ∧ q.1.Nodes = s.Nodes
 | .inr p => RI N n s p.1
theorem w_ {N : Nat} (hN : N ≤ 1000000) {s : State} {n : Node} (hn : n ∈ s.Nodes) (hfree : ∀ y ∈ s.Slots, y.Node ≠ n.Id) (hc : s.Conts.length < 200) (hq : s.Seq < 1048575) (first : Bool) {ids : List Int} {k : Nat} (hk : k < ids.length)
  {a0 : App} (ha0 : a0 ∈ s.Apps) (hid : a0.Id = ids[k]) (hl : pLive a0 = true) {x2 : App × Bool} (hx2 : x2.1.Asks.length ≤ 1000 ∧ ∀ x ∈ x2.1.Asks, AskOk s.Conf x) {t1 : State × State × Cont} (ht : RI N n s t1.1) :
  Gv (loop (ah n first ids (t1.1, t1.2.1, t1.2.2, (k : Int)) x2) (t1.1, t1.2.1, t1.2.2, 0)) (RQ N n s) := by
 refine gu (fun (p : State × State × Cont) i => (p.1, p.2.1, p.2.2, i)) x2.1.Asks.length (fun _ p => RI N n s p.1) (step := ah n first ids (t1.1, t1.2.1, t1.2.2, (k : Int)) x2) (by omega) ?_ ?_ (s := t1) ht
 ·intro j hj p hp
  obtain ⟨b, hb, e1, e2, e3, e4⟩ := hp.k.ap a0 ha0
  unfold ah
  dsimp only
  rw [au hj, cond_true, aH hk, Ba, Bb hk, Ba, bb hp.i.z, ← hid, ← e1, hp.i.appAt hb, Ba, ax hj, Ba]
  have hlb : pLive b = true := by unfold pLive at hl ⊢; rw [e2]; exact hl
  have hask : AskOk p.1.Conf x2.1.Asks[j] := by rw [hp.k.cf]; exact hx2.2 _ (List.getElem_mem hj)
  refine aT (w5 hp.i hN (by rw [hp.k.nd]; exact hn) (by rw [hp.k.sl]; exact hfree) hb hlb hask (by rw [hp.k.cs]; exact hc) (by rw [hp.k.sq]; exact hq) first) ?_
  rintro ⟨u, kd, c⟩ ⟨r0, r1⟩
  dsimp only at r0 r1 ⊢
  refine aw (fun hz => ?_) fun hz => ?_
  ·have hz : kd ≠ 0 := by simpa using hz
   obtain ⟨q1, q2, q3⟩ := r1 hz
   exact af (.inr ⟨_, rfl, hz, q1, q2.trans hp.k.cf, q3.trans hp.k.nd⟩)
  ·have hz : kd = 0 := by simpa using hz
   obtain ⟨q1, q2⟩ := r0 hz
   exact af (.inl ⟨(u, p.2.1, p.2.2), rfl, ⟨q1, hp.k.trans q2⟩⟩)
 ·intro p hp
  unfold ah
  dsimp only
  rw [aD, cond_false]
  exact af ⟨_, rfl, hp⟩
theorem wC {N : Nat} (hN : N ≤ 1000000) {s : State} {n : Node} (hn : n ∈ s.Nodes) (hfree : ∀ y ∈ s.Slots, y.Node ≠ n.Id) (hc : s.Conts.length < 200) (hq : s.Seq < 1048575) (first : Bool) {leaves : List Str} {k : Nat} (hk : k < leaves.length) (hll : leaves[k].length ≤ 1000000)
  {ids : List Int} (hil : ids.length ≤ 100000) (hids : ∀ i ∈ ids, ∃ a ∈ s.Apps, a.Id = i ∧ pLive a = true ∧ a.Queue = leaves[k]) {t : State × State × Cont} (ht : RI N n s t.1) :
  Gv (loop (am n first leaves (t.1, t.2.1, t.2.2, (k : Int)) ids) (t.1, t.2.1, t.2.2, 0)) (RQ N n s) := by
 refine gu (fun (p : State × State × Cont) i => (p.1, p.2.1, p.2.2, i)) ids.length (fun _ p => RI N n s p.1) (step := am n first leaves (t.1, t.2.1, t.2.2, (k : Int)) ids) (by omega) ?_ ?_ (s := t) ht
 ·intro j hj p hp
  obtain ⟨a0, ha0, hid, hl, hqu⟩ := hids _ (List.getElem_mem hj)
  obtain ⟨b, hb, e1, e2, e3, e4⟩ := hp.k.ap a0 ha0
  have hbk := hp.i.ak b hb
  unfold am
  dsimp only
  rw [au hj, cond_true]
  refine aT (P := fun r => match r with | .inl p => RI N n s p.1 | .inr q => q.2.1 ≠ 0 ∧ Inv (N + 1) q.1 ∧ q.1.Conf = s.Conf ∧ q.1.Nodes = s.Nodes) ?_ ?_
  ·rw [aH hj, Ba, Bb hj, Ba, bb hp.i.z, ← hid, ← e1, hp.i.appAt hb, Ba, aH hk, Ba, Bb hk, Ba,
    jY hp.i.sc hll, Ba]
   refine aw (fun _ => af hp) fun _ => ?_
   refine aT (w_ hN hn hfree hc hq first hj ha0 hid hl ⟨by have := hbk.al; show b.Asks.length ≤ 1000; omega, fun x hx => by rw [← hp.k.cf]; exact hbk.ask x hx⟩ hp) ?_
   rintro (q | q) hr
   ·exact af hr
   ·exact af hr
  ·rintro (q | q) hr
   ·exact af (.inl ⟨q, rfl, hr⟩)
   ·exact af (.inr ⟨_, rfl, hr⟩)
 ·intro p hp
  unfold am
  dsimp only
  rw [aD, cond_false]
  exact af ⟨_, rfl, hp⟩
theorem tP {N : Nat} (hN : N ≤ 1000000) {s : State} (h : Inv N s) {n : Node} (hn : n ∈ s.Nodes) (hfree : ∀ y ∈ s.Slots, y.Node ≠ n.Id) (hc : s.Conts.length < 200) (hq : s.Seq < 1048575) (first : Bool) :
  Gv (ao s n first) (AskR N s) := by
 unfold ao
 rw [kQ h.sc, Ba]
 have hll := pB h.sc n.Label
 refine aT (P := RQ N n s) ?_ ?_
 ·refine gu (fun (p : State × State × Cont) i => (p.1, p.2.1, p.2.2, i)) (bc s n.Label).length (fun _ p => RI N n s p.1) (step := ag n first (bc s n.Label)) (by omega) ?_ ?_
   (s := (s, (⟨⟨[], []⟩, [], [], [], [], [], 0, 0, 0⟩ : State), (⟨0, 0, 0, ⟨0, 0⟩, 0, 0, false, 0⟩ : Cont))) ⟨h, .refl s⟩
  ·intro j hj p hp
   unfold ag
   dsimp only
   rw [au hj, cond_true, aH hj, Ba, Bb hj, Ba, nY hp.i.z, Ba]
   have hlen : ((bc s n.Label)[j]).length ≤ 1000000 := by
    have := (qH h.cf (tW h.sc n.Label (List.getElem_mem hj))).len
    omega
   have hn' : n ∈ p.1.Nodes := by rw [hp.k.nd]; exact hn
   refine aT (wC hN (s := p.1) hn' (by rw [hp.k.sl]; exact hfree) (by rw [hp.k.cs]; exact hc) (by rw [hp.k.sq]; exact hq) first hj hlen (by have := rP (s := p.1) (bc s n.Label)[j]; have := hp.i.al; omega) (fun i hi => sx hi) (t := p) ⟨hp.i, .refl _⟩) ?_
   rintro (q | q) hr
   ·exact af (.inr ⟨_, rfl, hr.1, hr.2.1, hr.2.2.1.trans hp.k.cf, hr.2.2.2.trans hp.k.nd⟩)
   ·exact af (.inl ⟨q, rfl, ⟨hr.i, hp.k.trans hr.k⟩⟩)
  ·intro p hp
   unfold ag
   dsimp only
   rw [aD, cond_false]
   exact af ⟨_, rfl, hp⟩
 ·rintro (q | q) hr
  ·exact af (si hr.1 hr.2.1 hr.2.2.1 hr.2.2.2)
  ·exact af (ni hr.i hr.k)
end Go.Fx.D

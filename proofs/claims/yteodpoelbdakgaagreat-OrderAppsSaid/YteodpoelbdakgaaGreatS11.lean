/-
  The reference manager: what holds of its state after every script. Conditions: none.
-/
import Derived.Test.YteodpoelbdakgaaGreatS10
/-
  Chapter 14: what a node is given: each step leads from a state that is right to one that is.
-/
namespace Go.Fx.D
open Go Go.Fx
set_option linter.unusedVariables false
set_option linter.unusedSimpArgs false

theorem appAt_mem {s : State} {i : Int} {a : App} (h : appAt s i = some a) : a ∈ s.Apps ∧ a.Id = i := find_id2 h
theorem Inv.appAt {N : Nat} {s : State} (h : Inv N s) {a : App} (ha : a ∈ s.Apps) : appAt s a.Id = some a := find_id h.asr ha
theorem Inv.uniqA {N : Nat} {s : State} (h : Inv N s) {a b : App} (ha : a ∈ s.Apps) (hb : b ∈ s.Apps) (e : a.Id = b.Id) : a = b := by
  have h1 := h.appAt ha
  rw [e, h.appAt hb] at h1
  cases h1
  rfl
theorem Inv.noc {N : Nat} {s : State} (h : Inv N s) {a : App} (ha : a ∈ s.Apps) : a.State = 2 ∨ ∀ c ∈ s.Conts, c.App ≠ a.Id := by
  by_cases h2 : a.State = 2
  · exact .inl h2
  · refine .inr fun c hc e => ?_
    obtain ⟨b, hb, e1, e2⟩ := (h.ck c hc).app
    have := h.uniqA ha hb (by omega)
    subst this
    exact h2 e2
theorem live_cases {a : App} (h : pLive a = true) : a.State = 1 ∨ a.State = 2 := by
  unfold pLive at h
  simpa using h

theorem Level_gv (a : Ask) (n : Node) : Gv (dispatchref13_Level a n) fun _ => True := by
  unfold dispatchref13_Level
  repeat' (first | exact ⟨_, rfl, trivial⟩ | refine gv_cond (fun _ => ?_) (fun _ => ?_) | refine gv_bind (P := fun _ => True) ?_ (fun _ _ => ?_))
def pLevel (a : Ask) (n : Node) : Int := (dispatchref13_Level a n).getD 0
theorem Level_eq (a : Ask) (n : Node) : dispatchref13_Level a n = some (pLevel a n) := gv_get0 (Level_gv a n) 0
theorem May_gv (a : Ask) (n : Node) : Gv (dispatchref13_May a n) fun _ => True := by
  unfold dispatchref13_May
  rw [Level_eq, Option.bind_some]
  repeat' (first | exact ⟨_, rfl, trivial⟩ | refine gv_cond (fun _ => ?_) (fun _ => ?_))
def pMay (a : Ask) (n : Node) : Bool := (dispatchref13_May a n).getD false
theorem May_eq (a : Ask) (n : Node) : dispatchref13_May a n = some (pMay a n) := gv_get0 (May_gv a n) false

/-- all but asks is as it was -/
structure Keep (s t : State) : Prop where
  cf : t.Conf = s.Conf
  nd : t.Nodes = s.Nodes
  sl : t.Slots = s.Slots
  cs : t.Conts = s.Conts
  pl : t.Plans = s.Plans
  now : t.Now = s.Now
  ep : t.Epoch = s.Epoch
  sq : t.Seq = s.Seq
  ap : ∀ a ∈ s.Apps, ∃ b ∈ t.Apps, b.Id = a.Id ∧ b.State = a.State ∧ b.Queue = a.Queue ∧ b.User = a.User
theorem Keep.refl (s : State) : Keep s s := ⟨rfl, rfl, rfl, rfl, rfl, rfl, rfl, rfl, fun a ha => ⟨a, ha, rfl, rfl, rfl, rfl⟩⟩
theorem Keep.trans {s t u : State} (h : Keep s t) (k : Keep t u) : Keep s u := by
  refine ⟨k.cf.trans h.cf, k.nd.trans h.nd, k.sl.trans h.sl, k.cs.trans h.cs, k.pl.trans h.pl, k.now.trans h.now, k.ep.trans h.ep, k.sq.trans h.sq, fun a ha => ?_⟩
  obtain ⟨b, hb, e1, e2, e3, e4⟩ := h.ap a ha
  obtain ⟨c, hc, f1, f2, f3, f4⟩ := k.ap b hb
  exact ⟨c, hc, f1.trans e1, f2.trans e2, f3.trans e3, f4.trans e4⟩

/-- an ask missed -/
def pMissA (a : App) (prio : Int) : App := ⟨a.Id, a.State, a.Queue, a.User, a.Prio, a.Master, pMiss a.Asks prio, a.Seen, a.Beat, a.Grants, a.Kills, a.Told, a.Lost⟩
theorem miss_ok {N : Nat} {c : Conf} {a : App} (h : AppOk N c a) (prio : Int) : AppOk N c (pMissA a prio) := by
  refine ⟨h.st, h.user, h.path, h.leaf, h.mas, by show (a.Asks.map _).length ≤ 8; rw [List.length_map]; exact h.al, ?_, h.gr, h.ki, h.to, h.lo⟩
  intro x hx
  obtain ⟨y, hy, rfl⟩ := List.mem_map.1 hx
  have := h.ask y hy
  unfold missK
  split
  · exact ⟨this.label, this.size, this.count⟩
  · exact this
theorem Inv.miss {N : Nat} {s : State} (h : Inv N s) {a : App} (ha : a ∈ s.Apps) (prio : Int) : Inv N (pPutA s (pMissA a prio)) ∧ Keep s (pPutA s (pMissA a prio)) := by
  refine ⟨h.putA ⟨a, ha, rfl⟩ (miss_ok (h.ak a ha) prio) (h.noc (a := a) ha : a.State = 2 ∨ ∀ c ∈ s.Conts, c.App ≠ a.Id), ⟨rfl, rfl, rfl, rfl, rfl, rfl, rfl, rfl, fun b hb => ?_⟩⟩
  by_cases he : b.Id = a.Id
  · have := h.uniqA hb ha he
    subst this
    exact ⟨pMissA b prio, (putG_mem h.asr).2 (.inl rfl), rfl, rfl, rfl, rfl⟩
  · exact ⟨b, (putG_mem h.asr).2 (.inr ⟨hb, he⟩), rfl, rfl, rfl, rfl⟩

theorem take_ok {c : Conf} {l : List Ask} (h : ∀ x ∈ l, AskOk c x) (prio : Int) : (pTake l prio).length ≤ l.length ∧ ∀ x ∈ pTake l prio, AskOk c x := by
  refine ⟨List.length_filterMap_le _ _, fun x hx => ?_⟩
  obtain ⟨y, hy, e⟩ := List.mem_filterMap.1 hx
  have := h y hy
  unfold takeK at e
  split at e
  · split at e
    · cases e
    · cases e
      exact ⟨this.label, this.size, by have := this.count; dsimp only; omega⟩
  · cases e
    exact this

theorem insG_len {α : Type} (id : α → Int) (l : List α) (a : α) : (insG id l a).length = l.length + 1 := by
  unfold insG
  have := congrArg List.length (List.takeWhile_append_dropWhile (p := fun x => decide (id x < id a)) (l := l))
  rw [List.length_append] at this ⊢
  rw [List.length_cons]
  omega
/-- a grant leads to a state that is right -/
theorem Inv.grant {N : Nat} {s : State} (h : Inv N s) {n : Node} (hn : n ∈ s.Nodes) {a : App} (ha : a ∈ s.Apps) (hl : pLive a = true) {x : Ask} (hx : AskOk s.Conf x) (hc : s.Conts.length < 200) (hq : s.Seq < 1048575) : Inv (N + 1) (pGrant s n a x) := by
  have hid := cid_eq h.ep h.sq
  have hlt : ∀ c ∈ s.Conts, c.Id < (gCont s n a x).Id := by
    intro c hc
    have := (h.ck c hc).id
    show c.Id < cid s
    omega
  have e : insG (·.Id) s.Conts (gCont s n a x) = putG (·.Id) s.Conts (gCont s n a x) := insG_put fun c hc => by have := hlt c hc; omega
  have hak := h.ak a ha
  have hlv := live_cases hl
  have hap : AppOk (N + 1) s.Conf (gApp s a x) := by
    unfold gApp
    split
    · exact ⟨by dsimp only; omega, hak.user, hak.path, fun _ => hak.leaf hlv, hak.mas, by simp, by simp, Nat.le_succ_of_le hak.gr, Nat.le_succ_of_le hak.ki, Nat.le_succ_of_le hak.to, Nat.le_succ_of_le hak.lo⟩
    · have ht := take_ok hak.ask x.Prio
      exact ⟨hak.st, hak.user, hak.path, hak.leaf, hak.mas, Nat.le_trans ht.1 hak.al, ht.2, by have := hak.gr; simp; omega, Nat.le_succ_of_le hak.ki, Nat.le_succ_of_le hak.to, Nat.le_succ_of_le hak.lo⟩
  have hgid : (gApp s a x).Id = a.Id := by unfold gApp; split <;> rfl
  have hgst : (gApp s a x).State = 2 := by
    unfold gApp
    split
    · rfl
    · dsimp only; omega
  have hin : gApp s a x ∈ (pGrant s n a x).Apps := (putG_mem h.asr).2 (.inl rfl)
  refine ⟨h.cf, h.nl, h.ns, h.nk, ?_, putG_sorted h.asr, ?_, ?_, ?_, ?_, h.ss, h.sk, h.pl, h.ps, h.pk, h.now, h.ep, ?_⟩
  · show (putG (·.Id) s.Apps (gApp s a x)).length ≤ 16
    rw [putG_len.2 ⟨a, ha, hgid.symm⟩ h.asr]; exact h.al
  · intro b hb
    rcases (putG_mem h.asr).1 hb with rfl | ⟨hb, _⟩
    · exact hap
    · exact (h.ak b hb).mono (by omega)
  · show (insG (·.Id) s.Conts (gCont s n a x)).length ≤ 200
    rw [insG_len]; omega
  · show (insG (·.Id) s.Conts (gCont s n a x)).Pairwise _
    rw [e]; exact putG_sorted h.cs
  · intro c hc
    have hc : c ∈ insG (·.Id) s.Conts (gCont s n a x) := hc
    rw [e] at hc
    rcases (putG_mem h.cs).1 hc with rfl | ⟨hc, _⟩
    · have hnk := h.nk n hn
      refine ⟨hx.size, ⟨_, hin, hgid, hgst⟩, hnk.2, ?_⟩
      show 0 ≤ cid s ∧ cid s ≤ s.Epoch * 1048576 + (s.Seq + 1)
      have := h.ep
      have := h.sq
      omega
    · have := h.ck c hc
      refine ⟨this.size, ?_, this.label, ?_⟩
      · obtain ⟨b, hb, e1, e2⟩ := this.app
        by_cases he : b.Id = (gApp s a x).Id
        · exact ⟨_, hin, by omega, hgst⟩
        · exact ⟨b, (putG_mem h.asr).2 (.inr ⟨hb, he⟩), e1, e2⟩
      · have := this.id
        show 0 ≤ c.Id ∧ c.Id ≤ s.Epoch * 1048576 + (s.Seq + 1)
        omega
  · have := h.sq
    show 0 ≤ s.Seq + 1 ∧ s.Seq + 1 ≤ 1048575
    omega

/-- what an ask comes to -/
def AskR (N : Nat) (s : State) (r : State × Int × Cont) : Prop := (r.2.1 = 0 → Inv N r.1 ∧ Keep s r.1) ∧ (r.2.1 ≠ 0 → Inv (N + 1) r.1 ∧ r.1.Conf = s.Conf ∧ r.1.Nodes = s.Nodes)
theorem askR_0 {N : Nat} {s t : State} {c : Cont} (h : Inv N t) (k : Keep s t) : AskR N s (t, 0, c) := ⟨fun _ => ⟨h, k⟩, fun h => absurd rfl h⟩
theorem askR_n {N : Nat} {s t : State} {c : Cont} {k : Int} (hk : k ≠ 0) (h : Inv (N + 1) t) (h1 : t.Conf = s.Conf) (h2 : t.Nodes = s.Nodes) : AskR N s (t, k, c) := ⟨fun h => absurd h hk, fun _ => ⟨h, h1, h2⟩⟩

theorem Inv.leafLen {N : Nat} {s : State} (h : Inv N s) {a : App} (ha : a ∈ s.Apps) : a.Queue.length ≤ 1000000 := by have := (h.ak a ha).path.len; omega

theorem ask_gv {N : Nat} {s : State} (h : Inv N s) (hN : N ≤ 1000000) {n : Node} (hn : n ∈ s.Nodes) (hfree : ∀ y ∈ s.Slots, y.Node ≠ n.Id) {a : App} (ha : a ∈ s.Apps) (hl : pLive a = true) {x : Ask} (hx : AskOk s.Conf x) (hc : s.Conts.length < 200) (hq : s.Seq < 1048575) (first : Bool) :
    Gv (dispatchref14_ask s n a x first) (AskR N s) := by
  have hsc := h.sc
  have hak := h.ak a ha
  unfold dispatchref14_ask
  rw [due_eq hsc (h.leafLen ha) hx.size.vb, Option.bind_some]
  refine gv_bind (P := fun _ => True) ?_ fun q _ => ?_
  · rw [Level_eq, Option.bind_some, fits_eq, Option.bind_some]
    repeat' (first | exact ⟨_, rfl, trivial⟩ | refine gv_cond (fun _ => ?_) (fun _ => ?_))
  refine gv_cond (fun _ => gv_some (askR_0 h (.refl s))) fun _ => ?_
  rw [May_eq, Option.bind_some]
  refine gv_cond (fun _ => ?_) fun _ => ?_
  · refine gv_bind (P := fun t => Inv N t ∧ Keep s t) ?_ fun t ht => gv_some (askR_0 ht.1 ht.2)
    refine gv_cond (fun _ => ?_) fun _ => gv_some ⟨h, .refl s⟩
    rw [Miss_eq (by have := hak.al; omega), Option.bind_some]
    refine gv_bind (P := fun t => t = pPutA s (pMissA a x.Prio)) (gv_eq (putA_eq h.z _) rfl) ?_
    rintro t rfl
    exact gv_some (h.miss ha x.Prio)
  · rw [Room_eq hsc (h.leafLen ha) n.Label hx.size.vb, Option.bind_some]
    refine gv_cond (fun _ => gv_some (askR_0 h (.refl s))) fun _ => ?_
    rw [free_eq h.sb, Option.bind_some, fits_eq, Option.bind_some]
    refine gv_cond (fun _ => ?_) fun _ => ?_
    · rw [grant_eq h.z h.sq n (by have := hak.al; omega) (fun y hy => by have := (hak.ask y hy).count; omega) (by have := hak.gr; omega) x, Option.bind_some]
      exact gv_some (askR_n (by simp) (h.grant hn ha hl hx hc hq) rfl rfl)
    · refine gv_bind (P := fun _ => True) ?_ fun q1 _ => ?_
      · rw [keeps_eq h.z, Option.bind_some]
        repeat' (first | exact ⟨_, rfl, trivial⟩ | refine gv_cond (fun _ => ?_) (fun _ => ?_))
      · refine gv_cond (fun _ => ?_) fun _ => gv_some (askR_0 h (.refl s))
        rw [hold_eq h.z, Option.bind_some]
        exact gv_some (askR_n (by simp) ((h.hold hfree ⟨n, hn, rfl⟩).mono (by omega)) rfl rfl)

/-- a round: the state that it starts with, the node -/
structure RI (N : Nat) (n : Node) (s t : State) : Prop where
  i : Inv N t
  k : Keep s t
def RQ (N : Nat) (n : Node) (s : State) (r : (State × Int × Cont) ⊕ (State × State × Cont)) : Prop :=
  match r with
  | .inl q => q.2.1 ≠ 0 ∧ Inv (N + 1) q.1 ∧ q.1.Conf = s.Conf ∧ q.1.Nodes = s.Nodes
  | .inr p => RI N n s p.1

theorem round3_gv {N : Nat} (hN : N ≤ 1000000) {s : State} {n : Node} (hn : n ∈ s.Nodes) (hfree : ∀ y ∈ s.Slots, y.Node ≠ n.Id) (hc : s.Conts.length < 200) (hq : s.Seq < 1048575) (first : Bool) {ids : List Int} {k : Nat} (hk : k < ids.length)
    {a0 : App} (ha0 : a0 ∈ s.Apps) (hid : a0.Id = ids[k]) (hl : pLive a0 = true) {x2 : App × Bool} (hx2 : x2.1.Asks.length ≤ 1000 ∧ ∀ x ∈ x2.1.Asks, AskOk s.Conf x) {t1 : State × State × Cont} (ht : RI N n s t1.1) :
    Gv (loop (dispatchref14_round_l3 n first ids (t1.1, t1.2.1, t1.2.2, (k : Int)) x2) (t1.1, t1.2.1, t1.2.2, 0)) (RQ N n s) := by
  refine gv_for (fun (p : State × State × Cont) i => (p.1, p.2.1, p.2.2, i)) x2.1.Asks.length (fun _ p => RI N n s p.1) (step := dispatchref14_round_l3 n first ids (t1.1, t1.2.1, t1.2.2, (k : Int)) x2) (by omega) ?_ ?_ (s := t1) ht
  · intro j hj p hp
    obtain ⟨b, hb, e1, e2, e3, e4⟩ := hp.k.ap a0 ha0
    unfold dispatchref14_round_l3
    dsimp only
    rw [dlt_t hj, cond_true, inb_at hk, Option.bind_some, List.getElem?_eq_getElem hk, Option.bind_some, appFind_eq hp.i.z, ← hid, ← e1, hp.i.appAt hb, Option.bind_some, idx_at hj, Option.bind_some]
    have hlb : pLive b = true := by unfold pLive at hl ⊢; rw [e2]; exact hl
    have hask : AskOk p.1.Conf x2.1.Asks[j] := by rw [hp.k.cf]; exact hx2.2 _ (List.getElem_mem hj)
    refine gv_bind (ask_gv hp.i hN (by rw [hp.k.nd]; exact hn) (by rw [hp.k.sl]; exact hfree) hb hlb hask (by rw [hp.k.cs]; exact hc) (by rw [hp.k.sq]; exact hq) first) ?_
    rintro ⟨u, kd, c⟩ ⟨r0, r1⟩
    dsimp only at r0 r1 ⊢
    refine gv_cond (fun hz => ?_) fun hz => ?_
    · have hz : kd ≠ 0 := by simpa using hz
      obtain ⟨q1, q2, q3⟩ := r1 hz
      exact gv_some (.inr ⟨_, rfl, hz, q1, q2.trans hp.k.cf, q3.trans hp.k.nd⟩)
    · have hz : kd = 0 := by simpa using hz
      obtain ⟨q1, q2⟩ := r0 hz
      exact gv_some (.inl ⟨(u, p.2.1, p.2.2), rfl, ⟨q1, hp.k.trans q2⟩⟩)
  · intro p hp
    unfold dispatchref14_round_l3
    dsimp only
    rw [dlt_f, cond_false]
    exact gv_some ⟨_, rfl, hp⟩

theorem round2_gv {N : Nat} (hN : N ≤ 1000000) {s : State} {n : Node} (hn : n ∈ s.Nodes) (hfree : ∀ y ∈ s.Slots, y.Node ≠ n.Id) (hc : s.Conts.length < 200) (hq : s.Seq < 1048575) (first : Bool) {leaves : List Str} {k : Nat} (hk : k < leaves.length) (hll : leaves[k].length ≤ 1000000)
    {ids : List Int} (hil : ids.length ≤ 100000) (hids : ∀ i ∈ ids, ∃ a ∈ s.Apps, a.Id = i ∧ pLive a = true ∧ a.Queue = leaves[k]) {t : State × State × Cont} (ht : RI N n s t.1) :
    Gv (loop (dispatchref14_round_l2 n first leaves (t.1, t.2.1, t.2.2, (k : Int)) ids) (t.1, t.2.1, t.2.2, 0)) (RQ N n s) := by
  refine gv_for (fun (p : State × State × Cont) i => (p.1, p.2.1, p.2.2, i)) ids.length (fun _ p => RI N n s p.1) (step := dispatchref14_round_l2 n first leaves (t.1, t.2.1, t.2.2, (k : Int)) ids) (by omega) ?_ ?_ (s := t) ht
  · intro j hj p hp
    obtain ⟨a0, ha0, hid, hl, hqu⟩ := hids _ (List.getElem_mem hj)
    obtain ⟨b, hb, e1, e2, e3, e4⟩ := hp.k.ap a0 ha0
    have hbk := hp.i.ak b hb
    unfold dispatchref14_round_l2
    dsimp only
    rw [dlt_t hj, cond_true]
    refine gv_bind (P := fun r => match r with | .inl p => RI N n s p.1 | .inr q => q.2.1 ≠ 0 ∧ Inv (N + 1) q.1 ∧ q.1.Conf = s.Conf ∧ q.1.Nodes = s.Nodes) ?_ ?_
    · rw [inb_at hj, Option.bind_some, List.getElem?_eq_getElem hj, Option.bind_some, appFind_eq hp.i.z, ← hid, ← e1, hp.i.appAt hb, Option.bind_some, inb_at hk, Option.bind_some, List.getElem?_eq_getElem hk, Option.bind_some,
        more_eq hp.i.sc hll, Option.bind_some]
      refine gv_cond (fun _ => gv_some hp) fun _ => ?_
      refine gv_bind (round3_gv hN hn hfree hc hq first hj ha0 hid hl ⟨by have := hbk.al; show b.Asks.length ≤ 1000; omega, fun x hx => by rw [← hp.k.cf]; exact hbk.ask x hx⟩ hp) ?_
      rintro (q | q) hr
      · exact gv_some hr
      · exact gv_some hr
    · rintro (q | q) hr
      · exact gv_some (.inl ⟨q, rfl, hr⟩)
      · exact gv_some (.inr ⟨_, rfl, hr⟩)
  · intro p hp
    unfold dispatchref14_round_l2
    dsimp only
    rw [dlt_f, cond_false]
    exact gv_some ⟨_, rfl, hp⟩

theorem round_gv {N : Nat} (hN : N ≤ 1000000) {s : State} (h : Inv N s) {n : Node} (hn : n ∈ s.Nodes) (hfree : ∀ y ∈ s.Slots, y.Node ≠ n.Id) (hc : s.Conts.length < 200) (hq : s.Seq < 1048575) (first : Bool) :
    Gv (dispatchref14_round s n first) (AskR N s) := by
  unfold dispatchref14_round
  rw [Leaves_eq h.sc, Option.bind_some]
  have hll := Leaves_len h.sc n.Label
  refine gv_bind (P := RQ N n s) ?_ ?_
  · refine gv_for (fun (p : State × State × Cont) i => (p.1, p.2.1, p.2.2, i)) (pLeaves s n.Label).length (fun _ p => RI N n s p.1) (step := dispatchref14_round_l1 n first (pLeaves s n.Label)) (by omega) ?_ ?_
      (s := (s, (⟨⟨[], []⟩, [], [], [], [], [], 0, 0, 0⟩ : State), (⟨0, 0, 0, ⟨0, 0⟩, 0, 0, false, 0⟩ : Cont))) ⟨h, .refl s⟩
    · intro j hj p hp
      unfold dispatchref14_round_l1
      dsimp only
      rw [dlt_t hj, cond_true, inb_at hj, Option.bind_some, List.getElem?_eq_getElem hj, Option.bind_some, Apps_eq hp.i.z, Option.bind_some]
      have hlen : ((pLeaves s n.Label)[j]).length ≤ 1000000 := by
        have := (leaf_path h.cf (Leaves_leaf h.sc n.Label (List.getElem_mem hj))).len
        omega
      have hn' : n ∈ p.1.Nodes := by rw [hp.k.nd]; exact hn
      refine gv_bind (round2_gv hN (s := p.1) hn' (by rw [hp.k.sl]; exact hfree) (by rw [hp.k.cs]; exact hc) (by rw [hp.k.sq]; exact hq) first hj hlen (by have := Apps_len (s := p.1) (pLeaves s n.Label)[j]; have := hp.i.al; omega) (fun i hi => Apps_mem hi) (t := p) ⟨hp.i, .refl _⟩) ?_
      rintro (q | q) hr
      · exact gv_some (.inr ⟨_, rfl, hr.1, hr.2.1, hr.2.2.1.trans hp.k.cf, hr.2.2.2.trans hp.k.nd⟩)
      · exact gv_some (.inl ⟨q, rfl, ⟨hr.i, hp.k.trans hr.k⟩⟩)
    · intro p hp
      unfold dispatchref14_round_l1
      dsimp only
      rw [dlt_f, cond_false]
      exact gv_some ⟨_, rfl, hp⟩
  · rintro (q | q) hr
    · exact gv_some (askR_n hr.1 hr.2.1 hr.2.2.1 hr.2.2.2)
    · exact gv_some (askR_0 hr.i hr.k)
end Go.Fx.D

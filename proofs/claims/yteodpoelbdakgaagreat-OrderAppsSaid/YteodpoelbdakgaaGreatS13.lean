/-
  The reference manager: what holds of its state after every script. Conditions: none.
-/
import Derived.Test.YteodpoelbdakgaaGreatS12
/-
  Chapters 14, 19: a node's beat, a master's word, a configuration, plans.
-/
namespace Go.Fx.D
open Go Go.Fx
set_option linter.unusedVariables false
set_option linter.unusedSimpArgs false

theorem askAt_mem {l : List Ask} {p : Int} {x : Ask} (h : askAt l p = some x) : x ∈ l ∧ x.Prio = p := find_id2 h
/-- a slot kept -/
theorem kept14_gv {N : Nat} (hN : N ≤ 1000000) {s : State} (h : Inv N s) {n : Node} (hn : n ∈ s.Nodes) (hc : s.Conts.length < 200) (hq : s.Seq < 1048575) (x : Slot) :
    Gv (dispatchref14_kept s n x) fun r => if r.2.2.2 = true then Inv (N + 1) r.1 else Inv N r.1 ∧ (∀ y ∈ r.1.Slots, y.Node ≠ n.Id) ∧ r.1.Nodes = s.Nodes ∧ r.1.Conts = s.Conts ∧ r.1.Seq = s.Seq := by
  have hrel : ∀ c : Cont, (fun r : State × Int × Cont × Bool => if r.2.2.2 = true then Inv (N + 1) r.1 else Inv N r.1 ∧ (∀ y ∈ r.1.Slots, y.Node ≠ n.Id) ∧ r.1.Nodes = s.Nodes ∧ r.1.Conts = s.Conts ∧ r.1.Seq = s.Seq) (pNoSlot s n.Id, 0, c, false) := by
    intro c
    dsimp only
    rw [if_neg (by simp)]
    exact ⟨h.noSlot _, fun y hy => by have := (List.mem_filter.1 hy).2; simpa using this, rfl, rfl, rfl⟩
  unfold dispatchref14_kept
  rw [appFind_eq h.z, Option.bind_some]
  cases ha0 : appAt s x.App with
  | none =>
    simp only [Option.elim]
    rw [Get_eq (by simp [noA]), Option.bind_some]
    simp only [Bool.not_false, cond_true, Option.bind_some]
    rw [noSlot_eq h.z, Option.bind_some]
    exact gv_some (hrel _)
  | some a =>
    obtain ⟨ha, _⟩ := appAt_mem ha0
    have hak := h.ak a ha
    simp only [Option.elim]
    rw [Get_eq (by have := hak.al; omega), Option.bind_some]
    refine gv_bind (P := fun b => b = false → pLive a = true ∧ ∃ k ∈ a.Asks, askAt a.Asks x.Prio = some k) ?_ ?_
    · refine gv_cond (fun _ => gv_some (by simp)) fun _ => ?_
      rw [Live_eq, Option.bind_some]
      refine gv_cond (fun _ => gv_some (by simp)) fun hl => ?_
      have hl : pLive a = true := by simpa using hl
      cases hk : askAt a.Asks x.Prio with
      | none => exact gv_some (by simp)
      | some k =>
        have hkm := (askAt_mem hk).1
        have hkk := hak.ask k hkm
        simp only [Option.elim, Bool.not_true, cond_false]
        rw [May_eq, Option.bind_some]
        refine gv_cond (fun _ => gv_some (by simp)) fun _ => ?_
        rw [fits_eq, Option.bind_some]
        refine gv_cond (fun _ => gv_some (by simp)) fun _ => ?_
        rw [due_eq h.sc (h.leafLen ha) hkk.size.vb, Option.bind_some]
        refine gv_cond (fun _ => gv_some (by simp)) fun _ => ?_
        rw [more_eq h.sc (h.leafLen ha), Option.bind_some]
        exact gv_some fun _ => ⟨hl, k, hkm, rfl⟩
    · intro b hb
      refine gv_cond (fun _ => ?_) fun hbf => ?_
      · rw [noSlot_eq h.z, Option.bind_some]
        exact gv_some (hrel _)
      · obtain ⟨hl, k, hkm, hk⟩ := hb hbf
        have hkk := hak.ask k hkm
        rw [hk]
        simp only [Option.elim]
        refine gv_bind (P := fun _ => True) ?_ fun q _ => ?_
        · rw [free_eq h.sb, Option.bind_some, fits_eq, Option.bind_some, Room_eq h.sc (h.leafLen ha) n.Label hkk.size.vb]
          repeat' (first | exact ⟨_, rfl, trivial⟩ | refine gv_cond (fun _ => ?_) (fun _ => ?_))
        · refine gv_cond (fun _ => gv_some ?_) fun _ => ?_
          · dsimp only
            rw [if_pos rfl]
            exact h.mono (by omega)
          · rw [noSlot_eq h.z, Option.bind_some]
            have hN' := h.noSlot n.Id
            rw [grant_eq hN'.z hN'.sq n (by have := hak.al; omega) (fun y hy => by have := (hak.ask y hy).count; omega) (by have := hak.gr; omega) k, Option.bind_some]
            refine gv_some ?_
            dsimp only
            rw [if_pos rfl]
            exact hN'.grant hn ha hl hkk hc hq

theorem One_gv {N : Nat} (hN : N ≤ 1000000) {s : State} (h : Inv N s) (i : Int) : Gv (dispatchref14_One s i) fun r => Inv (N + 1) r.1 := by
  unfold dispatchref14_One
  rw [nodeFind_eq h.z, Option.bind_some]
  cases hn0 : nodeAt s i with
  | none => exact gv_some (h.mono (by omega))
  | some n =>
    obtain ⟨hn, hid⟩ := nodeAt_mem hn0
    simp only [Option.elim, Bool.not_true, cond_false]
    refine gv_bind (P := fun b => b = false → s.Conts.length < 200 ∧ s.Seq < 1048575) ?_ ?_
    · refine gv_cond (fun _ => gv_some (by simp)) fun _ => gv_cond (fun _ => gv_some (by simp)) fun h1 => gv_some fun h2 => ?_
      simp only [decide_eq_false_iff_not] at h1 h2
      omega
    · intro b hb
      refine gv_cond (fun _ => gv_some (h.mono (by omega))) fun hbf => ?_
      obtain ⟨hc, hq⟩ := hb hbf
      rw [slot_eq h.z, Option.bind_some]
      refine gv_bind (P := fun r => match r with
        | .inl p => Inv N p.1 ∧ (∀ y ∈ p.1.Slots, y.Node ≠ n.Id) ∧ n ∈ p.1.Nodes ∧ p.1.Conts.length < 200 ∧ p.1.Seq < 1048575
        | .inr q => Inv (N + 1) q.1) ?_ ?_
      · cases hs : slotAt s i with
        | none =>
          simp only [Option.elim, cond_false]
          refine gv_some ⟨h, fun y hy e => ?_, hn, hc, hq⟩
          have := find_id0 (id := fun x : Slot => x.Node) hs y hy
          omega
        | some x =>
          simp only [Option.elim, cond_true]
          refine gv_bind (kept14_gv hN h hn hc hq x) ?_
          rintro r hr
          refine gv_cond (fun hb => gv_some ?_) fun hb => gv_some ?_
          · rw [if_pos hb] at hr
            exact hr
          · rw [if_neg (by simp [hb])] at hr
            exact ⟨hr.1, hr.2.1, by rw [hr.2.2.1]; exact hn, by rw [hr.2.2.2.1]; exact hc, by rw [hr.2.2.2.2]; exact hq⟩
      · rintro (p | q) hr
        · obtain ⟨r1, r2, r3, r4, r5⟩ := hr
          refine gv_bind (round_gv hN r1 r3 r2 r4 r5 true) ?_
          rintro ⟨t, k, c⟩ ⟨q0, q1⟩
          dsimp only at q0 q1 ⊢
          refine gv_cond (fun hz => gv_some (q1 (by simpa using hz)).1) fun hz => ?_
          obtain ⟨u1, u2⟩ := q0 (by simpa using hz)
          refine gv_bind (round_gv hN u1 (by rw [u2.nd]; exact r3) (by rw [u2.sl]; exact r2) (by rw [u2.cs]; exact r4) (by rw [u2.sq]; exact r5) false) ?_
          rintro ⟨t', k', c'⟩ ⟨w0, w1⟩
          refine gv_some ?_
          dsimp only at w0 w1 ⊢
          by_cases hk : k' = 0
          · exact (w0 hk).1.mono (by omega)
          · exact (w1 hk).1
        · exact gv_some hr

theorem Beat14_gv {N : Nat} (hN : N ≤ 900000) {s : State} (h : Inv N s) (i : Int) : Gv (dispatchref14_Beat s i) fun r => Inv (N + 3) r.1 ∧ r.2.length ≤ 3 := by
  unfold dispatchref14_Beat
  refine gv_bind (P := fun r => Inv (N + 3) r.1 ∧ r.2.length ≤ 3) ?_ fun r hr => gv_some hr
  refine gv_for (fun (p : State × List Cont) i => (p.1, p.2, i)) 3 (fun k p => Inv (N + k) p.1 ∧ p.2.length ≤ k) (step := dispatchref14_Beat_l1 i) (by omega) ?_ ?_ (s := (s, [])) ⟨h, by simp⟩
  · rintro k hk p ⟨hp, hl⟩
    unfold dispatchref14_Beat_l1
    dsimp only
    rw [show decide ((k : Int) < 3) = true from decide_eq_true (by omega), cond_true]
    refine gv_bind (One_gv (by omega) hp i) ?_
    rintro ⟨t, kd, c⟩ hr
    dsimp only at hr ⊢
    refine gv_cond (fun _ => gv_some (.inr ⟨_, rfl, hr.mono (by omega), by dsimp only; omega⟩)) fun _ => ?_
    rw [app_some (by simp; omega) (by omega), Option.bind_some]
    exact gv_some (.inl ⟨(t, p.2 ++ [c]), rfl, hr, by simp; omega⟩)
  · rintro p ⟨hp, hl⟩
    unfold dispatchref14_Beat_l1
    dsimp only
    exact gv_some ⟨_, rfl, hp, hl⟩

theorem beat_gv {N : Nat} (hN : N ≤ 800000) {s : State} (h : Inv N s) (x : Input) (hx : x.Ids.length ≤ 1000) : Gv (dispatchref19_beat s x) fun r => Inv (N + 1003) r.1 := by
  unfold dispatchref19_beat
  rw [nodeFind_eq h.z, Option.bind_some]
  refine gv_bind (P := fun _ => True) ?_ fun q _ => ?_
  · repeat' (first | exact ⟨_, rfl, trivial⟩ | refine gv_cond (fun _ => ?_) (fun _ => ?_))
  refine gv_cond (fun _ => ?_) fun _ => ?_
  · rw [on_eq h.z, Option.bind_some]
    exact gv_some (h.mono (by omega))
  refine gv_bind (Beat8_gv h _ _) fun r hr => ?_
  refine gv_cond (fun _ => gv_some (h.mono (Nat.le_add_right _ _))) fun _ => ?_
  refine gv_bind (P := fun l => l.length ≤ x.Ids.length) ?_ fun ids hids => ?_
  · refine gv_for (fun (l : List Int) i => (l, i)) x.Ids.length (fun k l => l.length ≤ k) (step := dispatchref19_beat_l1 x r) (by omega) ?_ ?_ (s := []) (by simp)
    · intro k hk l hl
      unfold dispatchref19_beat_l1
      dsimp only
      rw [dlt_t hk, cond_true]
      refine gv_bind (P := fun m => m.length ≤ k + 1) ?_ fun m hm => gv_some (.inl ⟨m, rfl, hm⟩)
      rw [idx_at hk, Option.bind_some, contFind_eq hr.z, Option.bind_some]
      refine gv_bind (P := fun _ => True) ?_ fun q _ => ?_
      · repeat' (first | exact ⟨_, rfl, trivial⟩ | refine gv_cond (fun _ => ?_) (fun _ => ?_))
      refine gv_cond (fun _ => ?_) fun _ => gv_some (by omega)
      rw [app_some (by simp; omega) (by omega), Option.bind_some]
      exact gv_some (by simp; omega)
    · intro l hl
      unfold dispatchref19_beat_l1
      rw [dlt_f]
      exact gv_some ⟨l, rfl, hl⟩
  refine gv_bind (Lose_gv hr (ids := ids) (by omega)) fun t ht => ?_
  refine gv_bind (Beat14_gv (by omega) ht x.Id) fun u hu => ?_
  rw [on_eq hu.1.z, Option.bind_some]
  exact gv_some (hu.1.mono (by omega))

/-! asks -/
theorem Check9_gv (x : Ask) (c : Conf) : Gv (dispatchref9_Check x (c.Labels.length : Int)) fun e => e = 0 → (0 ≤ x.Label ∧ x.Label < c.Labels.length) ∧ SzOk x.Size ∧ 0 ≤ x.Count ∧ x.Count ≤ 50 := by
  have p9 : ∀ n : Int, dispatchref9_part n = some (decide (1 ≤ n) && decide (n ≤ 1073741824)) := fun n => part10_eq n
  unfold dispatchref9_Check
  refine gv_bind (P := fun b => b = false → (0 ≤ x.Label ∧ x.Label < c.Labels.length) ∧ SzOk x.Size) ?_ ?_
  · refine gv_cond (fun _ => gv_some (by simp)) fun _ => gv_cond (fun _ => gv_some (by simp)) fun _ => gv_cond (fun _ => gv_some (by simp)) fun h1 => gv_cond (fun _ => gv_some (by simp)) fun h2 => ?_
    rw [p9, Option.bind_some]
    refine gv_cond (fun _ => gv_some (by simp)) fun h3 => ?_
    rw [p9, Option.bind_some]
    refine gv_cond (fun _ => gv_some (by simp)) fun h4 => ?_
    simp only [decide_eq_false_iff_not, Bool.not_eq_false', Bool.and_eq_true, decide_eq_true_eq] at h1 h2 h3 h4
    refine gv_mono (P := fun _ => True) ?_ fun b _ _ => ⟨by omega, h3, h4⟩
    repeat' (first | exact ⟨_, rfl, trivial⟩ | refine gv_cond (fun _ => ?_) (fun _ => ?_))
  · intro b hb
    refine gv_cond (fun _ => gv_some (by simp)) fun hbf => ?_
    obtain ⟨h1, h2⟩ := hb hbf
    refine gv_bind (P := fun b => b = false → 0 ≤ x.Count ∧ x.Count ≤ 50) ?_ ?_
    · refine gv_cond (fun _ => gv_some (by simp)) fun h3 => gv_some fun h4 => ?_
      simp only [decide_eq_false_iff_not] at h3 h4
      omega
    · intro b2 hb2
      refine gv_cond (fun _ => gv_some (by simp)) fun hf => gv_some fun _ => ⟨h1, h2, hb2 hf⟩

theorem Set_gv {c : Conf} {l : List Ask} (hl : l.length ≤ 1000) (hk : ∀ x ∈ l, AskOk c x) {a : Ask} (h1 : 0 ≤ a.Label ∧ a.Label < c.Labels.length) (h2 : SzOk a.Size) (h3 : 0 ≤ a.Count ∧ a.Count ≤ 50) :
    Gv (dispatchref9_Set l a) fun r => r.1.length ≤ 8 ∧ ∀ x ∈ r.1, AskOk c x := by
  have hnew : a.Count ≠ 0 → AskOk c ⟨a.Prio, a.Label, ⟨a.Size.Mem, a.Size.Cores⟩, a.Count, a.Node, a.Rack, 0⟩ := fun hc => ⟨h1, h2, by dsimp only; omega⟩
  unfold dispatchref9_Set
  refine gv_bind (P := fun t => t.1.length ≤ 2 * l.length ∧ (∀ x ∈ t.1, AskOk c x) ∧ (t.2 = false → a.Count ≠ 0)) ?_ ?_
  · refine gv_for (fun (t : List Ask × Bool) i => (t.1, t.2, i)) l.length (fun k t => t.1.length ≤ 2 * k ∧ (∀ x ∈ t.1, AskOk c x) ∧ (t.2 = false → a.Count ≠ 0)) (step := dispatchref9_Set_l1 l a) (by omega) ?_ ?_ (s := ([], a.Count == 0)) ⟨by simp, by simp, by simp⟩
    · rintro k hkk ⟨m, d⟩ ⟨q1, q2, q3⟩
      dsimp only at q1 q2 q3 ⊢
      unfold dispatchref9_Set_l1
      dsimp only
      rw [dlt_t hkk, cond_true]
      refine gv_bind (P := fun t => t.1.length ≤ 2 * (k + 1) ∧ (∀ x ∈ t.1, AskOk c x) ∧ (t.2 = false → a.Count ≠ 0)) ?_ fun t ht => gv_some (.inl ⟨t, rfl, ht⟩)
      refine gv_bind (P := fun t => t.1.length ≤ 2 * k + 1 ∧ (∀ x ∈ t.1, AskOk c x) ∧ (t.2 = false → a.Count ≠ 0)) ?_ ?_
      · refine gv_bind (P := fun b => b = true → d = false) ?_ ?_
        · refine gv_cond (fun hd => ?_) fun _ => gv_some (by simp)
          rw [idx_at hkk, Option.bind_some]
          exact gv_some fun _ => by simpa using hd
        · intro b hb
          refine gv_cond (fun hbt => ?_) fun _ => gv_some ⟨by dsimp only; omega, q2, q3⟩
          rw [app_some (by simp; omega) (by omega), Option.bind_some]
          refine gv_some ⟨by simp; omega, fun x hx => ?_, by simp⟩
          rcases List.mem_append.1 hx with hx | hx
          · exact q2 x hx
          · rw [List.mem_singleton] at hx
            subst hx
            exact hnew (q3 (hb hbt))
      · rintro ⟨m2, d2⟩ ⟨p1, p2, p3⟩
        dsimp only at p1 p2 p3 ⊢
        rw [idx_at hkk, Option.bind_some]
        refine gv_cond (fun _ => ?_) fun _ => gv_some ⟨by dsimp only; omega, p2, p3⟩
        rw [Option.bind_some, app_some (by simp; omega) (by omega), Option.bind_some]
        refine gv_some ⟨by simp; omega, fun x hx => ?_, p3⟩
        rcases List.mem_append.1 hx with hx | hx
        · exact p2 x hx
        · rw [List.mem_singleton] at hx
          subst hx
          exact hk _ (List.getElem_mem hkk)
    · rintro t ht
      unfold dispatchref9_Set_l1
      dsimp only
      rw [dlt_f, cond_false]
      exact gv_some ⟨t, rfl, ht⟩
  · rintro ⟨m, d⟩ ⟨q1, q2, q3⟩
    dsimp only at q1 q2 q3 ⊢
    refine gv_bind (P := fun m => ∀ x ∈ m, AskOk c x) ?_ ?_
    · refine gv_cond (fun hd => ?_) fun _ => gv_some q2
      rw [app_some (by simp; omega) (by omega), Option.bind_some]
      refine gv_some fun x hx => ?_
      rcases List.mem_append.1 hx with hx | hx
      · exact q2 x hx
      · rw [List.mem_singleton] at hx
        subst hx
        exact hnew (q3 (by simpa using hd))
    · intro m2 hm2
      refine gv_cond (fun _ => gv_some ⟨by simp, by simp⟩) fun hlen => gv_some ⟨?_, hm2⟩
      simp only [decide_eq_false_iff_not] at hlen
      dsimp only
      omega

theorem wants_gv {s : State} {l : List Ask} (hl : l.length ≤ 8) (hk : ∀ x ∈ l, AskOk s.Conf x) {more : List Ask} (hm : more.length ≤ 1000) : Gv (dispatchref19_wants s l more) fun r => r.1.length ≤ 8 ∧ ∀ x ∈ r.1, AskOk s.Conf x := by
  unfold dispatchref19_wants
  refine gv_bind (P := fun r => match r with | .inl q => q.1.length ≤ 8 ∧ ∀ x ∈ q.1, AskOk s.Conf x | .inr q => q.length ≤ 8 ∧ ∀ x ∈ q, AskOk s.Conf x) ?_ ?_
  · refine gv_for (fun (l : List Ask) i => (l, i)) more.length (fun _ l => l.length ≤ 8 ∧ ∀ x ∈ l, AskOk s.Conf x) (step := dispatchref19_wants_l1 s more) (by omega) ?_ ?_ (s := l) ⟨hl, hk⟩
    · rintro k hkk l ⟨q1, q2⟩
      unfold dispatchref19_wants_l1
      dsimp only
      rw [dlt_t hkk, cond_true, idx_at hkk, Option.bind_some]
      refine gv_bind (Check9_gv more[k] s.Conf) fun e he => ?_
      refine gv_cond (fun _ => gv_some (.inr ⟨_, rfl, by simp⟩)) fun he0 => ?_
      obtain ⟨c1, c2, c3⟩ := he (by simpa using he0)
      rw [Option.bind_some]
      refine gv_bind (Set_gv (by omega) q2 c1 c2 c3) fun r hr => ?_
      refine gv_cond (fun _ => gv_some (.inr ⟨_, rfl, by simp⟩)) fun _ => gv_some (.inl ⟨r.1, rfl, hr⟩)
    · intro l hl
      unfold dispatchref19_wants_l1
      rw [dlt_f]
      exact gv_some ⟨.inr l, rfl, hl⟩
  · rintro (q | q) hq
    · exact gv_some hq
    · exact gv_some hq

theorem conts_gv {s : State} (h : SSmall s) {ids : List Int} (hi : ids.length ≤ 1000000) : Gv (dispatchref19_conts s ids) fun _ => True := by
  unfold dispatchref19_conts
  refine gv_bind (P := fun _ => True) ?_ fun _ _ => gv_some trivial
  refine gv_for (fun (l : List Cont) i => (l, i)) ids.length (fun k l => l.length ≤ k) (step := dispatchref19_conts_l1 s ids) (by omega) ?_ ?_ (s := []) (by simp)
  · intro k hk l hl
    unfold dispatchref19_conts_l1
    dsimp only
    rw [dlt_t hk, cond_true, idx_at hk, Option.bind_some, contFind_eq h, Option.bind_some]
    refine gv_bind (P := fun m => m.length ≤ k + 1) ?_ fun m hm => gv_some (.inl ⟨m, rfl, hm⟩)
    refine gv_cond (fun _ => ?_) fun _ => gv_some (by omega)
    rw [app_some (by simp; omega) (by omega), Option.bind_some]
    exact gv_some (by simp; omega)
  · intro l hl
    unfold dispatchref19_conts_l1
    rw [dlt_f]
    exact gv_some ⟨l, rfl, trivial⟩
theorem noticed_gv {s : State} (h : SSmall s) (i : Int) : Gv (dispatchref19_noticed s i) fun _ => True := by
  have hn := h.c
  unfold dispatchref19_noticed
  refine gv_bind (P := fun _ => True) ?_ fun _ _ => gv_some trivial
  refine gv_for (fun (l : List Int) i => (l, i)) s.Conts.length (fun k l => l.length ≤ k) (step := dispatchref19_noticed_l1 s i) (by omega) ?_ ?_ (s := []) (by simp)
  · intro k hk l hl
    unfold dispatchref19_noticed_l1
    dsimp only
    rw [dlt_t hk, cond_true, idx_at hk, Option.bind_some, Option.bind_some]
    refine gv_bind (P := fun m => m.length ≤ k + 1) ?_ fun m hm => gv_some (.inl ⟨m, rfl, hm⟩)
    refine gv_bind (P := fun _ => True) ?_ fun q _ => ?_
    · repeat' (first | exact ⟨_, rfl, trivial⟩ | refine gv_cond (fun _ => ?_) (fun _ => ?_))
    refine gv_cond (fun _ => ?_) fun _ => gv_some (by omega)
    rw [Option.bind_some, app_some (by simp; omega) (by omega), Option.bind_some]
    exact gv_some (by simp; omega)
  · intro l hl
    unfold dispatchref19_noticed_l1
    rw [dlt_f]
    exact gv_some ⟨l, rfl, trivial⟩

theorem master_gv {N : Nat} (hN : N ≤ 900000) {s : State} (h : Inv N s) (x : Input) (hi : x.Ids.length ≤ 1000) (hx : x.Asks.length ≤ 1000) : Gv (dispatchref19_master s x) fun r => Inv N r.1 := by
  unfold dispatchref19_master
  rw [appFind_eq h.z, Option.bind_some]
  cases ha0 : appAt s x.Id with
  | none => exact gv_some h
  | some a =>
    obtain ⟨ha, _⟩ := appAt_mem ha0
    have hak := h.ak a ha
    simp only [Option.elim, Bool.not_true, cond_false]
    refine gv_cond (fun _ => gv_some h) fun hst => gv_cond (fun _ => gv_some h) fun _ => gv_cond (fun _ => ?_) fun _ => gv_cond (fun _ => gv_some h) fun _ => ?_
    · refine gv_bind (conts_gv h.z (by have := hak.to; omega)) fun _ _ => gv_bind (noticed_gv h.z _) fun _ _ => ?_
      rw [app_some (by have := hak.lo; simp; omega) (by omega), Option.bind_some]
      exact gv_some h
    · have hst : a.State = 2 := by simpa using hst
      refine gv_bind (wants_gv hak.al hak.ask hx) fun r hr => ?_
      refine gv_cond (fun _ => gv_some h) fun _ => ?_
      refine gv_bind (P := fun t => Inv N t.1 ∧ t.1.Conf = s.Conf ∧ t.1.Apps = s.Apps ∧ AppOk N s.Conf t.2 ∧ t.2.Id = a.Id ∧ t.2.State = 2) ?_ ?_
      · refine gv_for (fun (t : State × App) i => (t.1, t.2, i)) x.Ids.length (fun _ t => Inv N t.1 ∧ t.1.Conf = s.Conf ∧ t.1.Apps = s.Apps ∧ AppOk N s.Conf t.2 ∧ t.2.Id = a.Id ∧ t.2.State = 2) (step := dispatchref19_master_l1 x) (by omega) ?_ ?_ (s := (s, a)) ⟨h, rfl, rfl, hak, rfl, hst⟩
        · rintro k hk ⟨t, b⟩ ⟨q1, q2, q3, q4, q5, q6⟩
          dsimp only at q1 q2 q3 q4 q5 q6 ⊢
          unfold dispatchref19_master_l1
          dsimp only
          rw [dlt_t hk, cond_true]
          refine gv_bind (P := fun t => Inv N t.1 ∧ t.1.Conf = s.Conf ∧ t.1.Apps = s.Apps ∧ AppOk N s.Conf t.2 ∧ t.2.Id = a.Id ∧ t.2.State = 2) ?_ fun t ht => gv_some (.inl ⟨t, rfl, ht⟩)
          rw [idx_at hk, Option.bind_some, contFind_eq q1.z, Option.bind_some]
          refine gv_bind (P := fun _ => True) ?_ fun q _ => ?_
          · repeat' (first | exact ⟨_, rfl, trivial⟩ | refine gv_cond (fun _ => ?_) (fun _ => ?_))
          refine gv_cond (fun _ => ?_) fun _ => gv_some ⟨q1, q2, q3, q4, q5, q6⟩
          rw [away_eq q1.z, Option.bind_some, without_eq (by have := q4.gr; omega), Option.bind_some]
          refine gv_some ⟨q1.away _, q2, q3, ⟨q4.st, q4.user, q4.path, q4.leaf, q4.mas, q4.al, q4.ask, Nat.le_trans (List.length_filter_le _ _) q4.gr, q4.ki, q4.to, q4.lo⟩, q5, q6⟩
        · intro t ht
          unfold dispatchref19_master_l1
          dsimp only
          rw [dlt_f, cond_false]
          exact gv_some ⟨t, rfl, ht⟩
      · rintro ⟨t, b⟩ ⟨q1, q2, q3, q4, q5, q6⟩
        dsimp only at q1 q2 q3 q4 q5 q6 ⊢
        refine gv_bind (conts_gv q1.z (by have := q4.gr; omega)) fun _ _ => gv_bind (noticed_gv q1.z _) fun _ _ => ?_
        rw [app_some (by have := q4.ki; simp; omega) (by omega), Option.bind_some, putA_eq q1.z, Option.bind_some]
        refine gv_some (q1.putA ⟨a, by rw [q3]; exact ha, q5.symm⟩ ?_ (.inl q6))
        rw [q2]
        exact ⟨q4.st, q4.user, q4.path, q4.leaf, q4.mas, hr.1, hr.2, by simp, by simp, q4.gr, q4.ki⟩

/-! a configuration -/
theorem config_gv {N : Nat} {s : State} (h : Inv N s) (text : Str) : Gv (dispatchref19_config s text) fun r => Inv N r.1 := by
  unfold dispatchref19_config
  refine gv_bind (parse_gv text) ?_
  rintro ⟨c, e0⟩ ⟨hc, hcl⟩
  dsimp only at hc hcl ⊢
  refine gv_bind (P := fun e => e = 0 → ConfOk c) ?_ ?_
  · refine gv_cond (fun _ => ?_) fun he => gv_some fun e => ?_
    · exact gv_bind (check_gv hc hcl) fun e he => gv_some he
    · subst e; simp at he
  · intro e he
    refine gv_cond (fun _ => gv_some h) fun he0 => ?_
    have hcf := he (by simpa using he0)
    refine gv_cond (fun _ => gv_some h) fun hlen => ?_
    simp only [decide_eq_false_iff_not] at hlen
    have hlb := h.cf.lab
    refine gv_bind (P := fun r => match r with | .inl q => Inv N q.1 | .inr _ => True) ?_ ?_
    · refine gv_for (fun (t : State × Output) i => (t.1, t.2, i)) s.Conf.Labels.length (fun _ _ => True) (step := dispatchref19_config_l1 s (c, e0)) (by omega) ?_ ?_ (s := ((⟨⟨[], []⟩, [], [], [], [], [], 0, 0, 0⟩ : State), (⟨0, [], [], [], 0⟩ : Output))) trivial
      · intro k hk t _
        unfold dispatchref19_config_l1
        dsimp only
        have hk2 : k < c.Labels.length := by omega
        rw [dlt_t hk, cond_true, inb_at hk2, Option.bind_some, List.getElem?_eq_getElem hk2, Option.bind_some, idx_at hk, Option.bind_some]
        refine gv_cond (fun _ => gv_some (.inr ⟨_, rfl, h⟩)) fun _ => gv_some (.inl ⟨t, rfl, trivial⟩)
      · intro t _
        unfold dispatchref19_config_l1
        dsimp only
        rw [dlt_f, cond_false]
        exact gv_some ⟨_, rfl, trivial⟩
    · rintro (q | q) hq
      · exact gv_some hq
      · have hal := h.al
        refine gv_bind (P := fun r => match r with | .inl q => Inv N q.1 | .inr _ => ∀ a ∈ s.Apps, pLive a = true → pLeaf c a.Queue = true) ?_ ?_
        · refine gv_for (fun (t : State × Output) i => (t.1, t.2, i)) s.Apps.length (fun k _ => ∀ j (hj : j < s.Apps.length), j < k → pLive s.Apps[j] = true → pLeaf c s.Apps[j].Queue = true) (step := dispatchref19_config_l2 s (c, e0)) (by omega) ?_ ?_ (s := q) (by intro j hj h; omega)
          · intro k hk t ht
            unfold dispatchref19_config_l2
            dsimp only
            rw [dlt_t hk, cond_true]
            refine gv_bind (P := fun b => b = false → pLive s.Apps[k] = true → pLeaf c s.Apps[k].Queue = true) ?_ ?_
            · rw [idx_at hk, Option.bind_some, Live_eq, Option.bind_some]
              refine gv_cond (fun _ => ?_) fun hf => gv_some fun _ ht => by rw [hf] at ht; cases ht
              rw [Option.bind_some, leaf_eq hc, Option.bind_some]
              exact gv_some fun hb _ => by simpa using hb
            · intro b hb
              refine gv_cond (fun _ => gv_some (.inr ⟨_, rfl, h⟩)) fun hbf => gv_some (.inl ⟨t, rfl, fun j hj hjk => ?_⟩)
              by_cases e : j = k
              · subst e; exact hb hbf
              · exact ht j hj (by omega)
          · intro t ht
            unfold dispatchref19_config_l2
            dsimp only
            rw [dlt_f, cond_false]
            refine gv_some ⟨.inr t, rfl, fun a ha hl => ?_⟩
            obtain ⟨j, hj, rfl⟩ := List.getElem_of_mem ha
            exact ht j hj hj hl
        · rintro (q2 | q2) hq2
          · exact gv_some hq2
          · refine gv_some ?_
            have hll : (s.Conf.Labels.length : Int) ≤ c.Labels.length := by omega
            have hask : ∀ x : Ask, AskOk s.Conf x → AskOk c x := fun x hx => ⟨by have := hx.label; omega, hx.size, hx.count⟩
            refine ⟨hcf, h.nl, h.ns, fun n hn => ?_, h.al, h.asr, fun a ha => ?_, h.cl, h.cs, fun k hk => ?_, h.ss, h.sk, h.pl, h.ps, h.pk, h.now, h.ep, h.sq⟩
            · have := h.nk n hn
              exact ⟨this.1, this.2.1, by show n.Label < (c.Labels.length : Int); omega⟩
            · have hak := h.ak a ha
              refine ⟨hak.st, hak.user, hak.path, fun e => hq2 a ha (by unfold pLive; simpa using e), hak.mas, hak.al, fun x hx => hask x (hak.ask x hx), hak.gr, hak.ki, hak.to, hak.lo⟩
            · have := h.ck k hk
              exact ⟨this.size, this.app, by have := this.label; show 0 ≤ k.Label ∧ k.Label < (c.Labels.length : Int); omega, this.id⟩
end Go.Fx.D

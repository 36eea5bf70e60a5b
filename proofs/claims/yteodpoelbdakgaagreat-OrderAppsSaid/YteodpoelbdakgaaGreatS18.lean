/-
  The reference manager: what holds of its state after every script. Conditions: none.
-/
import Derived.Test.YteodpoelbdakgaaGreatS17
/-
  Scripts: texts, inputs; the state behind a script is right.
-/
namespace Go.Fx.D
open Go Go.Fx
set_option linter.unusedVariables false
set_option linter.unusedSimpArgs false

theorem Decimal_gv : ∀ (d m : Nat) (n : Int), d ≤ m → 0 ≤ n → n < 10 ^ (d + 1) → d ≤ 15 → Gv (dispatchref5_Decimal_r (m + 1) n) fun s => s.length ≤ 2 ^ d := by
  intro d
  induction d with
  | zero =>
    intro m n _ h0 h1 _
    show Gv (dispatchref5_Decimal_s (dispatchref5_Decimal_r m) n) _
    unfold dispatchref5_Decimal_s
    have h1 : n < 10 := by simpa using h1
    rw [decide_eq_false (by omega), cond_false, decide_eq_false (by omega), cond_false]
    exact gv_some (by simp)
  | succ d ih =>
    intro m n hm h0 h1 hd
    obtain ⟨m, rfl⟩ : ∃ k, m = k + 1 := ⟨m - 1, by omega⟩
    show Gv (dispatchref5_Decimal_s (dispatchref5_Decimal_r (m + 1)) n) _
    unfold dispatchref5_Decimal_s
    rw [decide_eq_false (by omega : ¬ n < 0), cond_false]
    refine gv_cond (fun h10 => ?_) fun _ => gv_some (by simp; exact Nat.one_le_pow _ _ (by omega))
    simp only [decide_eq_true_eq] at h10
    have e1 : Int.tdiv n 10 = n / 10 := Int.tdiv_eq_ediv_of_nonneg h0
    have e2 : Int.tmod n 10 = n % 10 := Int.tmod_eq_emod_of_nonneg h0
    have hp : (10 : Int) ^ (d + 1 + 1) = 10 ^ (d + 1) * 10 := by rw [Int.pow_succ]
    have hb : (10 : Int) ^ (d + 1) ≤ 10 ^ 15 := by
      have : (10 : Nat) ^ (d + 1) ≤ 10 ^ 15 := Nat.pow_le_pow_right (by omega) (by omega)
      exact_mod_cast this
    have h10p : (10 : Int) ≤ 10 ^ (d + 1) := by
      have : (10 : Nat) ^ 1 ≤ 10 ^ (d + 1) := Nat.pow_le_pow_right (by omega) (by omega)
      exact_mod_cast this
    have hb15 : (10 : Int) ^ 15 = 1000000000000000 := by decide
    rw [e1, e2, w64_id (by omega) (by omega)]
    refine gv_bind (ih m (n / 10) (by omega) (by omega) (by omega) (by omega)) fun x1 hx1 => ?_
    refine gv_bind (ih m (n % 10) (by omega) (by omega) (by omega) (by omega)) fun x2 hx2 => ?_
    have hpow : 2 ^ d ≤ 2 ^ 15 := Nat.pow_le_pow_right (by omega) (by omega)
    rw [cat_some (by omega), Option.bind_some]
    refine gv_some ?_
    rw [List.length_append, Nat.pow_succ]
    omega
theorem dec_gv {n : Int} (h0 : 0 ≤ n) (h1 : n ≤ 1000000) : Gv (dispatchref5_Decimal n) fun s => s.length ≤ 64 := by
  unfold dispatchref5_Decimal
  exact Decimal_gv 6 63 n (by omega) h0 (by omega) (by omega)

theorem Text_gv {L Q : Nat} (hL : L ≤ 10) (hQ : Q ≤ 10) {c : Conf} (hc : CB L Q c) : Gv (dispatchref5_Text c) fun _ => True := by
  unfold dispatchref5_Text
  refine gv_bind (P := fun s => s.length ≤ 1000) ?_ fun s hs => ?_
  · refine gv_loop (fun t : List UInt8 × Int => 1 ≤ t.2 ∧ t.2 ≤ 11 ∧ (t.1.length : Int) ≤ 6 + 30 * t.2) (fun t => (11 - t.2).toNat) ?_ (by dsimp only; simp)
    rintro ⟨s, i⟩ ⟨h1, h2, h3⟩
    dsimp only at h1 h2 h3
    unfold dispatchref5_Text_l1
    dsimp only
    refine gv_cond (fun hlt => ?_) fun _ => gv_some (.inr ⟨s, rfl, by omega⟩)
    simp only [decide_eq_true_eq] at hlt
    have hl := hc.lab
    rw [cat_some (by simp; omega), Option.bind_some]
    refine gv_bind (gv_idx (by omega) hlt) fun x hx => ?_
    have hxl := hc.labs x hx.1
    rw [cat_some (by simp; omega), Option.bind_some]
    refine gv_some (.inl ⟨_, rfl, ?_, ?_⟩)
    · rw [w64_id (x := i + 1) (by omega) (by omega)]
      dsimp only
      simp only [List.length_append, List.length_cons, List.length_nil]
      omega
    · rw [w64_id (x := i + 1) (by omega) (by omega)]
      dsimp only
      omega
  · rw [cat_some (by simp; omega), Option.bind_some]
    refine gv_bind (P := fun _ => True) ?_ fun _ _ => gv_some trivial
    refine gv_for (fun (s : List UInt8) i => (s, i)) c.Queues.length (fun k s => s.length ≤ 1001 + k * 3000) (step := dispatchref5_Text_l2 c) (by have := hc.qs; omega) ?_ ?_ (s := _) (by simp; omega)
    · intro k hk s hs
      have hq := hc.q _ (List.getElem_mem hk)
      have hp := hq.path
      have hqs := hc.qs
      unfold dispatchref5_Text_l2
      dsimp only
      rw [dlt_t hk, cond_true, idx_at hk, Option.bind_some, cat_some (by simp; omega), Option.bind_some, cat_some (by simp; omega), Option.bind_some, cat_some (by simp; omega), Option.bind_some]
      refine gv_bind (dec_gv hq.user.1 hq.user.2) fun x2 hx2 => ?_
      rw [cat_some (by simp; omega), Option.bind_some]
      refine gv_bind (P := fun m => m.length ≤ 1001 + k * 3000 + 200 + 10 * 200) ?_ fun m hm => ?_
      · refine gv_for (fun (s : List UInt8) i => (s, i)) c.Queues[k].Caps.length (fun j m => m.length ≤ 1001 + k * 3000 + 200 + j * 200) (step := dispatchref5_Text_l3 c.Queues[k]) (by have := hq.caps; omega) ?_ ?_ (s := _) (by simp; omega)
        · intro j hj m hm
          have hcap := hq.cap _ (List.getElem_mem hj)
          have hcl := hq.caps
          unfold dispatchref5_Text_l3
          dsimp only
          rw [dlt_t hj, cond_true, cat_some (by simp; omega), Option.bind_some]
          simp only [idx_at hj, Option.bind_some]
          refine gv_bind (dec_gv hcap.1.1 hcap.1.2) fun x4 hx4 => ?_
          rw [cat_some (by simp; omega), Option.bind_some, cat_some (by simp; omega), Option.bind_some]
          refine gv_bind (dec_gv hcap.2.1 hcap.2.2) fun x6 hx6 => ?_
          rw [cat_some (by simp; omega), Option.bind_some]
          exact gv_some (.inl ⟨_, rfl, by simp only [List.length_append, List.length_cons, List.length_nil]; omega⟩)
        · intro m hm
          have hcl := hq.caps
          unfold dispatchref5_Text_l3
          dsimp only
          rw [dlt_f, cond_false]
          exact gv_some ⟨m, rfl, by omega⟩
      · rw [cat_some (by simp; omega), Option.bind_some]
        exact gv_some (.inl ⟨_, rfl, by simp only [List.length_append, List.length_cons, List.length_nil]; omega⟩)
    · intro s hs
      unfold dispatchref5_Text_l2
      dsimp only
      rw [dlt_f, cond_false]
      exact gv_some ⟨s, rfl, trivial⟩

/-! inputs -/
theorem deepest : ∀ (l : List Queue), l ≠ [] → ∃ q ∈ l, ∀ x ∈ l, x.Path.length ≤ q.Path.length
  | [], h => absurd rfl h
  | [q], _ => ⟨q, by simp, by simp⟩
  | q :: r :: l, _ => by
    obtain ⟨m, hm, h⟩ := deepest (r :: l) (by simp)
    by_cases hq : q.Path.length ≤ m.Path.length
    · refine ⟨m, by simp [hm], fun x hx => ?_⟩
      rcases List.mem_cons.1 hx with rfl | hx
      · exact hq
      · exact h x hx
    · refine ⟨q, by simp, fun x hx => ?_⟩
      rcases List.mem_cons.1 hx with rfl | hx
      · exact Nat.le_refl _
      · have := h x hx; omega
theorem exists_leaf {c : Conf} (h : ConfOk c) : ∃ q ∈ c.Queues, pLeaf c q.Path = true := by
  have hq := h.qs
  obtain ⟨q, hq, hmax⟩ := deepest c.Queues (by intro e; rw [e] at hq; simp at hq)
  refine ⟨q, hq, ?_⟩
  obtain ⟨q', e, _⟩ := pFind_of hq
  have hk : pKids c q.Path = [] := by
    cases hk : pKids c q.Path with
    | nil => rfl
    | cons x l =>
      have hx : x ∈ pKids c q.Path := by rw [hk]; simp
      obtain ⟨hp, y, hy, rfl, ha⟩ := pKids_mem hx
      have hne : y.Path ≠ [] := fun e => by rw [e] at ha; exact hp ha.symm
      have := pAbove_len hne
      have := hmax y hy
      rw [ha] at *
      omega
  unfold pLeaf
  rw [e, hk]
  rfl
def pLeavesC (c : Conf) : List Str := (c.Queues.filter fun q => pLeaf c q.Path).map (·.Path)
theorem LeavesC_eq {c : Conf} (h : ConfOk c) : dispatchlaw7_Leaves c = some (pLeavesC c) := by
  have hq := h.qs
  unfold dispatchlaw7_Leaves
  have e := loop_filter (fun (l : List Str) i => (l, i)) c.Queues (fun q => pLeaf c q.Path) (·.Path) (step := dispatchlaw7_Leaves_l1 c) (by omega) ?_ ?_
  · rw [e]; rfl
  · intro k hk l hl
    unfold dispatchlaw7_Leaves_l1
    dsimp only
    rw [dlt_t hk, cond_true]
    simp only [idx_at hk, Option.bind_some]
    rw [leaf_eq h.small, Option.bind_some]
    cases hp : pLeaf c c.Queues[k].Path
    · rfl
    · rw [cond_true, app_some (by simp; omega) (by omega)]
      rfl
  · intro l
    unfold dispatchlaw7_Leaves_l1
    rw [dlt_f]
    rfl
theorem LeavesC_pos {c : Conf} (h : ConfOk c) : 0 < (pLeavesC c).length ∧ (pLeavesC c).length ≤ 16 := by
  obtain ⟨q, hq, hl⟩ := exists_leaf h
  have hqs := h.qs
  constructor
  · exact List.length_pos_of_mem (a := q.Path) (List.mem_map.2 ⟨q, List.mem_filter.2 ⟨hq, hl⟩, rfl⟩)
  · unfold pLeavesC
    rw [List.length_map]
    exact Nat.le_trans (List.length_filter_le _ _) hqs.2
theorem size7_gv (n : Int) : Gv (dispatchlaw7_size n) fun _ => True := by
  unfold dispatchlaw7_size
  refine gv_bind (within7_gv n (n := 5) (by omega) (by omega)) fun x hx => ?_
  refine gv_bind (gv_inb hx.1 (by simp; omega)) ?_
  rintro i rfl
  exact gv_bind (gv_true (gv_get (by simp; omega))) fun _ _ => gv_some trivial

theorem master7_gv {N : Nat} {s : State} (h : Inv N s) (a : Act) : Gv (dispatchlaw7_Act_master a s) InOk := by
  have hal := h.al
  have hcl := h.cl
  have hlb := h.cf.lab
  unfold dispatchlaw7_Act_master
  refine gv_cond (fun _ => gv_some ⟨by simp, by simp, by simp⟩) fun hz => ?_
  have hz : (s.Apps.length : Int) ≠ 0 := by simpa using hz
  refine gv_bind (within7_gv a.A (n := s.Apps.length) (by omega) (by omega)) fun x hx => ?_
  refine gv_bind (gv_true (gv_idx hx.1 hx.2)) fun x1 _ => ?_
  refine gv_bind (within7_gv a.B (n := 8) (by omega) (by omega)) fun x2 _ => ?_
  refine gv_bind (P := fun i => i.Ids.length ≤ 0 ∧ i.Asks.length ≤ 1000 ∧ 0 ≤ i.App.User ∧ i.App.User ≤ 2) ?_ ?_
  · refine gv_cond (fun _ => ?_) fun _ => gv_some ⟨by simp, by simp, by simp⟩
    refine gv_bind (gv_true (within7_gv a.B (n := 5) (by omega) (by omega))) fun x3 _ => gv_bind (gv_true (within7_gv a.C (n := s.Conf.Labels.length) (by omega) (by omega))) fun x4 _ =>
      gv_bind (size7_gv a.D) fun x5 _ => gv_bind (gv_true (within7_gv a.D (n := 7) (by omega) (by omega))) fun x6 _ => ?_
    refine gv_bind (P := fun _ => True) ?_ fun k _ => ?_
    · refine gv_cond (fun _ => gv_bind (gv_true (within7_gv a.C (n := 3) (by omega) (by omega))) fun _ _ => gv_some trivial) fun _ => gv_some trivial
    refine gv_bind (P := fun _ => True) ?_ fun k1 _ => gv_some ⟨by simp, by simp, by simp⟩
    refine gv_cond (fun _ => gv_bind (gv_true (within7_gv a.C (n := 3) (by omega) (by omega))) fun _ _ => gv_bind (gv_true (within7_gv a.B (n := 6) (by omega) (by omega))) fun _ _ => gv_some trivial) fun _ => gv_some trivial
  · intro i0 hi0
    refine gv_bind (P := InOk) ?_ fun i hi => gv_some hi
    refine gv_for (fun (i : Input) k => (i, k)) s.Conts.length (fun k i => i.Ids.length ≤ k ∧ i.Asks.length ≤ 1000 ∧ 0 ≤ i.App.User ∧ i.App.User ≤ 2) (step := dispatchlaw7_Act_master_l1 a s x1) (by omega) ?_ ?_ (s := i0) hi0
    · rintro k hk i ⟨q1, q2, q3⟩
      unfold dispatchlaw7_Act_master_l1
      dsimp only
      rw [dlt_t hk, cond_true]
      refine gv_bind (P := fun i => i.Ids.length ≤ k + 1 ∧ i.Asks.length ≤ 1000 ∧ 0 ≤ i.App.User ∧ i.App.User ≤ 2) ?_ fun i hi => gv_some (.inl ⟨i, rfl, hi⟩)
      simp only [idx_at hk, Option.bind_some]
      refine gv_bind (P := fun _ => True) ?_ fun q _ => ?_
      · exact gv_cond (fun _ => gv_bind (gv_true (within7_gv _ (n := 11) (by omega) (by omega))) fun _ _ => gv_some trivial) fun _ => gv_some trivial
      · refine gv_cond (fun _ => ?_) fun _ => gv_some ⟨by omega, q2, q3⟩
        rw [app_some (by simp; omega) (by omega), Option.bind_some]
        exact gv_some ⟨by simp; omega, q2, q3⟩
    · rintro i ⟨q1, q2, q3⟩
      unfold dispatchlaw7_Act_master_l1
      rw [dlt_f]
      exact gv_some ⟨i, rfl, ⟨by omega, q2, q3⟩⟩

theorem Input_gv {N : Nat} {s : State} (h : Inv N s) (a : Act) : Gv (dispatchlaw7_Act_Input a s) InOk := by
  have hnl := h.nl
  have hcl := h.cl
  have hlb := h.cf.lab
  have hlv := LeavesC_pos h.cf
  have w : ∀ (x : Int) {n : Int}, 0 < n → n ≤ 1000000 → Gv (dispatchlaw7_within x n) fun _ => True := fun x n h0 h1 => gv_true (within7_gv x h0 (by omega))
  have ok : ∀ {i : Input}, i.Ids = [] → i.Asks = [] → i.App.User = 0 → InOk i := fun e1 e2 e3 => ⟨by rw [e1]; simp, by rw [e2]; simp, by omega⟩
  unfold dispatchlaw7_Act_Input
  refine gv_bind (w a.A (n := 6) (by omega) (by omega)) fun id_ _ => ?_
  rw [LeavesC_eq h.cf, Option.bind_some]
  refine gv_bind (w a.B (n := 4) (by omega) (by omega)) fun x _ => ?_
  refine gv_bind (P := InOk) ?_ fun i hi => gv_some hi
  refine gv_bind (w a.Kind (n := 16) (by omega) (by omega)) fun x1 _ => ?_
  have tst : ∀ (c : Bool) (b d : Bool), Gv (bif c then some b else some d) fun _ => True := fun c b d => by cases c <;> exact gv_some trivial
  refine gv_bind (tst _ _ _) fun q _ => gv_cond (fun _ => ?_) fun _ => ?_
  · refine gv_bind (w a.B (n := s.Conf.Labels.length) (by omega) (by omega)) fun x2 _ => gv_bind (w a.C (n := 3) (by omega) (by omega)) fun x3 _ => gv_bind (w a.D (n := 12) (by omega) (by omega)) fun x4 _ =>
      gv_bind (w a.D (n := 8) (by omega) (by omega)) fun x5 _ => gv_some (ok rfl rfl rfl)
  refine gv_bind (P := fun _ => True) ?_ fun q1 _ => gv_cond (fun _ => ?_) fun _ => ?_
  · repeat' (first | exact ⟨_, rfl, trivial⟩ | refine gv_cond (fun _ => ?_) (fun _ => ?_))
  · refine gv_bind (P := fun i => i.Ids.length ≤ 0 ∧ i.Asks.length ≤ 1000 ∧ 0 ≤ i.App.User ∧ i.App.User ≤ 2) ?_ fun i0 hi0 => ?_
    · refine gv_for (fun (i : Input) k => (i, k)) s.Nodes.length (fun k i => i.Ids.length ≤ 0 ∧ i.Asks.length ≤ 1000 ∧ 0 ≤ i.App.User ∧ i.App.User ≤ 2) (step := dispatchlaw7_Act_Input_l1 a s id_) (by omega) ?_ ?_ (s := _) ⟨by simp, by simp, by simp⟩
      · rintro k hk i hi
        unfold dispatchlaw7_Act_Input_l1
        dsimp only
        rw [dlt_t hk, cond_true]
        refine gv_bind (P := fun i => i.Ids.length ≤ 0 ∧ i.Asks.length ≤ 1000 ∧ 0 ≤ i.App.User ∧ i.App.User ≤ 2) ?_ fun i hi => gv_some (.inl ⟨i, rfl, hi⟩)
        simp only [idx_at hk, Option.bind_some]
        exact gv_cond (fun _ => gv_bind (w a.B (n := 8) (by omega) (by omega)) fun _ _ => gv_some hi) fun _ => gv_some hi
      · rintro i hi
        unfold dispatchlaw7_Act_Input_l1
        rw [dlt_f]
        exact gv_some ⟨i, rfl, hi⟩
    · refine gv_bind (P := InOk) ?_ fun i hi => gv_some hi
      refine gv_for (fun (i : Input) k => (i, k)) s.Conts.length (fun k i => i.Ids.length ≤ k ∧ i.Asks.length ≤ 1000 ∧ 0 ≤ i.App.User ∧ i.App.User ≤ 2) (step := dispatchlaw7_Act_Input_l2 a s id_) (by omega) ?_ ?_ (s := i0) hi0
      · rintro k hk i ⟨q1, q2, q3⟩
        unfold dispatchlaw7_Act_Input_l2
        dsimp only
        rw [dlt_t hk, cond_true]
        refine gv_bind (P := fun i => i.Ids.length ≤ k + 1 ∧ i.Asks.length ≤ 1000 ∧ 0 ≤ i.App.User ∧ i.App.User ≤ 2) ?_ fun i hi => gv_some (.inl ⟨i, rfl, hi⟩)
        simp only [idx_at hk, Option.bind_some]
        refine gv_bind (P := fun _ => True) ?_ fun q _ => ?_
        · exact gv_cond (fun _ => gv_bind (w _ (n := 9) (by omega) (by omega)) fun _ _ => gv_some trivial) fun _ => gv_some trivial
        · refine gv_cond (fun _ => ?_) fun _ => gv_some ⟨by omega, q2, q3⟩
          rw [app_some (by simp; omega) (by omega), Option.bind_some]
          exact gv_some ⟨by simp; omega, q2, q3⟩
      · rintro i ⟨q1, q2, q3⟩
        unfold dispatchlaw7_Act_Input_l2
        rw [dlt_f]
        exact gv_some ⟨i, rfl, ⟨by omega, q2, q3⟩⟩
  refine gv_bind (tst _ _ _) fun q3 _ => gv_cond (fun _ => ?_) fun _ => ?_
  · refine gv_bind (w a.A (n := 20) (by omega) (by omega)) fun x16 _ => gv_bind (within7_gv a.B (n := (pLeavesC s.Conf).length) (by omega) (by omega)) fun x17 hx17 => ?_
    refine gv_bind (gv_inb hx17.1 hx17.2) ?_
    rintro i rfl
    refine gv_bind (gv_true (gv_get (by omega))) fun x18 _ => gv_bind (within7_gv a.C (n := 3) (by omega) (by omega)) fun x19 hx19 => gv_bind (w a.D (n := 3) (by omega) (by omega)) fun x20 _ => gv_bind (size7_gv _) fun x21 _ => gv_some ⟨by simp, by simp, by dsimp only; omega⟩
  refine gv_bind (P := fun _ => True) ?_ fun q4 _ => gv_cond (fun _ => ?_) fun _ => ?_
  · repeat' (first | exact ⟨_, rfl, trivial⟩ | refine gv_cond (fun _ => ?_) (fun _ => ?_))
  · exact gv_bind (master7_gv h a) fun i hi => gv_some hi
  refine gv_cond (fun _ => ?_) fun _ => ?_
  · refine gv_bind (within7_gv a.B (n := 2) (by omega) (by omega)) fun x23 hx => ?_
    refine gv_bind (gv_inb hx.1 (by simp; omega)) ?_
    rintro i rfl
    exact gv_bind (gv_true (gv_get (by simp; omega))) fun x24 _ => gv_bind (w a.A (n := 20) (by omega) (by omega)) fun x25 _ => gv_some (ok rfl rfl rfl)
  refine gv_bind (tst _ _ _) fun q5 _ => gv_cond (fun _ => ?_) fun _ => ?_
  · exact gv_bind (w a.A (n := 5) (by omega) (by omega)) fun x26 _ => gv_some (ok rfl rfl rfl)
  refine gv_cond (fun _ => ?_) fun _ => ?_
  · refine gv_bind (within7_gv a.D (n := 3) (by omega) (by omega)) fun x27 hx => ?_
    refine gv_bind (gv_inb hx.1 (by simp; omega)) ?_
    rintro i rfl
    exact gv_bind (gv_true (gv_get (by simp; omega))) fun x28 _ => gv_bind (w a.B (n := s.Conf.Labels.length) (by omega) (by omega)) fun x29 _ => gv_bind (w a.C (n := 5) (by omega) (by omega)) fun x30 _ => gv_bind (size7_gv _) fun x31 _ =>
      gv_bind (w a.C (n := 12) (by omega) (by omega)) fun x32 _ => gv_some (ok rfl rfl rfl)
  refine gv_cond (fun _ => ?_) fun _ => gv_some (ok rfl rfl rfl)
  refine gv_bind (within7_gv a.A (n := 3) (by omega) (by omega)) fun x33 hx => ?_
  refine gv_bind (gv_inb hx.1 (by simp; omega)) ?_
  rintro i rfl
  refine gv_bind (gv_true (gv_get (by simp; omega))) fun x34 _ => gv_bind (Good_gv a.B (ns := [a.C, a.D]) (by simp)) ?_
  rintro c ⟨L, Q, hL, hQ, hc⟩
  exact gv_bind (Text_gv hL hQ hc) fun x36 _ => gv_some (ok rfl rfl rfl)

/-! a script -/
def newS : State := ⟨⟨[([] : List UInt8)], [⟨root, [⟨10000, 10000⟩], 10000⟩]⟩, [], [], [], [], [], 0, 0, 0⟩
theorem newS_inv : Inv 0 newS := by
  have hq : QOk newS.Conf 0 ⟨root, [⟨10000, 10000⟩], 10000⟩ := by
    refine ⟨⟨by decide, by decide, .inl rfl⟩, fun p h => absurd h (by omega), fun h => absurd h (by omega), by dsimp only; omega, rfl, fun x hx => ?_⟩
    have : x = ⟨10000, 10000⟩ := by simpa using hx
    subst this
    exact ⟨by dsimp only; omega, by dsimp only; omega, by dsimp only; omega⟩
  have cf : ConfOk newS.Conf := by
    refine ⟨by decide, rfl, by decide, by decide, ⟨_, rfl, rfl, fun x hx => by simpa using hx⟩, fun i hi => ?_, fun q hq' => ?_⟩
    · have hi : i = 0 := by have : i < 1 := hi; omega
      subst hi
      exact hq
    · have hq' : q = ⟨root, [⟨10000, 10000⟩], 10000⟩ := by simpa [newS] using hq'
      subst hq'
      intro hk
      exact absurd (by decide) hk
  have no : ∀ {α : Type} {P : α → Prop}, ∀ x ∈ ([] : List α), P x := fun x hx => (List.not_mem_nil hx).elim
  exact ⟨cf, (by decide), List.Pairwise.nil, no, (by decide), List.Pairwise.nil, no, (by decide), List.Pairwise.nil, no, List.Pairwise.nil, no, (by decide), List.Pairwise.nil, no, (by decide), (by decide), (by decide)⟩
theorem New_eq : dispatchref19_New = some newS := rfl

theorem State_gv (x : Script) (h1 : x.Ns.length ≤ 30) (h2 : x.Acts.length ≤ 80) : Gv (dispatchlaw7_Script_State x) (Inv 400000) := by
  unfold dispatchlaw7_Script_State
  rw [New_eq, Option.bind_some]
  refine gv_bind (Good_gv x.Shape (ns := x.Ns) (by omega)) ?_
  rintro c ⟨L, Q, hL, hQ, hc⟩
  refine gv_bind (Text_gv hL hQ hc) fun x3 _ => ?_
  refine gv_bind (Step_gv (by omega) newS_inv ⟨by simp, by simp, by simp⟩) fun x4 hx4 => ?_
  refine gv_bind (P := Inv 4000) ?_ fun s hs => ?_
  · exact gv_cond (fun _ => gv_some (hx4.mono (by omega))) fun _ => gv_some (newS_inv.mono (by omega))
  · refine gv_bind (P := Inv 400000) ?_ fun t ht => gv_some ht
    refine gv_for (fun (s : State) k => (s, k)) x.Acts.length (fun k s => Inv (4000 + 4000 * k) s) (step := dispatchlaw7_Script_State_l1 x) (by omega) ?_ ?_ (s := s) hs
    · intro k hk t ht
      unfold dispatchlaw7_Script_State_l1
      dsimp only
      rw [dlt_t hk, cond_true, idx_at hk, Option.bind_some]
      refine gv_bind (Input_gv ht _) fun i hi => gv_bind (Step_gv (by omega) ht hi) fun r hr => gv_some (.inl ⟨r.1, rfl, hr.mono (by omega)⟩)
    · intro t ht
      unfold dispatchlaw7_Script_State_l1
      rw [dlt_f]
      exact gv_some ⟨t, rfl, ht.mono (by omega)⟩
end Go.Fx.D

/-
  Laws over plain data: true at all inputs. Conditions: none.
-/
import Derived.Test.YtnmgbgbedngcmaaR
namespace Go.Fx.D
open Go Go.Fx
set_option linter.unusedVariables false
set_option linter.unusedSimpArgs false

theorem Chosen.congr {R R' : Nat → Int} {n k : Nat} {T : Nat → Bool} (h : Chosen R n k T) (hR : ∀ i, i < n → R i = R' i) : Chosen R' n k T :=
  ⟨h.cnt, fun i j hi hj a b => by rw [← hR i hi, ← hR j hj]; exact h.bef i j hi hj a b⟩

/-- Parts, of weights that are small numbers -/
theorem parts_tab {n : Nat} (hn : n ≤ 100) {f : Nat → Int} (hf : ∀ i, i < n → 0 ≤ f i ∧ f i ≤ 1048576) {c all : Int} (hc : 0 ≤ c ∧ c ≤ 1048576) (hall : all = S f n) :
    (all = 0 → split_Parts c (tab n f) = some (tab n fun _ => 0)) ∧
    (all ≠ 0 → ∃ (T : Nat → Bool) (k : Nat), Chosen (fun i => c * f i % all) n k T ∧ (k : Int) = c - S (fun i => c * f i / all) n ∧ split_Parts c (tab n f) = some (tab n fun i => c * f i / all + if T i then 1 else 0)) := by
  have hw : ∀ i, i < n → gd ((tab n f).getD i 0) = f i := by
    intro i hi
    have : (tab n f).getD i 0 = f i := by rw [List.getD_eq_getElem?_getD, tab_get hi]; rfl
    rw [this, gd_id (hf i hi).1 (hf i hi).2]
  obtain ⟨h1, h2⟩ := parts_eq c (tab n f) (n := n) (by rw [tab_len]; omega) (w := fun i => gd ((tab n f).getD i 0)) (fun _ => rfl) (all := all) (c := c) (by rw [hall]; exact S_congr fun i hi => (hw i hi).symm) (gd_id hc.1 hc.2).symm
  refine ⟨h1, fun h0 => ?_⟩
  obtain ⟨T, k, k1, k2, k3⟩ := h2 h0
  refine ⟨T, k, k1.congr fun i hi => ?_, ?_, ?_⟩
  · rw [hw i hi]
  · rw [k2]; congr 1; exact S_congr fun i hi => by rw [hw i hi]
  · rw [k3]; congr 1; exact tab_ext fun i hi => by rw [hw i hi]

theorem S_below {n k : Nat} (h : k ≤ n) : S (fun i => if decide (i < k) then 1 else 0) n = k := by
  induction n generalizing k with
  | zero => have : k = 0 := by omega
            subst this; rfl
  | succ n ih =>
    rw [S]
    by_cases e : k = n + 1
    · subst e
      rw [S_congr (g := fun _ => 1) (fun i hi => by rw [decide_eq_true (by omega)]; rfl), S_const, decide_eq_true (by omega)]
      simp
    · rw [ih (by omega), decide_eq_false (by omega)]; simp

theorem chosen_even {n k : Nat} {R : Nat → Int} (hk : k ≤ n) (hR : ∀ i j, i < n → j < n → R i = R j) : Chosen R n k fun i => decide (i < k) := by
  refine ⟨S_below hk, ?_⟩
  intro i j hi hj a b
  rw [decide_eq_true_eq] at a
  rw [decide_eq_false_iff_not] at b
  exact .inr ⟨hR i j hi hj, by omega⟩

theorem chosen_le {n k : Nat} {R : Nat → Int} {T : Nat → Bool} (h : Chosen R n k T) : k ≤ n := by
  have := h.cnt
  have := S_le (f := fun i => if T i then (1 : Int) else 0) (g := fun _ => 1) (n := n) (fun i hi => by split <;> omega)
  rw [S_const] at this
  omega

theorem known_eq : dispatchlaw21_known = some true := by
  have e : ([1, 1, 1] : List Int) = tab 3 fun _ => 1 := rfl
  have hall : (3 : Int) = S (fun _ => 1) 3 := rfl
  obtain ⟨T, k, k1, k2, k3⟩ := (parts_tab (n := 3) (f := fun _ => 1) (by omega) (fun i hi => by omega) (c := 10) (all := 3) (by omega) hall).2 (by omega)
  have hk : k = 1 := by
    have : S (fun i => (10 : Int) * 1 / 3) 3 = 9 := rfl
    omega
  subst hk
  have hT := k1.uniq (chosen_even (R := fun _ => 0) (n := 3) (k := 1) (by omega) (fun _ _ _ _ => rfl)) (fun i j _ _ => by omega)
  unfold dispatchlaw21_known
  rw [e, k3]
  have : (tab 3 fun i => (10 : Int) * 1 / 3 + if T i then 1 else 0) = [4, 3, 3] := by
    rw [tab_ext (g := fun i => (10 : Int) * 1 / 3 + if decide (i < 1) then 1 else 0) (fun i hi => by rw [hT i hi])]
    rfl
  rw [this]
  rfl

/-- who has nothing left is not given one more -/
theorem chosen_pos {n k : Nat} {R : Nat → Int} {T : Nat → Bool} {all : Int} (h : Chosen R n k T) (hp : 0 < all) (hR : ∀ i, i < n → 0 ≤ R i ∧ R i < all) (hs : S R n = all * k) {i : Nat} (hi : i < n) (hT : T i = true) : 0 < R i := by
  apply Int.lt_of_not_ge
  intro h0
  have hle : S R n ≤ S (fun j => (all - 1) * (if T j then 1 else 0)) n := by
    apply S_le
    intro j hj
    have := hR j hj
    cases hTj : T j with
    | true => simp; omega
    | false =>
      have := h.bef i j hi hj hT hTj
      simp
      omega
  rw [S_mul, h.cnt, hs] at hle
  have k1 : 1 ≤ (k : Int) := by
    rw [← h.cnt]
    have := S_mem (f := fun i => if T i then (1 : Int) else 0) (n := n) (fun i hi => by split <;> omega) hi
    simp only [hT, if_true] at this
    exact this
  rw [Int.sub_mul] at hle
  omega

/-- what Parts promises -/
theorem parts_laws {n : Nat} (hn : n ≤ 100) {f : Nat → Int} (hf : ∀ i, i < n → 0 ≤ f i ∧ f i ≤ 1048576) {c all : Int} (hc : 0 ≤ c ∧ c ≤ 1048576) (hall : all = S f n) (hp : all ≠ 0) :
    ∃ x : Nat → Int, split_Parts c (tab n f) = some (tab n x) ∧ S x n = c ∧ (∀ i, i < n → 0 ≤ x i ∧ x i ≤ c ∧ (f i = 0 → x i = 0) ∧ x i * all ≤ c * f i + all ∧ c * f i ≤ x i * all + all ∧ (x i = c * f i / all ∨ x i = c * f i / all + 1)) := by
  have alln : 0 ≤ all := by rw [hall]; exact S_nonneg fun i hi => (hf i hi).1
  have hp' : 0 < all := by omega
  obtain ⟨T, k, k1, k2, k3⟩ := (parts_tab hn hf hc hall).2 hp
  obtain ⟨l1, l2, l3⟩ := left_eq (n := n) (w := f) (c := c) (all := all) (fun i hi => (hf i hi).1) hc.1 hall hp'
  have cw : ∀ i, i < n → 0 ≤ c * f i := fun i hi => Int.mul_nonneg hc.1 (hf i hi).1
  have hx : S (fun i => c * f i / all + if T i then 1 else 0) n = c := by rw [S_add, k1.cnt]; omega
  have nn : ∀ i, i < n → 0 ≤ c * f i / all + if T i then 1 else 0 := by
    intro i hi
    have := Int.ediv_nonneg (cw i hi) alln
    split <;> omega
  refine ⟨_, k3, hx, ?_⟩
  intro i hi
  have hm := S_mem (f := fun i => c * f i / all + if T i then 1 else 0) nn hi
  rw [hx] at hm
  have d := Int.mul_ediv_add_emod (c * f i) all
  have r0 := Int.emod_nonneg (c * f i) hp
  have r1 := Int.emod_lt_of_pos (c * f i) hp'
  refine ⟨nn i hi, hm, ?_, ?_, ?_, ?_⟩
  · intro h0
    have hT : T i = false := by
      cases hT : T i with
      | false => rfl
      | true =>
        have := chosen_pos k1 hp' (fun j hj => ⟨Int.emod_nonneg _ hp, Int.emod_lt_of_pos _ hp'⟩) (by rw [k2, l1]) hi hT
        rw [h0] at this
        simp at this
    rw [hT, h0]; simp
  · rw [Int.add_mul, Int.mul_comm (c * f i / all) all]
    cases T i <;> simp <;> omega
  · rw [Int.add_mul, Int.mul_comm (c * f i / all) all]
    cases T i <;> simp <;> omega
  · cases T i <;> simp

theorem plainSplitSums (count : Int) (weights : List Int) (w0 : WfT fam (.int .i64) count) (w1 : WfT fam (.slice (.int .i64)) weights) : dispatchlaw21_SplitSums count weights = some true := by
  unfold dispatchlaw21_SplitSums
  rw [known_eq]
  by_cases hl : (weights.length : Int) > 50
  · simp only [Option.bind_some, Bool.not_true, cond_false, decide_eq_true hl, cond_true]
  simp only [Option.bind_some, Bool.not_true, cond_false, decide_eq_false hl]
  rw [within_eq (by omega) (by omega)]
  simp only [Option.bind_some]
  have c0 := Int.emod_nonneg count (show (1000 : Int) ≠ 0 by omega)
  have c1 := Int.emod_lt_of_pos count (show (0 : Int) < 1000 by omega)
  generalize count % 1000 = c at *
  generalize hn : weights.length = n at *
  generalize hf : (fun i => weights.getD i 0 % 50) = f
  have fb : ∀ i, 0 ≤ f i ∧ f i < 50 := fun i => by rw [← hf]; exact ⟨Int.emod_nonneg _ (by omega), Int.emod_lt_of_pos _ (by omega)⟩
  have sb : ∀ k, k ≤ n → 0 ≤ S f k ∧ S f k ≤ 2500 := by
    intro k hk
    have b1 := S_nonneg (f := f) (n := k) (fun i _ => (fb i).1)
    have b2 := S_le (f := f) (g := fun _ => 49) (n := k) (fun i _ => by have := fb i; omega)
    rw [S_const] at b2
    omega
  have l1 : loop (dispatchlaw21_SplitSums_l1 weights) ([], 0, 0) = some (tab n f, S f n) := by
    obtain ⟨v, e, hv⟩ := loop_inv (fun (v : List Int × Int) k => (v.1, v.2, k)) (dispatchlaw21_SplitSums_l1 weights) n (fun k v => v.1 = tab k f ∧ v.2 = S f k) (fun v => v) (by
      rintro k hk ⟨v1, v2⟩ ⟨h1, h2⟩
      dsimp only at h1 h2
      subst h1 h2
      refine ⟨(tab (k + 1) f, S f (k + 1)), ?_, rfl, rfl⟩
      unfold dispatchlaw21_SplitSums_l1
      have hb := fb k
      have hs := sb k (by omega)
      have ek : weights[k]'(by omega) % 50 = f k := by rw [← hf]; simp [List.getD, hn, hk]
      rw [decide_eq_true (by dsimp only; omega), step_succ (by omega)]
      dsimp only
      rw [idx_lt (by omega)]
      simp only [cond_true, Option.bind_some]
      rw [within_eq (by omega) (by omega)]
      simp only [Option.bind_some, ek]
      rw [app_ok (by simp [tab_len]; omega) (by omega), tab_snoc]
      simp only [Option.bind_some, tab_len, inb_lt (show k < k + 1 by omega), tab_get (show k < k + 1 by omega)]
      rw [w64_id (by omega) (by omega)]
      rfl) (by
      rintro ⟨v1, v2⟩ ⟨h1, h2⟩
      unfold dispatchlaw21_SplitSums_l1
      rw [decide_eq_false (by dsimp only; omega)]
      rfl) (s := ([], 0)) ⟨rfl, rfl⟩
    rw [e]
    obtain ⟨v1, v2⟩ := v
    rw [← hv.1, ← hv.2]
  rw [l1]
  simp only [Option.bind_some]
  have hsn := sb n (by omega)
  by_cases h0 : S f n = 0
  · rw [(parts_tab (by omega) (fun i hi => by have := fb i; omega) (by omega) rfl).1 h0]
    simp only [Option.bind_some]
    obtain ⟨v, e, hv⟩ := loop_inv (fun (v : Int) k => (v, k)) (dispatchlaw21_SplitSums_l2 c (tab n f, S f n) (tab n fun _ => 0)) n (fun k v => v = 0) (fun v => .inr v) (by
      rintro k hk v rfl
      refine ⟨0, ?_, rfl⟩
      unfold dispatchlaw21_SplitSums_l2
      rw [decide_eq_true (by dsimp only; rw [tab_len]; omega), step_succ (by omega)]
      dsimp only
      simp only [tab_len, inb_lt hk, tab_get hk, cond_true, Option.bind_some]
      rw [h0]
      cases (f k == 0) <;> rfl) (by
      rintro v rfl
      unfold dispatchlaw21_SplitSums_l2
      rw [decide_eq_false (by dsimp only; rw [tab_len]; omega)]
      rfl) (s := 0) rfl
    rw [e, hv]
    simp only [Option.bind_some, tab_len, beq_self_eq_true, cond_true, h0]
  · obtain ⟨x, e, hx, hxi⟩ := parts_laws (by omega) (fun i hi => by have := fb i; omega) (c := c) (by omega) rfl h0
    rw [e]
    simp only [Option.bind_some]
    generalize hA : S f n = A at *
    obtain ⟨v, e2, hv⟩ := loop_inv (fun (v : Int) k => (v, k)) (dispatchlaw21_SplitSums_l2 c (tab n f, A) (tab n x)) n (fun k v => v = S x k ∧ 0 ≤ v ∧ v ≤ k * c) (fun v => .inr v) (by
      rintro k hk v ⟨rfl, hv0, hv1⟩
      obtain ⟨x0, x1, x2, x3, x4, _⟩ := hxi k hk
      have hfk := fb k
      have m1 : x k * A ≤ 1000 * 2500 := Int.mul_le_mul (by omega) (by omega) (by omega) (by omega)
      have m2 : 0 ≤ x k * A := Int.mul_nonneg x0 (by omega)
      have m3 : c * f k ≤ 1000 * 50 := Int.mul_le_mul (by omega) (by omega) (by omega) (by omega)
      have m4 : 0 ≤ c * f k := Int.mul_nonneg (by omega) (by omega)
      have m5 : (k : Int) * c ≤ 50 * 1000 := Int.mul_le_mul (by omega) (by omega) (by omega) (by omega)
      refine ⟨S x (k + 1), ?_, rfl, ?_, ?_⟩
      · unfold dispatchlaw21_SplitSums_l2
        rw [decide_eq_true (by dsimp only; rw [tab_len]; omega), step_succ (by omega)]
        dsimp only
        simp only [tab_len, inb_lt hk, tab_get hk, cond_true, Option.bind_some]
        rw [w64_id (x := x k * A) (by omega) (by omega), w64_id (x := c * f k) (by omega) (by omega), w64_id (x := c * f k + A) (by omega) (by omega), w64_id (x := x k * A + A) (by omega) (by omega), w64_id (x := S x k + x k) (by omega) (by omega)]
        rw [decide_eq_false (show ¬ x k < 0 by omega), decide_eq_true (show A > 0 by omega), decide_eq_false (show ¬ x k * A > c * f k + A by omega), decide_eq_false (show ¬ x k * A + A < c * f k by omega)]
        simp only [cond_true, cond_false, Option.bind_some]
        by_cases hz : f k = 0
        · rw [x2 hz, show (f k == 0) = true by simpa using hz]
          simp only [bne_self_eq_false, cond_true, cond_false, Option.bind_some, S, x2 hz]
        · rw [show (f k == 0) = false by simpa using hz]
          simp only [cond_true, cond_false, Option.bind_some, S]
      · show 0 ≤ S x k + x k
        omega
      · show S x k + x k ≤ ((k + 1 : Nat) : Int) * c
        rw [Int.natCast_add, Int.add_mul]
        omega) (by
      rintro v ⟨rfl, _, _⟩
      unfold dispatchlaw21_SplitSums_l2
      rw [decide_eq_false (by dsimp only; rw [tab_len]; omega)]
      rfl) (s := 0) ⟨rfl, by omega, by omega⟩
    rw [e2, hv.1, hx]
    simp only [Option.bind_some, tab_len, beq_self_eq_true, cond_true]
    rw [show (A == 0) = false by simpa using h0, decide_eq_true (show A > 0 by omega)]
    rfl
end Go.Fx.D

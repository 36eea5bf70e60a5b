/-
  Laws over plain data: true at all inputs. Conditions: none.
-/
import Derived.Test.YtljanmldkldggaaN
namespace Go.Fx.D
open Go Go.Fx
set_option linter.unusedVariables false
set_option linter.unusedSimpArgs false

theorem mul_le2 {n bp N B : Int} (h0 : 0 ≤ n) (h1 : n ≤ N) (b0 : 0 ≤ bp) (b1 : bp ≤ B) : 0 ≤ n * bp ∧ n * bp ≤ N * B :=
  ⟨Int.mul_nonneg h0 b0, Int.mul_le_mul h1 b1 b0 (by omega)⟩

theorem scale_eq (a : Vec) (bp : Int) : rvec_Scale a bp = some (if Ok a ∧ 0 ≤ bp ∧ bp ≤ 1000000 then (if Ok ⟨a.Mem * bp / 10000, a.Cores * bp / 10000⟩ then (⟨a.Mem * bp / 10000, a.Cores * bp / 10000⟩, 0) else (⟨0, 0⟩, 11)) else (⟨0, 0⟩, 1)) := by
  unfold rvec_Scale
  rw [good_eq]
  by_cases h : Ok a
  · by_cases b0 : 0 ≤ bp
    · by_cases b1 : bp ≤ 1000000
      · have p1 := part_eq (n := a.Mem) h.1 h.2.1 b0 b1
        have p2 := part_eq (n := a.Cores) h.2.2.1 h.2.2.2 b0 b1
        have d1 : decide (bp < 0) = false := by rw [decide_eq_false_iff_not]; omega
        have d2 : decide (bp > 1000000) = false := by rw [decide_eq_false_iff_not]; omega
        rw [if_pos ⟨h, b0, b1⟩]
        simp only [h, decide_true, Option.bind_some, Bool.not_true, cond_false, d1, d2, p1, p2, over_eq]
      · have d1 : decide (bp < 0) = false := by rw [decide_eq_false_iff_not]; omega
        have d2 : decide (bp > 1000000) = true := by rw [decide_eq_true_eq]; omega
        rw [if_neg (fun q => b1 q.2.2)]
        simp only [h, decide_true, Option.bind_some, Bool.not_true, cond_false, cond_true, d1, d2]
    · have d1 : decide (bp < 0) = true := by rw [decide_eq_true_eq]; omega
      rw [if_neg (fun q => b0 q.2.1)]
      simp only [h, decide_true, Option.bind_some, Bool.not_true, cond_false, cond_true, d1]
  · rw [if_neg (fun q => h q.1)]
    simp only [h, decide_false, Option.bind_some, Bool.not_false, cond_true]

theorem rsc_eq {n bp : Int} (h0 : 0 ≤ n) (h1 : n ≤ 1125899906842624) (b0 : 0 ≤ bp) (b1 : bp ≤ 1000000) : dispatchref1_scale n bp = some (n * bp / 10000) := by
  unfold dispatchref1_scale
  have e1 : Int.tdiv n 10000 = n / 10000 := Int.tdiv_eq_ediv_of_nonneg h0
  have e2 : Int.tmod n 10000 = n % 10000 := Int.tmod_eq_emod_of_nonneg h0
  have k1 := mul_le2 (n := n / 10000) (N := 112589990685) (by omega) (by omega) b0 b1
  have k2 := mul_le2 (n := n % 10000) (N := 9999) (by omega) (by omega) b0 b1
  have hs : n * bp = 10000 * (n / 10000 * bp) + n % 10000 * bp := by
    have : n = 10000 * (n / 10000) + n % 10000 := by omega
    exact calc n * bp = (10000 * (n / 10000) + n % 10000) * bp := by rw [← this]
      _ = _ := by rw [Int.add_mul, Int.mul_assoc]
  rw [e1, e2, w64_id (x := n / 10000) (by omega) (by omega), hs]
  generalize n / 10000 * bp = K at k1 ⊢
  generalize n % 10000 * bp = M at k2 ⊢
  rw [w64_id (x := K) (by omega) (by omega), w64_id (x := M) (by omega) (by omega), Int.tdiv_eq_ediv_of_nonneg (by omega), w64_id (x := M / 10000) (by omega) (by omega), w64_id (by omega) (by omega)]
  congr 1
  omega

theorem rscale_eq (a : Vec) (bp : Int) : dispatchref1_Scale a bp = rvec_Scale a bp := by
  rw [scale_eq]
  unfold dispatchref1_Scale
  rw [may_eq]
  by_cases h : Ok a
  · by_cases b0 : 0 ≤ bp
    · by_cases b1 : bp ≤ 1000000
      · have p1 := rsc_eq (n := a.Mem) h.1 h.2.1 b0 b1
        have p2 := rsc_eq (n := a.Cores) h.2.2.1 h.2.2.2 b0 b1
        have d1 : decide (bp < 0) = false := by rw [decide_eq_false_iff_not]; omega
        have d2 : decide (bp > 1000000) = false := by rw [decide_eq_false_iff_not]; omega
        rw [if_pos ⟨h, b0, b1⟩]
        by_cases m : Ok ⟨a.Mem * bp / 10000, a.Cores * bp / 10000⟩
        · simp only [h, m, decide_true, Option.bind_some, Bool.not_true, cond_false, d1, d2, p1, p2, may_eq, if_true]
        · simp only [h, m, decide_true, decide_false, Option.bind_some, Bool.not_true, Bool.not_false, cond_false, cond_true, d1, d2, p1, p2, may_eq, if_false]
      · have d1 : decide (bp < 0) = false := by rw [decide_eq_false_iff_not]; omega
        have d2 : decide (bp > 1000000) = true := by rw [decide_eq_true_eq]; omega
        rw [if_neg (fun q => b1 q.2.2)]
        simp only [h, decide_true, Option.bind_some, Bool.not_true, cond_false, cond_true, d1, d2]
    · have d1 : decide (bp < 0) = true := by rw [decide_eq_true_eq]; omega
      rw [if_neg (fun q => b0 q.2.1)]
      simp only [h, decide_true, Option.bind_some, Bool.not_true, cond_false, cond_true, d1]
  · rw [if_neg (fun q => h q.1)]
    simp only [h, decide_false, Option.bind_some, Bool.not_false, cond_true]

/-- scaled by a part of the whole -/
theorem scale_le {x : Vec} (o : Ok x) {k : Int} (k0 : 0 ≤ k) (k1 : k ≤ 10000) : rvec_Scale x k = some (⟨x.Mem * k / 10000, x.Cores * k / 10000⟩, 0) ∧ x.Mem * k / 10000 ≤ x.Mem ∧ x.Cores * k / 10000 ≤ x.Cores ∧ 0 ≤ x.Mem * k / 10000 ∧ 0 ≤ x.Cores * k / 10000 := by
  have m1 : 0 ≤ x.Mem * k ∧ x.Mem * k ≤ x.Mem * 10000 := ⟨Int.mul_nonneg o.1 k0, Int.mul_le_mul_of_nonneg_left k1 o.1⟩
  have m2 : 0 ≤ x.Cores * k ∧ x.Cores * k ≤ x.Cores * 10000 := ⟨Int.mul_nonneg o.2.2.1 k0, Int.mul_le_mul_of_nonneg_left k1 o.2.2.1⟩
  rw [scale_eq, if_pos ⟨o, k0, by omega⟩]
  generalize x.Mem * k = K1 at m1 ⊢
  generalize x.Cores * k = K2 at m2 ⊢
  rw [if_pos (by unfold Ok at *; dsimp only; omega)]
  exact ⟨rfl, by omega, by omega, by omega, by omega⟩

theorem plainRvecScales (a : Vec) (bp how : Int) (w0 : WfT fam (.st 0) a) (w1 : WfT fam (.int .i64) bp) (w2 : WfT fam (.int .i64) how) : dispatchlaw1_RvecScales a bp how = some true := by
  unfold dispatchlaw1_RvecScales
  rw [known_eq]
  obtain ⟨x, e1, o⟩ := vec_ok a how
  have k0 := Int.emod_nonneg bp (show (10001 : Int) ≠ 0 by omega)
  have k1 := Int.emod_lt_of_pos bp (show (0 : Int) < 10001 by omega)
  obtain ⟨⟨s, sc⟩, hs⟩ : ∃ r, rvec_Scale a bp = some r := ⟨_, scale_eq a bp⟩
  obtain ⟨t1, t2, t3, t4, t5⟩ := scale_le o k0 (by omega)
  have tt : ∀ {p : Prop} [Decidable p], p → decide p = true := fun h => decide_eq_true h
  simp only [Option.bind_some, Bool.not_true, cond_false, e1, within_eq (a := bp) (n := 10001) (by omega) (by omega), rscale_eq, hs, t1, fits_eq, beq_self_eq_true, Bool.and_self, cond_true, tt (⟨t2, t3⟩ : x.Mem * (bp % 10001) / 10000 ≤ x.Mem ∧ x.Cores * (bp % 10001) / 10000 ≤ x.Cores)]
  by_cases hk : bp % 10001 < 10000
  · rw [tt hk]; rfl
  · have hk' : bp % 10001 = 10000 := by omega
    rw [hk', show x.Mem * 10000 / 10000 = x.Mem by omega, show x.Cores * 10000 / 10000 = x.Cores by omega]
    simp

theorem plainRvecParts (a b : Vec) (bp how : Int) (w0 : WfT fam (.st 0) a) (w1 : WfT fam (.st 0) b) (w2 : WfT fam (.int .i64) bp) (w3 : WfT fam (.int .i64) how) : dispatchlaw1_RvecParts a b bp how = some true := by
  unfold dispatchlaw1_RvecParts
  rw [known_eq]
  obtain ⟨x, e1, o⟩ := vec_ok a how
  obtain ⟨y, e2, oy⟩ := vec_ok b how
  have k0 := Int.emod_nonneg bp (show (10001 : Int) ≠ 0 by omega)
  have k1 := Int.emod_lt_of_pos bp (show (0 : Int) < 10001 by omega)
  have tt : ∀ {p : Prop} [Decidable p], p → decide p = true := fun h => decide_eq_true h
  simp only [Option.bind_some, Bool.not_true, cond_false, e1, e2, within_eq (a := bp) (n := 10001) (by omega) (by omega), add_eq, o, oy, and_self, if_true]
  by_cases hs : Ok ⟨x.Mem + y.Mem, x.Cores + y.Cores⟩
  · rw [if_pos hs]
    have hd : Ok ⟨x.Mem + y.Mem - y.Mem, x.Cores + y.Cores - y.Cores⟩ := by unfold Ok at *; dsimp only; omega
    have hw : w64 (10000 - bp % 10001) = 10000 - bp % 10001 := w64_id (by omega) (by omega)
    obtain ⟨t1, t2, t3, t4, t5⟩ := scale_le o k0 (by omega)
    obtain ⟨r1, r2, r3, r4, r5⟩ := scale_le o (k := 10000 - bp % 10001) (by omega) (by omega)
    have m1 : x.Mem * (10000 - bp % 10001) = x.Mem * 10000 - x.Mem * (bp % 10001) := Int.mul_sub _ _ _
    have m2 : x.Cores * (10000 - bp % 10001) = x.Cores * 10000 - x.Cores * (bp % 10001) := Int.mul_sub _ _ _
    have oo := o
    unfold Ok at oo
    rw [m1] at r1 r2 r4
    rw [m2] at r1 r3 r5
    simp only [sub_eq, hs, oy, hd, and_self, if_true, hw, t1, r1, Option.bind_some]
    generalize x.Mem * (bp % 10001) = K1 at *
    generalize x.Cores * (bp % 10001) = K2 at *
    rw [show x.Mem + y.Mem - y.Mem = x.Mem by omega, show x.Cores + y.Cores - y.Cores = x.Cores by omega]
    rw [w64_id (x := K1 / 10000 + (x.Mem * 10000 - K1) / 10000) (by omega) (by omega), w64_id (x := K2 / 10000 + (x.Cores * 10000 - K2) / 10000) (by omega) (by omega), w64_id (by omega) (by omega), w64_id (by omega) (by omega)]
    rw [tt (show K1 / 10000 + (x.Mem * 10000 - K1) / 10000 ≤ x.Mem by omega), tt (show K1 / 10000 + (x.Mem * 10000 - K1) / 10000 + 1 ≥ x.Mem by omega), tt (show K2 / 10000 + (x.Cores * 10000 - K2) / 10000 ≤ x.Cores by omega), tt (show K2 / 10000 + (x.Cores * 10000 - K2) / 10000 + 1 ≥ x.Cores by omega)]
    simp
  · rw [if_neg hs]
    rfl
end Go.Fx.D

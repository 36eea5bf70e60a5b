/-
  Laws over plain data: true at all inputs. Conditions: none.
-/
import Derived.Test.YtljanmldkldggaaD
import Derived.Test.YtljanmldkldggaaFxB
namespace Go.Fx.D
open Go Go.Fx
set_option linter.unusedVariables false
set_option linter.unusedSimpArgs false

theorem w64_id {x : Int} (h : -9223372036854775808 ≤ x) (h2 : x ≤ 9223372036854775807) : w64 x = x := by
  show IntKind.i64.wrap x = x
  rw [IntKind.wrap_i64]; omega

/-- a vector within the bounds -/
def Ok (v : Vec) : Prop := 0 ≤ v.Mem ∧ v.Mem ≤ 1125899906842624 ∧ 0 ≤ v.Cores ∧ v.Cores ≤ 1125899906842624
instance (v : Vec) : Decidable (Ok v) := by unfold Ok; infer_instance

theorem good_eq (v : Vec) : rvec_vec_good v = some (decide (Ok v)) := by
  unfold rvec_vec_good Ok
  by_cases h1 : 0 ≤ v.Mem <;> by_cases h2 : v.Mem ≤ 1125899906842624 <;> by_cases h3 : 0 ≤ v.Cores <;> by_cases h4 : v.Cores ≤ 1125899906842624 <;> simp [h1, h2, h3, h4]

theorem may_eq (v : Vec) : dispatchref1_may v = some (decide (Ok v)) := by
  unfold dispatchref1_may dispatchref1_part Ok
  by_cases h1 : 0 ≤ v.Mem <;> by_cases h2 : v.Mem ≤ 1125899906842624 <;> by_cases h3 : 0 ≤ v.Cores <;> by_cases h4 : v.Cores ≤ 1125899906842624 <;> simp [h1, h2, h3, h4]

theorem over_eq (v : Vec) : rvec_over v = some (if Ok v then (v, 0) else (⟨0, 0⟩, 11)) := by
  unfold rvec_over
  rw [good_eq]
  by_cases h : Ok v <;> simp [h]

theorem add_eq (a b : Vec) : rvec_Add a b = some (if Ok a ∧ Ok b then (if Ok ⟨a.Mem + b.Mem, a.Cores + b.Cores⟩ then (⟨a.Mem + b.Mem, a.Cores + b.Cores⟩, 0) else (⟨0, 0⟩, 11)) else (⟨0, 0⟩, 1)) := by
  unfold rvec_Add
  rw [good_eq, good_eq]
  by_cases h : Ok a
  · by_cases k : Ok b
    · have e1 : w64 (a.Mem + b.Mem) = a.Mem + b.Mem := w64_id (by unfold Ok at h k; omega) (by unfold Ok at h k; omega)
      have e2 : w64 (a.Cores + b.Cores) = a.Cores + b.Cores := w64_id (by unfold Ok at h k; omega) (by unfold Ok at h k; omega)
      simp only [h, k, e1, e2, over_eq, decide_true, Option.bind_some, Bool.not_true, cond_false, and_self, if_true]
    · simp [h, k]
  · simp [h]

theorem sub_eq (a b : Vec) : rvec_Sub a b = some (if Ok a ∧ Ok b then (if Ok ⟨a.Mem - b.Mem, a.Cores - b.Cores⟩ then (⟨a.Mem - b.Mem, a.Cores - b.Cores⟩, 0) else (⟨0, 0⟩, 11)) else (⟨0, 0⟩, 1)) := by
  unfold rvec_Sub
  rw [good_eq, good_eq]
  by_cases h : Ok a
  · by_cases k : Ok b
    · have e1 : w64 (a.Mem - b.Mem) = a.Mem - b.Mem := w64_id (by unfold Ok at h k; omega) (by unfold Ok at h k; omega)
      have e2 : w64 (a.Cores - b.Cores) = a.Cores - b.Cores := w64_id (by unfold Ok at h k; omega) (by unfold Ok at h k; omega)
      simp only [h, k, e1, e2, over_eq, decide_true, Option.bind_some, Bool.not_true, cond_false, and_self, if_true]
    · simp [h, k]
  · simp [h]

theorem radd_eq (a b : Vec) : dispatchref1_Add a b = rvec_Add a b := by
  rw [add_eq]
  unfold dispatchref1_Add
  rw [may_eq, may_eq]
  by_cases h : Ok a
  · by_cases k : Ok b
    · have e1 : w64 (a.Mem + b.Mem) = a.Mem + b.Mem := w64_id (by unfold Ok at h k; omega) (by unfold Ok at h k; omega)
      have e2 : w64 (a.Cores + b.Cores) = a.Cores + b.Cores := w64_id (by unfold Ok at h k; omega) (by unfold Ok at h k; omega)
      by_cases m : Ok ⟨a.Mem + b.Mem, a.Cores + b.Cores⟩ <;> simp [h, k, m, e1, e2, may_eq]
    · simp [h, k]
  · simp [h]

theorem rsub_eq (a b : Vec) : dispatchref1_Sub a b = rvec_Sub a b := by
  rw [sub_eq]
  unfold dispatchref1_Sub
  rw [may_eq, may_eq]
  by_cases h : Ok a
  · by_cases k : Ok b
    · have e1 : w64 (a.Mem - b.Mem) = a.Mem - b.Mem := w64_id (by unfold Ok at h k; omega) (by unfold Ok at h k; omega)
      have e2 : w64 (a.Cores - b.Cores) = a.Cores - b.Cores := w64_id (by unfold Ok at h k; omega) (by unfold Ok at h k; omega)
      by_cases m : Ok ⟨a.Mem - b.Mem, a.Cores - b.Cores⟩ <;> simp [h, k, m, e1, e2, may_eq]
    · simp [h, k]
  · simp [h]

theorem fits_eq (a b : Vec) : rvec_Fits a b = some (decide (a.Mem ≤ b.Mem ∧ a.Cores ≤ b.Cores)) := by
  unfold rvec_Fits
  by_cases h : a.Mem ≤ b.Mem <;> simp [h]
theorem rfits_eq (a b : Vec) : dispatchref1_Fits a b = rvec_Fits a b := rfl

theorem within_eq {a n : Int} (h0 : 0 < n) (h1 : n ≤ 4611686018427387904) : dispatchlaw1_within a n = some (a % n) := by
  unfold dispatchlaw1_within
  have hn : nz n = some () := by unfold nz; rw [if_pos (by omega)]
  rw [hn]
  have hm : Int.tmod a n = if 0 ≤ a ∨ n ∣ a then a % n else a % n - n := by
    rw [Int.tmod_eq_emod]
    split <;> simp [Int.natAbs_of_nonneg (Int.le_of_lt h0)]
  have e0 := Int.emod_nonneg a (show n ≠ 0 by omega)
  have e1 := Int.emod_lt_of_pos a h0
  simp only [Option.bind_some, Bool.cond_eq_ite, decide_eq_true_eq]
  rw [hm]
  by_cases hc : 0 ≤ a ∨ n ∣ a
  · rw [if_pos hc, if_neg (by omega)]; rfl
  · rw [if_neg hc, if_pos (by omega), w64_id (by omega) (by omega)]
    simp only [Option.bind_some, Option.some.injEq]
    omega

theorem vec_eq (v : Vec) (how : Int) : dispatchlaw1_vec v how = some (if how.tmod 2 = 0 then ⟨v.Mem % 5, v.Cores % 5⟩ else ⟨v.Mem % 1125899906842625, v.Cores % 1125899906842625⟩) := by
  unfold dispatchlaw1_vec dispatchlaw1_part
  rw [within_eq (by omega) (by omega), within_eq (by omega) (by omega), within_eq (by omega) (by omega), within_eq (by omega) (by omega)]
  simp only [Option.bind_some, Bool.cond_eq_ite, beq_iff_eq]
  split <;> rfl

theorem vec_ok (v : Vec) (how : Int) : ∃ x, dispatchlaw1_vec v how = some x ∧ Ok x := by
  refine ⟨_, vec_eq v how, ?_⟩
  split <;> (unfold Ok; dsimp only; omega)
end Go.Fx.D

/-
  Laws over plain data: true at all inputs. Conditions: none.
-/
import Derived.Test.YtljanmldkldggaaS
namespace Go.Fx.D
open Go Go.Fx
set_option linter.unusedVariables false
set_option linter.unusedSimpArgs false

theorem fitIff (b1 b2 : Bool) (p : Prop) [Decidable p] (h : b1 = true ↔ p) : b1 = decide p := by cases b1 <;> simp_all

theorem vec_eqb (x y : Vec) : ((x.Mem == y.Mem) && (x.Cores == y.Cores)) = decide (x.Mem = y.Mem ∧ x.Cores = y.Cores) := by
  by_cases h : x.Mem = y.Mem <;> by_cases k : x.Cores = y.Cores <;> simp [h, k]

theorem plainRvecFit (a b c : Vec) (how : Int) (w0 : WfT fam (.st 0) a) (w1 : WfT fam (.st 0) b) (w2 : WfT fam (.st 0) c) (w3 : WfT fam (.int .i64) how) : dispatchlaw1_RvecFit a b c how = some true := by
  unfold dispatchlaw1_RvecFit
  rw [known_eq]
  obtain ⟨x, e1, o1⟩ := vec_ok a how
  obtain ⟨y, e2, o2⟩ := vec_ok b how
  obtain ⟨z, e3, o3⟩ := vec_ok c how
  simp only [Option.bind_some, Bool.not_true, cond_false, e1, e2, e3, fits_eq, sub_eq, o1, o2, and_self, if_true, vec_eqb]
  have tt : ∀ {p : Prop} [Decidable p], p → decide p = true := fun h => decide_eq_true h
  have ff : ∀ {p : Prop} [Decidable p], ¬ p → decide p = false := fun h => decide_eq_false h
  by_cases h1 : x.Mem ≤ y.Mem ∧ x.Cores ≤ y.Cores
  · have hok : Ok ⟨y.Mem - x.Mem, y.Cores - x.Cores⟩ := by unfold Ok at *; dsimp only; omega
    rw [if_pos hok, tt h1]
    by_cases h2 : y.Mem ≤ z.Mem ∧ y.Cores ≤ z.Cores
    · have h3 : x.Mem ≤ z.Mem ∧ x.Cores ≤ z.Cores := by omega
      rw [tt h2, tt h3]
      by_cases h4 : y.Mem ≤ x.Mem ∧ y.Cores ≤ x.Cores
      · rw [tt h4, tt (show x.Mem = y.Mem ∧ x.Cores = y.Cores by omega)]; rfl
      · rw [ff h4, ff (show ¬ (x.Mem = y.Mem ∧ x.Cores = y.Cores) by omega)]; rfl
    · rw [ff h2]
      by_cases h4 : y.Mem ≤ x.Mem ∧ y.Cores ≤ x.Cores
      · rw [tt h4, tt (show x.Mem = y.Mem ∧ x.Cores = y.Cores by omega)]; rfl
      · rw [ff h4, ff (show ¬ (x.Mem = y.Mem ∧ x.Cores = y.Cores) by omega)]; rfl
  · have hok : ¬ Ok ⟨y.Mem - x.Mem, y.Cores - x.Cores⟩ := by unfold Ok at *; dsimp only; omega
    rw [if_neg hok, ff h1, ff (show ¬ (x.Mem = y.Mem ∧ x.Cores = y.Cores) by omega)]; rfl
end Go.Fx.D

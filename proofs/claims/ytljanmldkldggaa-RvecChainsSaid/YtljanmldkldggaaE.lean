/-
  Laws over plain data: true at all inputs. Conditions: none.
-/
import Derived.Test.YtljanmldkldggaaQ
namespace Go.Fx.D
open Go Go.Fx
set_option linter.unusedVariables false
set_option linter.unusedSimpArgs false

theorem plainRvecEdges (which n : Int) (w0 : WfT fam (.int .i64) which) (w1 : WfT fam (.int .i64) n) : dispatchlaw1_RvecEdges which n = some true := by
  unfold dispatchlaw1_RvecEdges
  rw [known_eq]
  have k0 := Int.emod_nonneg n (show (3 : Int) ≠ 0 by omega)
  have k1 := Int.emod_lt_of_pos n (show (0 : Int) < 3 by omega)
  have j0 := Int.emod_nonneg which (show (3 : Int) ≠ 0 by omega)
  have j1 := Int.emod_lt_of_pos which (show (0 : Int) < 3 by omega)
  simp only [Option.bind_some, Bool.not_true, cond_false, within_eq (n := 3) (show (0 : Int) < 3 by omega) (by omega)]
  rcases (show n % 3 = 0 ∨ n % 3 = 1 ∨ n % 3 = 2 by omega) with h | h | h <;>
  rcases (show which % 3 = 0 ∨ which % 3 = 1 ∨ which % 3 = 2 by omega) with k | k | k <;>
  (rw [h, k]; simp only [add_eq, sub_eq, scale_eq]; decide)
end Go.Fx.D

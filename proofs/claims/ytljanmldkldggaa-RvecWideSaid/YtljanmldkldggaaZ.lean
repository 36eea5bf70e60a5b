/-
  Laws over plain data: true at all inputs. Conditions: none.
-/
import Derived.Test.YtljanmldkldggaaY
namespace Go.Fx.D
open Go Go.Fx
set_option linter.unusedVariables false
set_option linter.unusedSimpArgs false

theorem plainRvecNought (a p : Vec) (w0 : WfT fam (.st 0) a) (w1 : WfT fam (.st 0) p) : dispatchlaw1_RvecNought a p = some true := by
  unfold dispatchlaw1_RvecNought
  rw [known_eq]
  obtain ⟨x, e1, o1⟩ := vec_ok a 1
  obtain ⟨y, e2, o2⟩ := vec_ok p 1
  have z0 : Ok ⟨0, 0⟩ := by decide
  have zf : Ok ⟨1125899906842624, 0⟩ := by decide
  have m1 : imax x.Cores 1 = max x.Cores 1 := by unfold imax; split <;> omega
  have m2 : imax y.Cores 1 = max y.Cores 1 := by unfold imax; split <;> omega
  have m3 : imax y.Mem 1 = max y.Mem 1 := by unfold imax; split <;> omega
  have ox : Ok ⟨x.Mem, imax x.Cores 1⟩ := by rw [m1]; unfold Ok at *; dsimp only; omega
  have oy : Ok ⟨imax y.Mem 1, imax y.Cores 1⟩ := by rw [m2, m3]; unfold Ok at *; dsimp only; omega
  simp only [Option.bind_some, Bool.not_true, cond_false, e1, e2, order_eq, z0, zf, o1, o2, ox, oy, and_self, if_true, cmp_self]
  have l0 : ld ⟨0, 0⟩ ⟨0, 0⟩ = (0, 1) := by decide
  have l0y : ∀ v : Vec, ld ⟨0, 0⟩ v = (0, 1) := by
    intro v
    unfold ld nm
    simp only [if_true]
    rw [cmp_self]
    rfl
  have lf : ld ⟨x.Mem, imax x.Cores 1⟩ ⟨1125899906842624, 0⟩ = (imax x.Cores 1, 0) := by
    unfold ld
    have : nm (imax x.Cores 1) 0 = 0 := by unfold nm; rw [if_neg (by omega)]
    dsimp only
    rw [this]
    have h1 : ¬ nm x.Mem 1125899906842624 = 0 := by unfold nm; split <;> omega
    unfold cmp
    rw [if_neg h1, if_pos rfl, if_pos (by omega)]
  have nz2 : ∀ {v : Vec}, (ld v ⟨imax y.Mem 1, imax y.Cores 1⟩).2 ≠ 0 := by
    intro v
    unfold ld nm
    rw [m2, m3]
    dsimp only
    repeat' split
    all_goals (try dsimp only)
    all_goals omega
  have pos : 0 < (ld ⟨x.Mem, imax x.Cores 1⟩ ⟨imax y.Mem 1, imax y.Cores 1⟩).1 := by
    unfold Ok at o1
    unfold ld
    split
    · dsimp only; omega
    · rename_i hc
      dsimp only at hc ⊢
      by_cases h : x.Mem = 0
      · exfalso
        apply hc
        have e1 : nm x.Mem (imax y.Mem 1) = 1 := by unfold nm; rw [if_pos h]
        have e2 : nm (imax x.Cores 1) (imax y.Cores 1) ≠ 0 := by unfold nm; split <;> omega
        rw [e1, h]
        unfold cmp
        rw [if_neg (by omega), if_neg e2, if_pos (by rw [Int.zero_mul, Int.mul_one]; omega)]
        omega
      · omega
  rw [l0, l0y, lf]
  have c1 : cmp (imax x.Cores 1) 0 (ld x ⟨imax y.Mem 1, imax y.Cores 1⟩).1 (ld x ⟨imax y.Mem 1, imax y.Cores 1⟩).2 = 1 := by
    unfold cmp
    rw [if_pos rfl, if_neg nz2]
  have c2 : cmp 0 1 (ld ⟨x.Mem, imax x.Cores 1⟩ ⟨imax y.Mem 1, imax y.Cores 1⟩).1 (ld ⟨x.Mem, imax x.Cores 1⟩ ⟨imax y.Mem 1, imax y.Cores 1⟩).2 = -1 := by
    unfold cmp
    rw [if_neg (by omega), if_neg nz2, if_pos (by rw [Int.zero_mul, Int.mul_one]; exact pos)]
  simp only [cmp_self, c1, c2]
  rfl
end Go.Fx.D

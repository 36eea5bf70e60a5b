/-
  Laws over plain data: true at all inputs. Conditions: none.
-/
import Derived.Test.YtdclefmidgofaaaGreatU
namespace Go.Fx.D
open Go Go.Fx
set_option linter.unusedVariables false
set_option linter.unusedSimpArgs false
set_option maxRecDepth 100000

theorem due0 : ((List.range 2).all fun v => (List.range 5).all fun x => isT (c_dispatchlaw14_AssignDue (0 : Nat) (v : Nat) (x : Nat))) = true := by kernel_rfl
theorem due1 : ((List.range 3).all fun v => (List.range 5).all fun x => isT (c_dispatchlaw14_AssignDue (1 : Nat) (v : Nat) (x : Nat))) = true := by kernel_rfl
theorem due2 : ((List.range 4).all fun v => (List.range 5).all fun x => isT (c_dispatchlaw14_AssignDue (2 : Nat) (v : Nat) (x : Nat))) = true := by kernel_rfl
theorem due3 : ((List.range 5).all fun v => (List.range 5).all fun x => isT (c_dispatchlaw14_AssignDue (3 : Nat) (v : Nat) (x : Nat))) = true := by kernel_rfl
theorem due4 : ((List.range 6).all fun v => (List.range 5).all fun x => isT (c_dispatchlaw14_AssignDue (4 : Nat) (v : Nat) (x : Nat))) = true := by kernel_rfl
theorem due5 : ((List.range 7).all fun v => (List.range 5).all fun x => isT (c_dispatchlaw14_AssignDue (5 : Nat) (v : Nat) (x : Nat))) = true := by kernel_rfl
theorem due6 : ((List.range 8).all fun v => (List.range 5).all fun x => isT (c_dispatchlaw14_AssignDue (6 : Nat) (v : Nat) (x : Nat))) = true := by kernel_rfl
theorem due7 : ((List.range 9).all fun v => (List.range 5).all fun x => isT (c_dispatchlaw14_AssignDue (7 : Nat) (v : Nat) (x : Nat))) = true := by kernel_rfl
theorem due8 : ((List.range 10).all fun v => (List.range 5).all fun x => isT (c_dispatchlaw14_AssignDue (8 : Nat) (v : Nat) (x : Nat))) = true := by kernel_rfl
theorem due9 : ((List.range 11).all fun v => (List.range 5).all fun x => isT (c_dispatchlaw14_AssignDue (9 : Nat) (v : Nat) (x : Nat))) = true := by kernel_rfl
theorem dueAll (u : Nat) (h : u < 10) : ((List.range (2 + u)).all fun v => (List.range 5).all fun x => isT (c_dispatchlaw14_AssignDue (u : Nat) (v : Nat) (x : Nat))) = true := by
  match u, h with
  | 0, _ => exact due0
  | 1, _ => exact due1
  | 2, _ => exact due2
  | 3, _ => exact due3
  | 4, _ => exact due4
  | 5, _ => exact due5
  | 6, _ => exact due6
  | 7, _ => exact due7
  | 8, _ => exact due8
  | 9, _ => exact due9
  | n + 10, h => omega

theorem plainAssignDue (units : Int) (a : Int) (b : Int) (w0 : WfT fam (.int .i64) units) (w1 : WfT fam (.int .i64) a) (w2 : WfT fam (.int .i64) b) : dispatchlaw14_AssignDue units a b = some true := by
  have u0 : 0 ≤ units % 10 ∧ units % 10 < 10 := by omega
  have e : dispatchlaw14_AssignDue units a b = dispatchlaw14_AssignDue (units % 10) (a % (2 + units % 10)) (b % 5) := by
    unfold dispatchlaw14_AssignDue
    rw [within_eq (a := units) (n := 10) (by omega) (by omega), within_eq (a := units % 10) (n := 10) (by omega) (by omega), Int.emod_emod]
    generalize units % 10 = U at *
    simp only [Option.bind_some]
    have hH : w64 (Int.tdiv (w64 (2 * (w64 (2 + U)))) 2) = 2 + U := by
      rw [w64_id (x := 2 + U) (by omega) (by omega), w64_id (x := 2 * (2 + U)) (by omega) (by omega), Int.tdiv_eq_ediv_of_nonneg (by omega), show 2 * (2 + U) / 2 = 2 + U by omega, w64_id (by omega) (by omega)]
    rw [hH, within_mod (a := a) (n := 2 + U) (by omega) (by omega), within_mod (a := b) (n := 5) (by omega) (by omega)]
  rw [e]
  have v0 := Int.emod_nonneg a (show 2 + units % 10 ≠ 0 by omega)
  have v1 := Int.emod_lt_of_pos a (show 0 < 2 + units % 10 by omega)
  have x0 : 0 ≤ b % 5 ∧ b % 5 < 5 := by omega
  generalize units % 10 = U at *
  generalize a % (2 + U) = A at *
  generalize b % 5 = B at *
  have h := dueAll U.toNat (by omega)
  simp only [List.all_eq_true, List.mem_range] at h
  have := h A.toNat (by omega) B.toNat (by omega)
  rw [Int.toNat_of_nonneg u0.1, Int.toNat_of_nonneg v0, Int.toNat_of_nonneg x0.1] at this
  exact (le_dispatchlaw14_AssignDue _ _ _).ok true (isT_eq this)
end Go.Fx.D

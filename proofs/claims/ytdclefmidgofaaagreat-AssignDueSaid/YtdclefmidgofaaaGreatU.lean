/-
  Laws over plain data: true at all inputs. Conditions: none.
-/
import Derived.Test.YtdclefmidgofaaaGreatV
import Derived.Test.YtdclefmidgofaaaGreatFxB
namespace Go.Fx.D
open Go Go.Fx
set_option linter.unusedVariables false
set_option linter.unusedSimpArgs false
set_option maxRecDepth 100000

def isT : Option Bool → Bool
  | some true => true
  | _ => false
theorem isT_eq {o : Option Bool} (h : isT o = true) : o = some true := by
  match o, h with
  | some true, _ => rfl

theorem w64_id {x : Int} (h1 : -9223372036854775808 ≤ x) (h2 : x < 9223372036854775808) : w64 x = x := by
  simp only [w64, IntKind.wrap, IntKind.bits, IntKind.signed]
  simp
  omega

theorem within_eq {a n : Int} (h0 : 0 < n) (h1 : n ≤ 4611686018427387904) : dispatchlaw14_within a n = some (a % n) := by
  unfold dispatchlaw14_within
  have hn : nz n = some () := by unfold nz; rw [if_pos (by omega)]
  rw [hn]
  have hm : Int.tmod a n = if 0 ≤ a ∨ n ∣ a then a % n else a % n - n := by
    rw [Int.tmod_eq_emod]
    split <;> simp [Int.natAbs_of_nonneg (Int.le_of_lt h0)]
  have e0 := Int.emod_nonneg a (show n ≠ 0 by omega)
  have e1 := Int.emod_lt_of_pos a h0
  simp only [Option.bind_some, Bool.cond_eq_ite, decide_eq_true_eq]
  rw [hm]
  by_cases hc : 0 ≤ a ∨ n ∣ a
  · rw [if_pos hc, if_neg (by omega)]; rfl
  · rw [if_neg hc, if_pos (by omega), w64_id (by omega) (by omega)]
    simp only [Option.bind_some, Option.some.injEq]
    omega
theorem within_mod {a n : Int} (h0 : 0 < n) (h1 : n ≤ 4611686018427387904) : dispatchlaw14_within a n = dispatchlaw14_within (a % n) n := by
  rw [within_eq h0 h1, within_eq h0 h1, Int.emod_emod]

/-- numbers below a bound, one by one -/
theorem all2 {m n : Nat} {f : Int → Int → Option Bool} (h : ((List.range m).all fun u => (List.range n).all fun v => isT (f (u : Nat) (v : Nat))) = true) {x y : Int} (hx : 0 ≤ x ∧ x < m) (hy : 0 ≤ y ∧ y < n) : f x y = some true := by
  simp only [List.all_eq_true, List.mem_range] at h
  have := h x.toNat (by omega) y.toNat (by omega)
  rw [Int.toNat_of_nonneg hx.1, Int.toNat_of_nonneg hy.1] at this
  exact isT_eq this

theorem labelsAll : ((List.range 2).all fun u => (List.range 2).all fun v => isT (c_dispatchlaw14_AssignLabels (u : Nat) (v : Nat))) = true := by kernel_rfl
theorem userAll : ((List.range 10).all fun u => (List.range 8).all fun v => isT (c_dispatchlaw14_AssignUser (u : Nat) (v : Nat))) = true := by kernel_rfl
theorem mostAll : ((List.range 11).all fun u => (List.range 9).all fun v => isT (c_dispatchlaw14_AssignMost (u : Nat) (v : Nat))) = true := by kernel_rfl

theorem plainAssignLabels (node : Int) (label : Int) (w0 : WfT fam (.int .i64) node) (w1 : WfT fam (.int .i64) label) : dispatchlaw14_AssignLabels node label = some true := by
  have e : dispatchlaw14_AssignLabels node label = dispatchlaw14_AssignLabels (node % 2) (label % 2) := by
    unfold dispatchlaw14_AssignLabels
    rw [within_mod (a := node) (n := 2) (by omega) (by omega), within_mod (a := label) (n := 2) (by omega) (by omega)]
  rw [e]
  exact (le_dispatchlaw14_AssignLabels _ _).ok true (all2 labelsAll (by omega) (by omega))
theorem plainAssignUser (user : Int) (used : Int) (w0 : WfT fam (.int .i64) user) (w1 : WfT fam (.int .i64) used) : dispatchlaw14_AssignUser user used = some true := by
  have e : dispatchlaw14_AssignUser user used = dispatchlaw14_AssignUser (user % 10) (used % 8) := by
    unfold dispatchlaw14_AssignUser
    rw [within_mod (a := user) (n := 10) (by omega) (by omega), within_mod (a := used) (n := 8) (by omega) (by omega)]
  rw [e]
  exact (le_dispatchlaw14_AssignUser _ _).ok true (all2 userAll (by omega) (by omega))
theorem plainAssignMost (most : Int) (used : Int) (w0 : WfT fam (.int .i64) most) (w1 : WfT fam (.int .i64) used) : dispatchlaw14_AssignMost most used = some true := by
  have e : dispatchlaw14_AssignMost most used = dispatchlaw14_AssignMost (most % 11) (used % 9) := by
    unfold dispatchlaw14_AssignMost
    rw [within_mod (a := most) (n := 11) (by omega) (by omega), within_mod (a := used) (n := 9) (by omega) (by omega)]
  rw [e]
  exact (le_dispatchlaw14_AssignMost _ _).ok true (all2 mostAll (by omega) (by omega))
end Go.Fx.D

/-
  Laws over plain data: true at all inputs. Conditions: none.
-/
import Derived.Test.YtljanmldkldggaaX
namespace Go.Fx.D
open Go Go.Fx
set_option linter.unusedVariables false
set_option linter.unusedSimpArgs false

theorem cmp_anti (n a m b : Int) : cmp m b n a = - cmp n a m b := by
  unfold cmp
  repeat' split
  all_goals omega
theorem cmp_self (n a : Int) : cmp n a n a = 0 := by
  unfold cmp
  repeat' split
  all_goals omega
theorem cmp_bd (n a m b : Int) : -1 ≤ cmp n a m b ∧ cmp n a m b ≤ 1 := by
  unfold cmp
  repeat' split
  all_goals omega

theorem plainRvecOrders (a p b q : Vec) (how : Int) (w0 : WfT fam (.st 0) a) (w1 : WfT fam (.st 0) p) (w2 : WfT fam (.st 0) b) (w3 : WfT fam (.st 0) q) (w4 : WfT fam (.int .i64) how) : dispatchlaw1_RvecOrders a p b q how = some true := by
  unfold dispatchlaw1_RvecOrders
  rw [known_eq]
  obtain ⟨x, e1, o1⟩ := vec_ok a how
  obtain ⟨y, e2, o2⟩ := vec_ok p (w64 (Int.tdiv how 2))
  obtain ⟨z, e3, o3⟩ := vec_ok b how
  obtain ⟨u, e4, o4⟩ := vec_ok q (w64 (Int.tdiv how 2))
  have an := cmp_anti (ld x y).1 (ld x y).2 (ld z u).1 (ld z u).2
  have bd := cmp_bd (ld x y).1 (ld x y).2 (ld z u).1 (ld z u).2
  have hw : w64 (0 - cmp (ld x y).1 (ld x y).2 (ld z u).1 (ld z u).2) = - cmp (ld x y).1 (ld x y).2 (ld z u).1 (ld z u).2 := by rw [w64_id (by omega) (by omega)]; omega
  simp only [Option.bind_some, Bool.not_true, cond_false, e1, e2, e3, e4, rOrder_eq, order_eq, o1, o2, o3, o4, and_self, if_true, bne_self_eq_false, beq_self_eq_true, cond_true, an, hw, cmp_self]
end Go.Fx.D

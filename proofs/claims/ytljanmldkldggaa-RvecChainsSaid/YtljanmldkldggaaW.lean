/-
  Laws over plain data: true at all inputs. Conditions: none.
-/
import Derived.Test.YtljanmldkldggaaO
namespace Go.Fx.D
open Go Go.Fx
set_option linter.unusedVariables false
set_option linter.unusedSimpArgs false

theorem shr25 (x : Int) : shrK .i64 x 25 = x / 33554432 := by
  show x.fdiv (2 ^ min (25 : Int).toNat IntKind.i64.bits) = _
  rw [show (2 ^ min (25 : Int).toNat IntKind.i64.bits : Int) = 33554432 from by decide, Int.fdiv_eq_ediv_of_nonneg _ (by decide)]
theorem shr50 (x : Int) : shrK .i64 x 50 = x / 1125899906842624 := by
  show x.fdiv (2 ^ min (50 : Int).toNat IntKind.i64.bits) = _
  rw [show (2 ^ min (50 : Int).toNat IntKind.i64.bits : Int) = 1125899906842624 from by decide, Int.fdiv_eq_ediv_of_nonneg _ (by decide)]
theorem shl25 (x : Int) : shlK .i64 x 25 = w64 (x * 33554432) := by
  show IntKind.i64.wrap (x * 2 ^ min (25 : Int).toNat IntKind.i64.bits) = _
  rw [show (2 ^ min (25 : Int).toNat IntKind.i64.bits : Int) = 33554432 from by decide]
theorem andI (a b : Nat) (ha : a < 9223372036854775808) (hb : b < 9223372036854775808) : andK .i64 (a : Int) (b : Int) = ((a &&& b : Nat) : Int) := by
  show IntKind.i64.wrap ((BitVec.ofInt 64 (a : Int) &&& BitVec.ofInt 64 (b : Int)).toNat) = _
  have e : ((BitVec.ofInt 64 (a : Int) &&& BitVec.ofInt 64 (b : Int)).toNat) = a &&& b := by
    rw [BitVec.toNat_and, BitVec.toNat_ofInt, BitVec.toNat_ofInt]
    congr 1 <;> omega
  rw [e]
  have : a &&& b ≤ a := Nat.and_le_left
  exact w64_id (by omega) (by omega)
theorem and25 (a : Nat) (ha : a < 9223372036854775808) : andK .i64 (a : Int) 33554431 = ((a % 33554432 : Nat) : Int) := by
  have := andI a 33554431 ha (by omega)
  rw [show ((33554431 : Nat) : Int) = 33554431 from rfl] at this
  rw [this, show (33554431 : Nat) = 2 ^ 25 - 1 from rfl, Nat.and_two_pow_sub_one_eq_mod]
theorem and50 (a : Nat) (ha : a < 9223372036854775808) : andK .i64 (a : Int) 1125899906842623 = ((a % 1125899906842624 : Nat) : Int) := by
  have := andI a 1125899906842623 ha (by omega)
  rw [show ((1125899906842623 : Nat) : Int) = 1125899906842623 from rfl] at this
  rw [this, show (1125899906842623 : Nat) = 2 ^ 50 - 1 from rfl, Nat.and_two_pow_sub_one_eq_mod]

theorem wide_eq (a b : Nat) (ha : a ≤ 1125899906842624) (hb : b ≤ 1125899906842624) : dispatchref1_wide (a : Int) (b : Int) = some (((a * b / 1125899906842624 : Nat) : Int), ((a * b % 1125899906842624 : Nat) : Int)) := by
  have le : ∀ {x y X Y : Nat}, x ≤ X → y ≤ Y → x * y ≤ X * Y := fun h k => Nat.mul_le_mul h k
  have p1 := le (show a / 33554432 ≤ 33554432 by omega) (show b / 33554432 ≤ 33554432 by omega)
  have p2 := le (show a / 33554432 ≤ 33554432 by omega) (show b % 33554432 ≤ 33554432 by omega)
  have p3 := le (show a % 33554432 ≤ 33554432 by omega) (show b / 33554432 ≤ 33554432 by omega)
  have p4 := le (show a % 33554432 ≤ 33554432 by omega) (show b % 33554432 ≤ 33554432 by omega)
  have hab : a * b = a / 33554432 * (b / 33554432) * 1125899906842624 + (a / 33554432 * (b % 33554432) + a % 33554432 * (b / 33554432)) * 33554432 + a % 33554432 * (b % 33554432) := by
    have e1 : a = a / 33554432 * 33554432 + a % 33554432 := by omega
    have e2 : b = b / 33554432 * 33554432 + b % 33554432 := by omega
    have := Lib.split_mul (a / 33554432) (a % 33554432) (b / 33554432) (b % 33554432) 33554432
    rw [← e1, ← e2] at this
    rw [this]
  have w : ∀ x : Nat, x ≤ 9223372036854775807 → w64 (x : Int) = (x : Int) := fun x hx => w64_id (by omega) (by omega)
  have d : ∀ x : Nat, (x : Int) / 33554432 = ((x / 33554432 : Nat) : Int) := fun x => by omega
  have d5 : ∀ x : Nat, (x : Int) / 1125899906842624 = ((x / 1125899906842624 : Nat) : Int) := fun x => by omega
  have m : ∀ x y : Nat, (x : Int) * (y : Int) = ((x * y : Nat) : Int) := fun x y => (Int.natCast_mul x y).symm
  have m5 : ∀ x : Nat, (x : Int) * 33554432 = ((x * 33554432 : Nat) : Int) := fun x => by omega
  have p : ∀ x y : Nat, (x : Int) + (y : Int) = ((x + y : Nat) : Int) := fun x y => (Int.natCast_add x y).symm
  unfold dispatchref1_wide
  simp only [shr25, shr50, shl25, d]
  rw [and25 a (by omega), and25 b (by omega)]
  simp only [m]
  rw [hab]
  generalize a / 33554432 * (b / 33554432) = X1 at *
  generalize a / 33554432 * (b % 33554432) = X2 at *
  generalize a % 33554432 * (b / 33554432) = X3 at *
  generalize a % 33554432 * (b % 33554432) = X4 at *
  rw [w X1 (by omega), w X2 (by omega), w X3 (by omega), w X4 (by omega)]
  simp only [p]
  rw [w (X2 + X3) (by omega), and25 (X2 + X3) (by omega)]
  simp only [d, m5]
  rw [w ((X2 + X3) % 33554432 * 33554432) (by omega)]
  simp only [p]
  rw [w (X1 + (X2 + X3) / 33554432) (by omega), w (X4 + (X2 + X3) % 33554432 * 33554432) (by omega), and50 _ (by omega)]
  simp only [d5, p]
  rw [w _ (by omega)]
  congr 2
  · congr 1; omega
  · congr 1; omega
end Go.Fx.D

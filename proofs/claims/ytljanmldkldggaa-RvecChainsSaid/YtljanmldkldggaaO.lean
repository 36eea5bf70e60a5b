/-
  Laws over plain data: true at all inputs. Conditions: none.
-/
import Derived.Test.YtljanmldkldggaaE
namespace Go.Fx.D
open Go Go.Fx
set_option linter.unusedVariables false
set_option linter.unusedSimpArgs false

/-- two ratios, held against one another -/
def cmp (n a m b : Int) : Int := if a = 0 then (if b = 0 then 0 else 1) else if b = 0 then -1 else if n * b < m * a then -1 else if n * b = m * a then 0 else 1

theorem compare_eq (r q : Ratio) (h1 : 0 ≤ r.n ∧ r.n ≤ 1125899906842624) (h2 : 0 ≤ r.of ∧ r.of ≤ 1125899906842624) (h3 : 0 ≤ q.n ∧ q.n ≤ 1125899906842624) (h4 : 0 ≤ q.of ∧ q.of ≤ 1125899906842624) :
    rvec_ratio_compare r q = some (cmp r.n r.of q.n q.of) := by
  obtain ⟨n, a⟩ := r
  obtain ⟨m, b⟩ := q
  dsimp only at *
  obtain ⟨n, rfl⟩ := Int.eq_ofNat_of_zero_le h1.1
  obtain ⟨a, rfl⟩ := Int.eq_ofNat_of_zero_le h2.1
  obtain ⟨m, rfl⟩ := Int.eq_ofNat_of_zero_le h3.1
  obtain ⟨b, rfl⟩ := Int.eq_ofNat_of_zero_le h4.1
  unfold rvec_ratio_compare cmp
  dsimp only
  rw [mul64_eq n b (by omega) (by omega), mul64_eq m a (by omega) (by omega)]
  by_cases ha : a = 0
  · subst ha
    by_cases hb : b = 0
    · subst hb; rfl
    · have e : (((b : Nat) : Int) == 0) = false := by rw [beq_eq_false_iff_ne]; omega
      rw [if_pos (show (((0 : Nat) : Int)) = 0 from rfl), if_neg (show ¬ ((b : Nat) : Int) = 0 by omega)]
      simp [e]
  · have ea : (((a : Nat) : Int) == 0) = false := by rw [beq_eq_false_iff_ne]; omega
    rw [if_neg (show ¬ ((a : Nat) : Int) = 0 by omega)]
    by_cases hb : b = 0
    · subst hb
      rw [if_pos (show (((0 : Nat) : Int)) = 0 from rfl)]
      simp [ea]
    · have eb : (((b : Nat) : Int) == 0) = false := by rw [beq_eq_false_iff_ne]; omega
      rw [if_neg (show ¬ ((b : Nat) : Int) = 0 by omega)]
      simp only [ea, eb, cond_false, Option.bind_some]
      rw [← Int.natCast_mul, ← Int.natCast_mul]
      generalize n * b = X
      generalize m * a = Y
      rcases Nat.lt_trichotomy X Y with h | h | h
      · rw [if_pos (by omega)]
        by_cases hh : X / 18446744073709551616 < Y / 18446744073709551616
        · have : decide (((X / 18446744073709551616 : Nat) : Int) < ((Y / 18446744073709551616 : Nat) : Int)) = true := by rw [decide_eq_true_eq]; omega
          simp only [this, cond_true, Option.bind_some]
        · have e1 : decide (((X / 18446744073709551616 : Nat) : Int) < ((Y / 18446744073709551616 : Nat) : Int)) = false := by rw [decide_eq_false_iff_not]; omega
          have e2 : (((X / 18446744073709551616 : Nat) : Int) == ((Y / 18446744073709551616 : Nat) : Int)) = true := by rw [beq_iff_eq]; omega
          have e3 : decide (((X % 18446744073709551616 : Nat) : Int) < ((Y % 18446744073709551616 : Nat) : Int)) = true := by rw [decide_eq_true_eq]; omega
          simp only [e1, e2, e3, cond_true, cond_false, Option.bind_some]
      · subst h
        rw [if_neg (by omega), if_pos rfl]
        have e1 : ∀ x : Int, decide (x < x) = false := fun x => by rw [decide_eq_false_iff_not]; omega
        simp only [e1, beq_self_eq_true, cond_true, cond_false, Option.bind_some]
      · rw [if_neg (by omega), if_neg (by omega)]
        by_cases hh : Y / 18446744073709551616 < X / 18446744073709551616
        · have e1 : decide (((X / 18446744073709551616 : Nat) : Int) < ((Y / 18446744073709551616 : Nat) : Int)) = false := by rw [decide_eq_false_iff_not]; omega
          have e2 : (((X / 18446744073709551616 : Nat) : Int) == ((Y / 18446744073709551616 : Nat) : Int)) = false := by rw [beq_eq_false_iff_ne]; omega
          simp only [e1, e2, cond_true, cond_false, Option.bind_some]
        · have e1 : decide (((X / 18446744073709551616 : Nat) : Int) < ((Y / 18446744073709551616 : Nat) : Int)) = false := by rw [decide_eq_false_iff_not]; omega
          have e2 : (((X / 18446744073709551616 : Nat) : Int) == ((Y / 18446744073709551616 : Nat) : Int)) = true := by rw [beq_iff_eq]; omega
          have e3 : decide (((X % 18446744073709551616 : Nat) : Int) < ((Y % 18446744073709551616 : Nat) : Int)) = false := by rw [decide_eq_false_iff_not]; omega
          have e4 : (((X % 18446744073709551616 : Nat) : Int) == ((Y % 18446744073709551616 : Nat) : Int)) = false := by rw [beq_eq_false_iff_ne]; omega
          simp only [e1, e2, e3, e4, cond_true, cond_false, Option.bind_some]
end Go.Fx.D

/-
  Laws over plain data: true at all inputs. Conditions: none.
-/
import Derived.Test.YtljanmldkldggaaW
namespace Go.Fx.D
open Go Go.Fx
set_option linter.unusedVariables false
set_option linter.unusedSimpArgs false

/-- what is nothing is a part of one -/
def nm (n a : Int) : Int := if n = 0 then 1 else a

theorem two_words (X Y : Nat) : (((bif decide (((X / 1125899906842624 : Nat) : Int) < ((Y / 1125899906842624 : Nat) : Int)) then some true else
    bif ((X / 1125899906842624 : Nat) : Int) == ((Y / 1125899906842624 : Nat) : Int) then some (decide (((X % 1125899906842624 : Nat) : Int) < ((Y % 1125899906842624 : Nat) : Int))) else some false) : Option Bool) = some (decide (X < Y))) ∧
    (((bif ((X / 1125899906842624 : Nat) : Int) == ((Y / 1125899906842624 : Nat) : Int) then some (((X % 1125899906842624 : Nat) : Int) == ((Y % 1125899906842624 : Nat) : Int)) else some false) : Option Bool) = some (decide (X = Y))) := by
  have t1 : ((((X / 1125899906842624 : Nat) : Int) == ((Y / 1125899906842624 : Nat) : Int))) = decide (X / 1125899906842624 = Y / 1125899906842624) := by
    rw [Bool.eq_iff_iff, beq_iff_eq, decide_eq_true_eq]; omega
  have t2 : ((((X % 1125899906842624 : Nat) : Int) == ((Y % 1125899906842624 : Nat) : Int))) = decide (X % 1125899906842624 = Y % 1125899906842624) := by
    rw [Bool.eq_iff_iff, beq_iff_eq, decide_eq_true_eq]; omega
  rw [t1, t2]
  constructor
  · by_cases h : X / 1125899906842624 < Y / 1125899906842624
    · rw [decide_eq_true (by omega : ((X / 1125899906842624 : Nat) : Int) < ((Y / 1125899906842624 : Nat) : Int)), decide_eq_true (by omega : X < Y)]; rfl
    · rw [decide_eq_false (by omega : ¬ ((X / 1125899906842624 : Nat) : Int) < ((Y / 1125899906842624 : Nat) : Int))]
      by_cases k : X / 1125899906842624 = Y / 1125899906842624
      · rw [decide_eq_true k]
        simp only [cond_true, cond_false, Option.some.injEq, decide_eq_decide]
        omega
      · rw [decide_eq_false k, decide_eq_false (by omega : ¬ X < Y)]; rfl
  · by_cases k : X / 1125899906842624 = Y / 1125899906842624
    · rw [decide_eq_true k]
      simp only [cond_true, Option.some.injEq, decide_eq_decide]
      omega
    · rw [decide_eq_false k, decide_eq_false (by omega : ¬ X = Y)]; rfl

theorem rorder_nat (x a y b : Nat) (hx : x ≤ 1125899906842624) (ha : a ≤ 1125899906842624) (hy : y ≤ 1125899906842624) (hb : b ≤ 1125899906842624) :
    dispatchref1_order ⟨(x : Int), (a : Int)⟩ ⟨(y : Int), (b : Int)⟩ = some (cmp x (nm x a) y (nm y b)) := by
  unfold dispatchref1_order
  have n1 : ((bif ((x : Int) == 0) then some (⟨(x : Int), 1⟩ : Frac) else some ⟨(x : Int), (a : Int)⟩) : Option Frac) = some ⟨(x : Int), nm x a⟩ := by
    unfold nm
    by_cases h : (x : Int) = 0
    · rw [if_pos h, (beq_iff_eq.2 h : ((x : Int) == 0) = true)]; rfl
    · rw [if_neg h, (beq_eq_false_iff_ne.2 h : ((x : Int) == 0) = false)]; rfl
  have n2 : ((bif ((y : Int) == 0) then some (⟨(y : Int), 1⟩ : Frac) else some ⟨(y : Int), (b : Int)⟩) : Option Frac) = some ⟨(y : Int), nm y b⟩ := by
    unfold nm
    by_cases h : (y : Int) = 0
    · rw [if_pos h, (beq_iff_eq.2 h : ((y : Int) == 0) = true)]; rfl
    · rw [if_neg h, (beq_eq_false_iff_ne.2 h : ((y : Int) == 0) = false)]; rfl
  dsimp only
  rw [n1, n2]
  obtain ⟨a', ha', ea⟩ : ∃ k : Nat, k ≤ 1125899906842624 ∧ nm x a = (k : Int) := by
    unfold nm
    split
    · exact ⟨1, by omega, rfl⟩
    · exact ⟨a, ha, rfl⟩
  obtain ⟨b', hb', eb⟩ : ∃ k : Nat, k ≤ 1125899906842624 ∧ nm y b = (k : Int) := by
    unfold nm
    split
    · exact ⟨1, by omega, rfl⟩
    · exact ⟨b, hb, rfl⟩
  rw [ea, eb]
  dsimp only [Option.bind_some]
  unfold cmp
  by_cases h0 : a' = 0
  · subst h0
    by_cases k0 : b' = 0
    · subst k0; rfl
    · have e : (((b' : Nat) : Int) == 0) = false := by rw [beq_eq_false_iff_ne]; omega
      rw [if_pos (show (((0 : Nat) : Int)) = 0 from rfl), if_neg (show ¬ ((b' : Nat) : Int) = 0 by omega)]
      simp [e]
  · have e0 : (((a' : Nat) : Int) == 0) = false := by rw [beq_eq_false_iff_ne]; omega
    rw [if_neg (show ¬ ((a' : Nat) : Int) = 0 by omega)]
    by_cases k0 : b' = 0
    · subst k0
      rw [if_pos (show (((0 : Nat) : Int)) = 0 from rfl)]
      simp [e0]
    · have e1 : (((b' : Nat) : Int) == 0) = false := by rw [beq_eq_false_iff_ne]; omega
      rw [if_neg (show ¬ ((b' : Nat) : Int) = 0 by omega), wide_eq x b' hx hb', wide_eq y a' hy ha', ← Int.natCast_mul, ← Int.natCast_mul]
      simp only [e0, e1, cond_false, Option.bind_some]
      obtain ⟨w1, w2⟩ := two_words (x * b') (y * a')
      rw [w1, w2]
      generalize x * b' = X
      generalize y * a' = Y
      simp only [Option.bind_some]
      rcases Nat.lt_trichotomy X Y with h | h | h
      · rw [decide_eq_true h, if_pos (by omega)]; rfl
      · rw [decide_eq_false (by omega : ¬ X < Y), decide_eq_true h, if_neg (by omega), if_pos (by omega)]; rfl
      · rw [decide_eq_false (by omega : ¬ X < Y), decide_eq_false (by omega : ¬ X = Y), if_neg (by omega), if_neg (by omega)]; rfl
end Go.Fx.D

/-
  Laws over plain data: true at all inputs. Conditions: none.
-/
import Derived.Test.YtnmgbgbedngcmaaP
namespace Go.Fx.D
open Go Go.Fx
set_option linter.unusedVariables false
set_option linter.unusedSimpArgs false

/-! the comparison -/
def rc (a b : Rest) : Int := if b.left < a.left then -1 else if a.left < b.left then 1 else if a.at_ < b.at_ then -1 else if b.at_ < a.at_ then 1 else 0
theorem cmp_eq (x y : Int) : cmp_Compare_int_ x y = some (if x < y then -1 else if y < x then 1 else 0) := by
  unfold cmp_Compare_int_ cmp_isNaN_int_
  simp only [bne_self_eq_false, Option.bind_some, cond_false]
  by_cases h : x < y
  · rw [decide_eq_true h, if_pos h]; rfl
  · rw [decide_eq_false h, if_neg h]
    by_cases h2 : y < x
    · rw [decide_eq_true h2, if_pos h2]; rfl
    · rw [decide_eq_false h2, if_neg h2]; rfl
theorem or_eq (x y : Int) : cmp_Or_int_ [x, y] = some (if x = 0 then y else x) := by
  unfold cmp_Or_int_
  have s0 : cmp_Or_int__l1 [x, y] 0 = if x = 0 then some (.inl 1) else some (.inr (.inl x)) := by
    unfold cmp_Or_int__l1
    have : idx [x, y] 0 = some x := rfl
    simp only [this, show decide ((0 : Int) < (([x, y] : List Int).length : Int)) = true from rfl, cond_true, Option.bind_some]
    by_cases h : x = 0
    · subst h; rfl
    · have : (x != 0) = true := by simpa using h
      rw [this, if_neg h]; rfl
  have s1 : cmp_Or_int__l1 [x, y] 1 = if y = 0 then some (.inl 2) else some (.inr (.inl y)) := by
    unfold cmp_Or_int__l1
    have : idx [x, y] 1 = some y := rfl
    simp only [this, show decide ((1 : Int) < (([x, y] : List Int).length : Int)) = true from rfl, cond_true, Option.bind_some]
    by_cases h : y = 0
    · subst h; rfl
    · have : (y != 0) = true := by simpa using h
      rw [this, if_neg h]; rfl
  have s2 : cmp_Or_int__l1 [x, y] 2 = some (.inr (.inr ())) := rfl
  rw [loop_eq, s0]
  by_cases h : x = 0
  · rw [if_pos h, if_pos h]
    dsimp only
    rw [loop_eq, s1]
    by_cases h2 : y = 0
    · rw [if_pos h2]
      dsimp only
      rw [loop_eq, s2, h2]
      rfl
    · rw [if_neg h2]; rfl
  · rw [if_neg h, if_neg h]; rfl
theorem compare_eq (a b : Rest) : split_rest_compare a b = some (rc a b) := by
  unfold split_rest_compare
  rw [cmp_eq, cmp_eq]
  simp only [Option.bind_some]
  rw [or_eq]
  simp only [Option.bind_some, Option.some.injEq]
  unfold rc
  repeat' split
  all_goals omega

/-- 'a' stands ahead of 'b' -/
def ahd (a b : Rest) : Bool := decide (b.left < a.left) || (decide (a.left = b.left) && decide (a.at_ < b.at_))
theorem ahd_iff (a b : Rest) : ahd a b = true ↔ b.left < a.left ∨ (a.left = b.left ∧ a.at_ < b.at_) := by simp [ahd]
theorem lt_eq : Proofs.ltOf (cfOf (F := fam) (t := .st 0) fun a => split_rest_compare a.1 a.2.1) = ahd := by
  funext a b
  unfold Proofs.ltOf cfOf
  show decide ((split_rest_compare a b).getD 0 < 0) = ahd a b
  rw [compare_eq]
  simp only [Option.getD_some]
  have : decide (rc a b < 0) = ahd a b := by
    have h := ahd_iff a b
    rw [Bool.eq_iff_iff, decide_eq_true_eq, h]
    unfold rc
    repeat' split
    all_goals omega
  exact this
theorem ahd_false (a b : Rest) : ahd a b = false ↔ ¬ (b.left < a.left ∨ (a.left = b.left ∧ a.at_ < b.at_)) := by
  rw [← ahd_iff]; simp

theorem sort_eq (l : List Rest) (hl : l.length ≤ 1000000) : split_rest_ l (fun a => split_rest_compare a.1 a.2.1) = some (l.mergeSort fun x y => !(ahd y x)) := by
  unfold split_rest_ sortF
  rw [lt_eq]
  refine if_pos ⟨fun x y => ⟨_, compare_eq x y⟩, ⟨?_, ?_, ?_⟩, ?_, by omega⟩
  · intro x; rw [ahd_false]; omega
  · intro x y z h1 h2
    rw [ahd_iff] at *
    omega
  · intro x y z h1 h2
    rw [ahd_false] at *
    omega
  · intro x y h1 h2
    rw [ahd_false] at h1 h2
    obtain ⟨a, b⟩ := x
    obtain ⟨c, d⟩ := y
    dsimp only at h1 h2
    have e1 : a = c := by omega
    have e2 : b = d := by omega
    rw [e1, e2]

/-- who has one more -/
structure Chosen (R : Nat → Int) (n k : Nat) (T : Nat → Bool) : Prop where
  cnt : S (fun i => if T i then 1 else 0) n = k
  bef : ∀ i j, i < n → j < n → T i = true → T j = false → R j < R i ∨ (R i = R j ∧ i < j)

theorem Chosen.uniq {R R' : Nat → Int} {n k : Nat} {T T' : Nat → Bool} (h : Chosen R n k T) (h' : Chosen R' n k T') (hR : ∀ i j, i < n → j < n → (R j < R i ↔ R' j < R' i)) : ∀ i, i < n → T i = T' i := by
  -- one that is in T alone and one that is in T' alone cannot both be
  have no : ∀ i j, i < n → j < n → T i = true → T' i = false → T j = false → T' j = true → False := by
    intro i j hi hj a b c d
    have h1 := h.bef i j hi hj a c
    have h2 := h'.bef j i hj hi d b
    have r1 := hR i j hi hj
    have r2 := hR j i hj hi
    omega
  have sums : S (fun i => (if T i then 1 else 0)) n = S (fun i => (if T' i then 1 else 0)) n := by rw [h.cnt, h'.cnt]
  by_cases hc : ∃ i, i < n ∧ T i = true ∧ T' i = false
  · obtain ⟨i, hi, a, b⟩ := hc
    exfalso
    have hle : ∀ j, j < n → (if T' j then (1 : Int) else 0) ≤ (if T j then 1 else 0) := by
      intro j hj
      cases hT : T j <;> cases hT' : T' j <;> simp
      exact no i j hi hj a b hT hT'
    have : S (fun j => (if T j then (1 : Int) else 0) - (if T' j then 1 else 0)) n = 0 := by
      have := S_add (f := fun j => (if T j then (1 : Int) else 0) - (if T' j then 1 else 0)) (g := fun j => (if T' j then (1 : Int) else 0)) (n := n)
      rw [S_congr (g := fun j => if T j then (1 : Int) else 0) (fun j hj => by omega)] at this
      omega
    have z := S_zero (fun j hj => by have := hle j hj; omega) this i hi
    simp only [a, b, if_true, Bool.false_eq_true, if_false] at z
    omega
  · have hle : ∀ j, j < n → (if T j then (1 : Int) else 0) ≤ (if T' j then 1 else 0) := by
      intro j hj
      cases hT : T j <;> cases hT' : T' j <;> simp
      exact hc ⟨j, hj, hT, hT'⟩
    have : S (fun j => (if T' j then (1 : Int) else 0) - (if T j then 1 else 0)) n = 0 := by
      have := S_add (f := fun j => (if T' j then (1 : Int) else 0) - (if T j then 1 else 0)) (g := fun j => (if T j then (1 : Int) else 0)) (n := n)
      rw [S_congr (g := fun j => if T' j then (1 : Int) else 0) (fun j hj => by omega)] at this
      omega
    intro i hi
    have z := S_zero (fun j hj => by have := hle j hj; omega) this i hi
    cases hT : T i <;> cases hT' : T' i <;> simp [hT, hT'] at z ⊢

/-- what is left to be given by one's -/
theorem left_eq {n : Nat} {w : Nat → Int} {c all : Int} (hw : ∀ i, i < n → 0 ≤ w i) (hc : 0 ≤ c) (ha : all = S w n) (hp : 0 < all) :
    all * (c - S (fun i => c * w i / all) n) = S (fun i => c * w i % all) n ∧ 0 ≤ c - S (fun i => c * w i / all) n ∧ c - S (fun i => c * w i / all) n ≤ n := by
  have e1 : S (fun i => all * (c * w i / all) + c * w i % all) n = S (fun i => c * w i) n := S_congr fun i hi => Int.mul_ediv_add_emod _ _
  rw [S_add, S_mul, S_mul, ← ha] at e1
  have e2 : all * (c - S (fun i => c * w i / all) n) = S (fun i => c * w i % all) n := by
    rw [Int.mul_sub, Int.mul_comm all c]
    omega
  have r0 : 0 ≤ S (fun i => c * w i % all) n := S_nonneg fun i hi => Int.emod_nonneg _ (by omega)
  have r1 : S (fun i => c * w i % all) n ≤ S (fun _ => all) n := S_le fun i hi => Int.le_of_lt (Int.emod_lt_of_pos _ hp)
  rw [S_const] at r1
  refine ⟨e2, ?_, ?_⟩
  · rw [← e2] at r0
    exact Int.nonneg_of_mul_nonneg_right r0 hp
  · rw [← e2, Int.mul_comm (n : Int) all] at r1
    exact Int.le_of_mul_le_mul_left r1 hp
end Go.Fx.D

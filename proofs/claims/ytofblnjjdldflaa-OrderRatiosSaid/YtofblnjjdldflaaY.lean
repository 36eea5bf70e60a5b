/-
  Laws over plain data: true at all inputs. Conditions: none.
-/
import Derived.Test.YtofblnjjdldflaaX
namespace Go.Fx.D
open Go Go.Fx
set_option linter.unusedVariables false
set_option linter.unusedSimpArgs false
set_option maxRecDepth 100000

section
variable {n : Nat} {U G : Nat → Int} {A : List App} {C : List Cont}

theorem total_sT : share_Total (sT n G A C) 0 = some ⟨100, 100⟩ := by
  unfold share_Total
  rw [iter_loop (n := 3) (r := [⟨100, 100⟩]) (by kernel_rfl)]
  simp only [Option.bind_some]
  rw [sum_eq (l := [⟨100, 100⟩]) (fun x hx => by rw [List.mem_singleton] at hx; rw [hx]; unfold Few; decide) (by simp)]
  simp [sumV]

theorem up_P {i : Nat} (hi : i < 4) : rule_Up (P i) = some [P i, root] := by
  have key : ∀ i, i < 4 → c_rule_Up (P i) = some [P i, root] := by
    intro i hi
    match i, hi with
    | 0, _ => exact (by kernel_rfl : c_rule_Up (P 0) = some [P 0, root])
    | 1, _ => exact (by kernel_rfl : c_rule_Up (P 1) = some [P 1, root])
    | 2, _ => exact (by kernel_rfl : c_rule_Up (P 2) = some [P 2, root])
    | 3, _ => exact (by kernel_rfl : c_rule_Up (P 3) = some [P 3, root])
    | i + 4, hi => omega
  exact (le_rule_Up _).ok _ (key i hi)

theorem find_P (h2 : 2 ≤ n) (h4 : n ≤ 4) {i : Nat} (hi : i < n) : rule_Find ⟨[[]], QL n G⟩ (P i) = some (⟨P i, [⟨G i, 10000⟩], 1⟩, true) := by
  have key : c_rule_Find ⟨[[]], QL n G⟩ (P i) = some (⟨P i, [⟨G i, 10000⟩], 1⟩, true) := by
    match n, h2, h4, i, hi with
    | 2, _, _, 0, _ => exact (by kernel_rfl : c_rule_Find ⟨[[]], QL 2 G⟩ (P 0) = some (⟨P 0, [⟨G 0, 10000⟩], 1⟩, true))
    | 2, _, _, 1, _ => exact (by kernel_rfl : c_rule_Find ⟨[[]], QL 2 G⟩ (P 1) = some (⟨P 1, [⟨G 1, 10000⟩], 1⟩, true))
    | 3, _, _, 0, _ => exact (by kernel_rfl : c_rule_Find ⟨[[]], QL 3 G⟩ (P 0) = some (⟨P 0, [⟨G 0, 10000⟩], 1⟩, true))
    | 3, _, _, 1, _ => exact (by kernel_rfl : c_rule_Find ⟨[[]], QL 3 G⟩ (P 1) = some (⟨P 1, [⟨G 1, 10000⟩], 1⟩, true))
    | 3, _, _, 2, _ => exact (by kernel_rfl : c_rule_Find ⟨[[]], QL 3 G⟩ (P 2) = some (⟨P 2, [⟨G 2, 10000⟩], 1⟩, true))
    | 4, _, _, 0, _ => exact (by kernel_rfl : c_rule_Find ⟨[[]], QL 4 G⟩ (P 0) = some (⟨P 0, [⟨G 0, 10000⟩], 1⟩, true))
    | 4, _, _, 1, _ => exact (by kernel_rfl : c_rule_Find ⟨[[]], QL 4 G⟩ (P 1) = some (⟨P 1, [⟨G 1, 10000⟩], 1⟩, true))
    | 4, _, _, 2, _ => exact (by kernel_rfl : c_rule_Find ⟨[[]], QL 4 G⟩ (P 2) = some (⟨P 2, [⟨G 2, 10000⟩], 1⟩, true))
    | 4, _, _, 3, _ => exact (by kernel_rfl : c_rule_Find ⟨[[]], QL 4 G⟩ (P 3) = some (⟨P 3, [⟨G 3, 10000⟩], 1⟩, true))
    | n + 5, _, h, _, _ => omega
    | 2, _, _, i + 2, h => omega
    | 3, _, _, i + 3, h => omega
    | 4, _, _, i + 4, h => omega
  exact (le_rule_Find _ _).ok _ key

theorem least_ok (h2 : 2 ≤ n) (h4 : n ≤ 4) {i : Nat} (hi : i < n) (g0 : 0 ≤ G i) (g1 : G i ≤ 10000) : share_Least (sT n G A C) (P i) 0 = some ⟨100 * G i / 10000, 100 * G i / 10000⟩ := by
  have hsc := scale_le (x := ⟨100, 100⟩) (by unfold Ok; decide) g0 g1
  have s0 : share_down_l1 (sT n G A C) 0 (fun a' => share_capacity_least a'.1) [P i, root] (⟨0, 0⟩, ⟨100, 100⟩, 0) = some (.inl (⟨0, 0⟩, ⟨100 * G i / 10000, 100 * G i / 10000⟩, -1)) := by
    unfold share_down_l1
    have hf : rule_Find (sT n G A C).Conf (P i) = some (⟨P i, [⟨G i, 10000⟩], 1⟩, true) := find_P h2 h4 hi
    have e1 : inb 0 ([P i, root] : List (List UInt8)).length = some 0 := rfl
    have e2 : ([P i, root] : List (List UInt8))[0]? = some (P i) := rfl
    rw [show decide ((0 : Int) ≥ 0) = true from rfl]
    dsimp only
    simp only [cond_true, e1, Option.bind_some, e2, hf]
    have e0 : inb 0 ([⟨G i, 10000⟩] : List Cap).length = some 0 := rfl
    have e3 : ([⟨G i, 10000⟩] : List Cap)[0]? = some ⟨G i, 10000⟩ := rfl
    have e4 : (bif !(true : Bool) then some true else bif decide ((0 : Int) < 0) then some true else some (decide ((0 : Int) ≥ (([⟨G i, 10000⟩] : List Cap).length : Int))) : Option Bool) = some false := rfl
    rw [e4]
    simp only [Option.bind_some, cond_false]
    rw [e0]
    simp only [Option.bind_some]
    rw [e3]
    have e5 : share_capacity_least ⟨G i, 10000⟩ = some (G i) := rfl
    simp only [Option.bind_some, e5, hsc.1]
    rfl
  have hd : share_down (sT n G A C) (P i) 0 (fun a' => share_capacity_least a'.1) = some ⟨100 * G i / 10000, 100 * G i / 10000⟩ := by
    unfold share_down
    have hf : rule_Find (sT n G A C).Conf (P i) = some (⟨P i, [⟨G i, 10000⟩], 1⟩, true) := find_P h2 h4 hi
    rw [up_P (by omega), hf, total_sT]
    simp only [Option.bind_some, Bool.not_true, cond_false]
    have e : w64 ((([P i, root] : List (List UInt8)).length : Int) - 2) = 0 := rfl
    rw [e, loop_next s0, loop_out (r := .inr (⟨0, 0⟩, ⟨100 * G i / 10000, 100 * G i / 10000⟩)) (by unfold share_down_l1; rfl)]
    rfl
  unfold share_Least
  rw [hd]
  rfl

theorem rkids (h2 : 2 ≤ n) (h4 : n ≤ 4) : rule_Kids ⟨[[]], QL n G⟩ root = some ((List.range n).map P) := by
  have key : c_rule_Kids ⟨[[]], QL n G⟩ root = some ((List.range n).map P) := by
    match n, h2, h4 with
    | 2, _, _ => exact (by kernel_rfl : c_rule_Kids ⟨[[]], QL 2 G⟩ root = some ((List.range 2).map P))
    | 3, _, _ => exact (by kernel_rfl : c_rule_Kids ⟨[[]], QL 3 G⟩ root = some ((List.range 3).map P))
    | 4, _, _ => exact (by kernel_rfl : c_rule_Kids ⟨[[]], QL 4 G⟩ root = some ((List.range 4).map P))
    | n + 5, _, h => omega
  exact (le_rule_Kids _ _).ok _ key

/-- the program's order -/
theorem kids_ok (h2 : 2 ≤ n) (h4 : n ≤ 4) (h : Ac n U A C) (hU : ∀ i, i < n → 0 ≤ U i ∧ U i ≤ 100) (hG : ∀ i, i < n → 0 ≤ G i ∧ G i ≤ 10000) :
    ∃ r : List Load, order_Kids (sT n G A C) root 0 = some (r.map (·.path)) ∧ r.Perm ((List.range n).map fun i => ld i (U i) (100 * G i / 10000)) ∧ r.Pairwise LtL := by
  obtain ⟨r, r1, r2, r3⟩ := sortL_ok n h4 U (fun i => 100 * G i / 10000) (fun i hi => by have := hU i hi; omega) (fun i hi => by have := hG i hi; omega)
  refine ⟨r, ?_, r2, r3⟩
  have e1 : loop (order_Kids_l1 (sT n G A C) 0 ((List.range n).map P)) ([], 0) = some ((List.range n).map fun i => ld i (U i) (100 * G i / 10000)) := by
    obtain ⟨v, e1, e2⟩ := loop_inv (fun (v : List Load) k => (v, k)) (order_Kids_l1 (sT n G A C) 0 ((List.range n).map P)) n (fun k v => v = (List.range k).map fun i => ld i (U i) (100 * G i / 10000)) id
      (by
        intro k hk v hv
        refine ⟨_, ?_, rfl⟩
        have d1 : decide ((k : Int) < (((List.range n).map P).length : Int)) = true := by rw [decide_eq_true_iff]; simp; omega
        have hin : inb (k : Int) ((List.range n).map P).length = some k := by unfold inb; rw [Int.toNat_natCast, if_pos ⟨by omega, by simp; exact hk⟩]
        have g1 : ((List.range n).map P)[k]? = some (P k) := by simp [hk]
        have a1 : app 48 v [(⟨P k, ⟨U k, U k⟩, ⟨100 * G k / 10000, 100 * G k / 10000⟩⟩ : Load)] = some (v ++ [ld k (U k) (100 * G k / 10000)]) := app_ok (by rw [hv]; simp; omega) (by omega)
        unfold order_Kids_l1
        simp only [d1, cond_true, hin, Option.bind_some, g1]
        rw [used_ok h4 h hk, least_ok h2 h4 hk (hG k hk).1 (hG k hk).2]
        simp only [Option.bind_some, a1]
        rw [step_succ (by omega), List.range_succ, List.map_append, hv]
        rfl)
      (by
        intro v hv
        have : decide ((n : Int) < (((List.range n).map P).length : Int)) = false := by rw [decide_eq_false_iff_not]; simp
        unfold order_Kids_l1
        simp only [this, cond_false, id]) (s := ([] : List Load)) (by simp)
    rw [e1, e2]; rfl
  unfold order_Kids
  have hk : rule_Kids (sT n G A C).Conf root = some ((List.range n).map P) := rkids h2 h4
  rw [hk]
  simp only [Option.bind_some]
  rw [e1]
  simp only [Option.bind_some]
  rw [r1]
  have hrl : r.length = n := by rw [r2.length_eq]; simp
  have hm : mkl 16 (r.length : Int) (r.length : Int) ([] : List UInt8) = some (List.replicate r.length []) := by
    unfold mkl
    rw [if_pos ⟨by omega, by omega, by unfold maxLen; simp; omega, by simp; omega⟩]
    simp
  simp only [Option.bind_some, hm, kids_out r (by omega)]
end
end Go.Fx.D

/-
  Laws over plain data: true at all inputs. Conditions: none.
-/
import Derived.Test.YtfpkhbclbhghnaaC
import Derived.Test.YtfpkhbclbhghnaaFxB
namespace Go.Fx.D
open Go Go.Fx
set_option linter.unusedVariables false
set_option linter.unusedSimpArgs false

theorem w64_id {x : Int} (h1 : -9223372036854775808 ≤ x) (h2 : x < 9223372036854775808) : w64 x = x := by
  simp only [w64, IntKind.wrap, IntKind.bits, IntKind.signed]
  simp
  omega

theorem within_eq {at_ n : Int} (h1 : 0 < n) (h2 : n ≤ 4611686018427387904) : dispatchlaw7_within at_ n = some (at_ % n) := by
  unfold dispatchlaw7_within
  have hz : nz n = some () := by unfold nz; rw [if_pos (by omega)]
  have e : Int.tmod at_ n = if at_ % n = 0 then 0 else if 0 ≤ at_ then at_ % n else at_ % n - n := by
    rw [Int.tmod_eq_emod]
    have b1 := Int.emod_nonneg at_ (show n ≠ 0 by omega)
    have b2 := Int.emod_lt_of_pos at_ h1
    split
    · rename_i h
      rcases h with h | h
      · split
        · rename_i h0; rw [h0]; rfl
        · simp
      · rw [Int.emod_eq_zero_of_dvd h]; rfl
    · rename_i h
      have h3 : ¬ 0 ≤ at_ := fun h' => h (.inl h')
      have h4 : ¬ n ∣ at_ := fun h' => h (.inr h')
      rw [if_neg (fun h5 => h4 (Int.dvd_of_emod_eq_zero h5)), if_neg h3]
      have : (n.natAbs : Int) = n := Int.natAbs_of_nonneg (by omega)
      omega
  have b1 := Int.emod_nonneg at_ (show n ≠ 0 by omega)
  have b2 := Int.emod_lt_of_pos at_ h1
  rw [hz]
  simp only [Option.bind_some]
  by_cases h0 : at_ % n = 0
  · rw [if_pos h0] at e
    rw [e]
    simp [h0]
  · rw [if_neg h0] at e
    by_cases hp : 0 ≤ at_
    · rw [if_pos hp] at e
      rw [e, decide_eq_false (by omega)]
      rfl
    · rw [if_neg hp] at e
      rw [e, decide_eq_true (by omega)]
      simp only [cond_true, Option.bind_some]
      rw [w64_id (by omega) (by omega)]
      congr 1
      omega

abbrev root : List UInt8 := [114, 111, 111, 116]

theorem lib_root : bytealg_LastIndexByteString root 46 = some (-1) := by
  unfold bytealg_LastIndexByteString
  dsimp only
  rw [iter_loop (n := 8) (r := .inr ()) (by kernel_rfl)]
  rfl
theorem above_root : rule_above root = some ([], false) := by
  unfold rule_above strings_LastIndex
  have : bytealg_LastIndexByteString root (((46 : UInt8).toNat : Nat) : Int) = some (-1) := lib_root
  simp only [idx]
  rw [show (([46] : List UInt8).length : Int) = 1 from rfl]
  simp only [show ((1 : Int) == 0) = false from rfl, show ((1 : Int) == 1) = true from rfl, cond_true, cond_false]
  rw [show (if (0 : Int) ≤ 0 then ([46] : List UInt8)[(0 : Int).toNat]? else none) = some 46 from rfl]
  simp only [Option.bind_some]
  rw [this]
  rfl
theorem up_root : rule_Up root = some [root] := by
  unfold rule_Up
  have s1 : rule_Up_l1 (root, []) = some (.inl ([], [root])) := by
    unfold rule_Up_l1
    rw [above_root]
    rfl
  rw [loop_eq, s1]
  dsimp only
  rw [loop_eq]
  rfl

theorem find_root (l : List (List UInt8)) (caps : List Cap) (u : Int) (q : List Queue) (h : caps.length ≤ 100) : rule_Find ⟨l, ⟨root, caps, u⟩ :: q⟩ root = some (⟨root, caps, u⟩, true) := by
  unfold rule_Find api_Queue_
  have e1 : loop (api_Queue__l1 (⟨root, caps, u⟩ :: q) fun a => rule_Find_1 a.1 root) 0 = some (.inl 0) := by
    rw [loop_eq]
    have : api_Queue__l1 (⟨root, caps, u⟩ :: q) (fun a => rule_Find_1 a.1 root) 0 = some (.inr (.inl 0)) := by
      unfold api_Queue__l1 rule_Find_1
      have h1 : decide ((0 : Int) < ((⟨root, caps, u⟩ :: q : List Queue).length : Int)) = true := by rw [decide_eq_true_eq, List.length_cons]; omega
      have h2 : idx (⟨root, caps, u⟩ :: q) 0 = some ⟨root, caps, u⟩ := rfl
      simp only [h1, h2, cond_true, Option.bind_some]
      rfl
    rw [this]
  have e2 : api_Cap_ caps = some caps := by
    unfold api_Cap_ app
    rw [if_pos]
    · rfl
    · simp only [List.nil_append]; unfold maxLen; omega
  rw [e1]
  have h2 : idx (⟨root, caps, u⟩ :: q) 0 = some ⟨root, caps, u⟩ := rfl
  simp only [Option.bind_some, show decide ((0 : Int) < 0) = false from rfl, cond_false, h2, e2]

/-- loops over a list of which the round number is the place -/
theorem down_root (s : State) (label : Int) (f : TupT fam [.st 0] → Option Int) (l : List (List UInt8)) (caps : List Cap) (u : Int) (q : List Queue) (h : caps.length ≤ 100) (hs : s.Conf = ⟨l, ⟨root, caps, u⟩ :: q⟩) : share_down s root label f = share_Total s label := by
  unfold share_down
  rw [up_root, hs, find_root l caps u q h]
  simp only [Option.bind_some, Bool.not_true, cond_false]
  cases share_Total s label with
  | none => rfl
  | some x =>
    simp only [Option.bind_some]
    rw [loop_eq]
    rfl

theorem known_eq : dispatchlaw7_known = some true := by
  have t0 : share_Total ⟨⟨[([] : List UInt8)], [(⟨root, [(⟨10000, 10000⟩ : Cap)], 10000⟩ : Queue)]⟩, [], [], [], [], [], 0, 0, 0⟩ 0 = some ⟨0, 0⟩ := by
    unfold share_Total
    rw [iter_loop (n := 2) (r := []) (by kernel_rfl)]
    simp only [Option.bind_some]
    unfold share_sum
    rw [iter_loop (n := 2) (r := ⟨0, 0⟩) (by kernel_rfl)]
    rfl
  have t1 : share_Total ⟨⟨[([] : List UInt8)], [(⟨root, [(⟨10000, 10000⟩ : Cap)], 10000⟩ : Queue)]⟩, [(⟨0, 0, 0, ⟨8, 4⟩, 0, 0, true⟩ : Node)], [], [], [], [], 0, 0, 0⟩ 0 = some ⟨8, 4⟩ := by
    unfold share_Total
    rw [iter_loop (n := 3) (r := [⟨8, 4⟩]) (by kernel_rfl)]
    simp only [Option.bind_some]
    unfold share_sum
    rw [iter_loop (n := 3) (r := ⟨8, 4⟩) (by kernel_rfl)]
    rfl
  unfold dispatchlaw7_known dispatchref19_New share_Least share_Most
  simp only [Option.bind_some]
  rw [down_root _ _ _ _ _ _ _ (by decide) rfl, down_root _ _ _ _ _ _ _ (by decide) rfl, t0, t1]
  rfl
end Go.Fx.D

/-
  Laws over plain data: true at all inputs. Conditions: none.
-/
import Derived.Test.YtofblnjjdldflaaV
import Derived.Test.YtofblnjjdldflaaFxB
namespace Go.Fx.D
open Go Go.Fx
set_option linter.unusedVariables false
set_option linter.unusedSimpArgs false
set_option maxRecDepth 100000

theorem w64_id {x : Int} (h1 : -9223372036854775808 ≤ x) (h2 : x < 9223372036854775808) : w64 x = x := by
  simp only [w64, IntKind.wrap, IntKind.bits, IntKind.signed]
  simp
  omega

theorem within_eq {at_ n : Int} (h1 : 0 < n) (h2 : n ≤ 4611686018427387904) : dispatchlaw12_within at_ n = some (at_ % n) := by
  unfold dispatchlaw12_within
  have hz : nz n = some () := by unfold nz; rw [if_pos (by omega)]
  have e : Int.tmod at_ n = if at_ % n = 0 then 0 else if 0 ≤ at_ then at_ % n else at_ % n - n := by
    rw [Int.tmod_eq_emod]
    have b1 := Int.emod_nonneg at_ (show n ≠ 0 by omega)
    have b2 := Int.emod_lt_of_pos at_ h1
    split
    · rename_i h
      rcases h with h | h
      · split
        · rename_i h0; rw [h0]; rfl
        · simp
      · rw [Int.emod_eq_zero_of_dvd h]; rfl
    · rename_i h
      have h3 : ¬ 0 ≤ at_ := fun h' => h (.inl h')
      have h4 : ¬ n ∣ at_ := fun h' => h (.inr h')
      rw [if_neg (fun h5 => h4 (Int.dvd_of_emod_eq_zero h5)), if_neg h3]
      have : (n.natAbs : Int) = n := Int.natAbs_of_nonneg (by omega)
      omega
  have b1 := Int.emod_nonneg at_ (show n ≠ 0 by omega)
  have b2 := Int.emod_lt_of_pos at_ h1
  rw [hz]
  simp only [Option.bind_some]
  by_cases h0 : at_ % n = 0
  · rw [if_pos h0] at e
    rw [e]
    simp [h0]
  · rw [if_neg h0] at e
    by_cases hp : 0 ≤ at_
    · rw [if_pos hp] at e
      rw [e, decide_eq_false (by omega)]
      rfl
    · rw [if_neg hp] at e
      rw [e, decide_eq_true (by omega)]
      simp only [cond_true, Option.bind_some]
      rw [w64_id (by omega) (by omega)]
      congr 1
      omega

abbrev root : List UInt8 := [114, 111, 111, 116]

theorem lib_root : bytealg_LastIndexByteString root 46 = some (-1) := by
  unfold bytealg_LastIndexByteString
  dsimp only
  rw [iter_loop (n := 8) (r := .inr ()) (by kernel_rfl)]
  rfl
theorem above_root : rule_above root = some ([], false) := by
  unfold rule_above strings_LastIndex
  have : bytealg_LastIndexByteString root (((46 : UInt8).toNat : Nat) : Int) = some (-1) := lib_root
  simp only [idx]
  rw [show (([46] : List UInt8).length : Int) = 1 from rfl]
  simp only [show ((1 : Int) == 0) = false from rfl, show ((1 : Int) == 1) = true from rfl, cond_true, cond_false]
  rw [show (if (0 : Int) ≤ 0 then ([46] : List UInt8)[(0 : Int).toNat]? else none) = some 46 from rfl]
  simp only [Option.bind_some]
  rw [this]
  rfl
theorem up_root : rule_Up root = some [root] := by
  unfold rule_Up
  have s1 : rule_Up_l1 (root, []) = some (.inl ([], [root])) := by
    unfold rule_Up_l1
    rw [above_root]
    rfl
  rw [loop_eq, s1]
  dsimp only
  rw [loop_eq]
  rfl

theorem find_root (l : List (List UInt8)) (caps : List Cap) (u : Int) (q : List Queue) (h : caps.length ≤ 100) : rule_Find ⟨l, ⟨root, caps, u⟩ :: q⟩ root = some (⟨root, caps, u⟩, true) := by
  unfold rule_Find api_Queue_
  have e1 : loop (api_Queue__l1 (⟨root, caps, u⟩ :: q) fun a => rule_Find_1 a.1 root) 0 = some (.inl 0) := by
    rw [loop_eq]
    have : api_Queue__l1 (⟨root, caps, u⟩ :: q) (fun a => rule_Find_1 a.1 root) 0 = some (.inr (.inl 0)) := by
      unfold api_Queue__l1 rule_Find_1
      have h1 : decide ((0 : Int) < ((⟨root, caps, u⟩ :: q : List Queue).length : Int)) = true := by rw [decide_eq_true_eq, List.length_cons]; omega
      have h2 : idx (⟨root, caps, u⟩ :: q) 0 = some ⟨root, caps, u⟩ := rfl
      simp only [h1, h2, cond_true, Option.bind_some]
      rfl
    rw [this]
  have e2 : api_Cap_ caps = some caps := by
    unfold api_Cap_ app
    rw [if_pos]
    · rfl
    · simp only [List.nil_append]; unfold maxLen; omega
  rw [e1]
  have h2 : idx (⟨root, caps, u⟩ :: q) 0 = some ⟨root, caps, u⟩ := rfl
  simp only [Option.bind_some, show decide ((0 : Int) < 0) = false from rfl, cond_false, h2, e2]

/-- loops over a list of which the round number is the place -/
theorem down_root (s : State) (label : Int) (f : TupT fam [.st 0] → Option Int) (l : List (List UInt8)) (caps : List Cap) (u : Int) (q : List Queue) (h : caps.length ≤ 100) (hs : s.Conf = ⟨l, ⟨root, caps, u⟩ :: q⟩) : share_down s root label f = share_Total s label := by
  unfold share_down
  rw [up_root, hs, find_root l caps u q h]
  simp only [Option.bind_some, Bool.not_true, cond_false]
  cases share_Total s label with
  | none => rfl
  | some x =>
    simp only [Option.bind_some]
    rw [loop_eq]
    rfl


/-- rounds that count up to n, with what holds at each -/
theorem loop_inv {τ ρ σ : Type} (mk : σ → Int → τ) (step : τ → Option (τ ⊕ ρ)) (n : Nat) (Inv : Nat → σ → Prop) (fin : σ → ρ)
    (h1 : ∀ k, k < n → ∀ s, Inv k s → ∃ s', step (mk s (k : Int)) = some (.inl (mk s' ((k + 1 : Nat) : Int))) ∧ Inv (k + 1) s')
    (h2 : ∀ s, Inv n s → step (mk s (n : Int)) = some (.inr (fin s))) {s : σ} (h0 : Inv 0 s) : ∃ s', loop step (mk s 0) = some (fin s') ∧ Inv n s' := by
  have key : ∀ (m k : Nat), m + k = n → ∀ s, Inv k s → ∃ s', loop step (mk s (k : Int)) = some (fin s') ∧ Inv n s' := by
    intro m
    induction m with
    | zero =>
      intro k hk s hs
      have hk : k = n := by omega
      subst hk
      exact ⟨s, by rw [loop_eq, h2 s hs], hs⟩
    | succ m ih =>
      intro k hk s hs
      obtain ⟨s', e, hs'⟩ := h1 k (by omega) s hs
      rw [loop_eq, e]
      exact ih (k + 1) (by omega) s' hs'
  exact key n 0 rfl s h0

theorem idx_lt {α : Type} {l : List α} {k : Nat} (h : k < l.length) : idx l (k : Int) = some l[k] := by
  unfold idx
  rw [if_pos (by omega), Int.toNat_natCast, List.getElem?_eq_getElem h]
theorem app_ok {α : Type} {b : Nat} {l m : List α} (h : (l ++ m).length ≤ 1000000) (hb : b ≤ 100000) : app b l m = some (l ++ m) := by
  unfold app
  rw [if_pos]
  have : (l ++ m).length * b ≤ 1000000 * 100000 := Nat.mul_le_mul h hb
  unfold maxLen
  omega
theorem step_succ {k : Nat} (h : k < 1000000000) : w64 ((k : Int) + 1) = ((k + 1 : Nat) : Int) := by
  rw [w64_id (by omega) (by omega)]; omega

/-- small parts -/
def Few (v : Vec) : Prop := 0 ≤ v.Mem ∧ v.Mem ≤ 1073741824 ∧ 0 ≤ v.Cores ∧ v.Cores ≤ 1073741824
def sumV (l : List Vec) : Vec := ⟨(l.map (·.Mem)).sum, (l.map (·.Cores)).sum⟩
theorem sumV_app (l : List Vec) (v : Vec) : sumV (l ++ [v]) = ⟨(sumV l).Mem + v.Mem, (sumV l).Cores + v.Cores⟩ := by simp [sumV]
theorem sumV_bd {l : List Vec} (h : ∀ v ∈ l, Few v) : 0 ≤ (sumV l).Mem ∧ (sumV l).Mem ≤ l.length * 1073741824 ∧ 0 ≤ (sumV l).Cores ∧ (sumV l).Cores ≤ l.length * 1073741824 := by
  induction l with
  | nil => simp [sumV]
  | cons v l ih =>
    have h1 := ih (fun v hv => h v (by simp [hv]))
    have h2 := h v (by simp)
    unfold Few at h2
    simp only [sumV, List.map_cons, List.sum_cons, List.length_cons] at h1 ⊢
    rw [Int.natCast_add, Int.add_mul]
    omega

theorem add_few {a b : Vec} (h1 : 0 ≤ a.Mem) (h2 : 0 ≤ a.Cores) (h3 : a.Mem ≤ 562949953421312) (h4 : a.Cores ≤ 562949953421312) (hb : Few b) : rvec_Add a b = some (⟨a.Mem + b.Mem, a.Cores + b.Cores⟩, 0) := by
  have good : ∀ v : Vec, 0 ≤ v.Mem → 0 ≤ v.Cores → v.Mem ≤ 1125899906842624 → v.Cores ≤ 1125899906842624 → rvec_vec_good v = some true := by
    intro v g1 g2 g3 g4
    unfold rvec_vec_good
    rw [decide_eq_true (by omega), decide_eq_true (by omega), decide_eq_true (by omega), decide_eq_true (by omega)]
    rfl
  unfold Few at hb
  unfold rvec_Add rvec_over
  rw [good a (by omega) (by omega) (by omega) (by omega), good b (by omega) (by omega) (by omega) (by omega), w64_id (by omega) (by omega), w64_id (by omega) (by omega)]
  simp only [Option.bind_some, Bool.not_true, cond_false]
  rw [good _ (by dsimp only; omega) (by dsimp only; omega) (by dsimp only; omega) (by dsimp only; omega)]
  rfl

theorem sum_eq {l : List Vec} (h : ∀ v ∈ l, Few v) (hl : l.length ≤ 1000) : share_sum l = some (sumV l) := by
  unfold share_sum
  obtain ⟨v, e, hv⟩ := loop_inv (fun (v : Vec) k => (v, k)) (share_sum_l1 l) l.length (fun k v => v = sumV (l.take k)) (fun v => v) (by
    rintro k hk v rfl
    have hb := sumV_bd (l := l.take k) (fun v hv => h v (List.mem_of_mem_take hv))
    rw [List.length_take, Nat.min_eq_left (by omega)] at hb
    refine ⟨sumV (l.take (k + 1)), ?_, rfl⟩
    unfold share_sum_l1
    rw [decide_eq_true (by dsimp only; omega), idx_lt hk, step_succ (by omega)]
    simp only [cond_true, Option.bind_some]
    rw [add_few hb.1 hb.2.2.1 (by omega) (by omega) (h _ (List.getElem_mem hk)), List.take_succ_eq_append_getElem hk, sumV_app]
    rfl) (by
    rintro v rfl
    unfold share_sum_l1
    rw [decide_eq_false (by dsimp only; omega)]
    rfl) (s := ⟨0, 0⟩) rfl
  rw [e, hv, List.take_length]
  rfl


end Go.Fx.D

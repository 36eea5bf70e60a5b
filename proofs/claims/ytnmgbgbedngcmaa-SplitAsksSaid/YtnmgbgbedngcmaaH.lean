/-
  Laws over plain data: true at all inputs. Conditions: none.
-/
import Derived.Test.YtnmgbgbedngcmaaS
namespace Go.Fx.D
open Go Go.Fx
set_option linter.unusedVariables false
set_option linter.unusedSimpArgs false

/-- the places of those that are up -/
def upsOf (u : Nat → Bool) (k : Nat) : List Int := ((List.range k).filter u).map fun i : Nat => (i : Int)
theorem upsOf_succ (u : Nat → Bool) (k : Nat) : upsOf u (k + 1) = upsOf u k ++ (if u k then [(k : Int)] else []) := by
  unfold upsOf
  rw [List.range_succ, List.filter_append, List.map_append]
  cases h : u k <;> simp [List.filter_cons, h]
theorem upsOf_len (u : Nat → Bool) (k : Nat) : (upsOf u k).length ≤ k := by
  unfold upsOf
  rw [List.length_map]
  have := List.length_filter_le u (List.range k)
  simpa using this

theorem ups_loop {n : Nat} (hn : n ≤ 1000) (s : Nat → Sub) : loop (split_Home_l1 (tab n s)) ([], 0) = some (upsOf (fun i => (s i).Up) n) := by
  obtain ⟨v, e, hv⟩ := loop_inv (fun (v : List Int) k => (v, k)) (split_Home_l1 (tab n s)) n (fun k v => v = upsOf (fun i => (s i).Up) k) (fun v => v) (by
    rintro k hk v rfl
    refine ⟨_, ?_, rfl⟩
    unfold split_Home_l1
    have ei : idx (tab n s) (k : Int) = some (s k) := by
      unfold idx
      rw [if_pos (by omega), Int.toNat_natCast, tab_get hk]
    have hl := upsOf_len (fun i => (s i).Up) k
    rw [decide_eq_true (by dsimp only; rw [tab_len]; omega), step_succ (by omega)]
    dsimp only
    rw [ei, upsOf_succ]
    simp only [cond_true, Option.bind_some]
    cases h : (s k).Up with
    | true =>
      simp only [cond_true, if_true]
      rw [app_ok (by simp; omega) (by omega)]
      rfl
    | false => simp) (by
    rintro v rfl
    unfold split_Home_l1
    rw [decide_eq_false (by dsimp only; rw [tab_len]; omega)]
    rfl) (s := []) rfl
  rw [e, hv]

theorem home_eq {n : Nat} (hn : n ≤ 1000) (s : Nat → Sub) (app_ : Int) (h0 : 0 ≤ app_) : split_Home (tab n s) app_ = some (if (upsOf (fun i => (s i).Up) n).length = 0 then (0, 18) else ((upsOf (fun i => (s i).Up) n).getD (app_ % (upsOf (fun i => (s i).Up) n).length).toNat 0, 0)) := by
  unfold split_Home
  have l1 := ups_loop hn s
  rw [l1]
  simp only [Option.bind_some]
  rw [decide_eq_false (by omega)]
  simp only [cond_false]
  generalize upsOf (fun i => (s i).Up) n = U
  by_cases hU : U.length = 0
  · rw [if_pos hU]
    simp [hU]
  · rw [if_neg hU, show ((U.length : Int) == 0) = false from beq_eq_false_iff_ne.2 (by omega), nz_ok (by omega), Int.tmod_eq_emod_of_nonneg h0]
    have m0 := Int.emod_nonneg app_ (show (U.length : Int) ≠ 0 by omega)
    have m1 := Int.emod_lt_of_pos app_ (show 0 < (U.length : Int) by omega)
    obtain ⟨m, hm⟩ := Int.eq_ofNat_of_zero_le m0
    rw [hm, inb_lt (by omega)]
    simp only [cond_false, Option.bind_some, Int.toNat_natCast]
    rw [List.getElem?_eq_getElem (show m < U.length by omega)]
    simp only [Option.bind_some, Option.some.injEq, Prod.mk.injEq, and_true]
    rw [List.getD_eq_getElem?_getD, List.getElem?_eq_getElem (show m < U.length by omega)]
    rfl

theorem plainSplitHomes (ups : List Bool) (app_ : Int) (w0 : WfT fam (.slice .bool) ups) (w1 : WfT fam (.int .i64) app_) : dispatchlaw21_SplitHomes ups app_ = some true := by
  unfold dispatchlaw21_SplitHomes
  rw [known_eq]
  simp only [Option.bind_some, Bool.not_true, cond_false]
  generalize hn : min ups.length 4 = n
  generalize hu : (fun i => ups.getD i false) = u
  have l1 : loop (dispatchlaw21_SplitHomes_l1 ups) ([], [], 0) = some (tab n fun i => (⟨0, u i, [], 0⟩ : Sub), upsOf u n) := by
    obtain ⟨v, e, hv⟩ := loop_inv (fun (v : List Sub × List Int) k => (v.1, v.2, k)) (dispatchlaw21_SplitHomes_l1 ups) n (fun k v => v.1 = (tab k fun i => (⟨0, u i, [], 0⟩ : Sub)) ∧ v.2 = upsOf u k) (fun v => v) (by
      rintro k hk ⟨v1, v2⟩ ⟨h1, h2⟩
      dsimp only at h1 h2
      subst h1 h2
      refine ⟨(tab (k + 1) fun i => (⟨0, u i, [], 0⟩ : Sub), upsOf u (k + 1)), ?_, rfl, rfl⟩
      unfold dispatchlaw21_SplitHomes_l1
      have hl := upsOf_len u k
      have ek : ups[k]'(by omega) = u k := by rw [← hu]; simp [List.getD, show k < ups.length by omega]
      rw [decide_eq_true (show ((tab k fun i => (⟨0, u i, [], 0⟩ : Sub)), upsOf u k, (k : Int)).2.2 < (ups.length : Int) by dsimp only; omega), decide_eq_true (by dsimp only; omega), step_succ (by omega)]
      dsimp only
      simp only [cond_true, Option.bind_some]
      rw [idx_lt (by omega)]
      simp only [Option.bind_some, ek]
      rw [app_ok (by simp [tab_len]; omega) (by omega), tab_snoc k fun i => (⟨0, u i, [], 0⟩ : Sub), upsOf_succ]
      simp only [Option.bind_some]
      cases h : u k with
      | true =>
        simp only [cond_true, if_true]
        rw [app_ok (by simp; omega) (by omega)]
        rfl
      | false => simp) (by
      rintro ⟨v1, v2⟩ ⟨h1, h2⟩
      unfold dispatchlaw21_SplitHomes_l1
      by_cases h : n < ups.length
      · rw [decide_eq_true (by dsimp only; omega), decide_eq_false (by dsimp only; omega)]
        rfl
      · rw [decide_eq_false (by dsimp only; omega)]
        rfl) (s := ([], [])) ⟨rfl, rfl⟩
    rw [e]
    obtain ⟨v1, v2⟩ := v
    rw [← hv.1, ← hv.2]
  rw [l1]
  simp only [Option.bind_some]
  rw [within_eq (by omega) (by omega)]
  simp only [Option.bind_some]
  have a0 := Int.emod_nonneg app_ (show (10000 : Int) ≠ 0 by omega)
  rw [home_eq (by omega) _ _ a0]
  simp only [Option.bind_some]
  generalize app_ % 10000 = a at *
  have e2 : upsOf (fun i => (⟨0, u i, [], 0⟩ : Sub).Up) n = upsOf u n := rfl
  rw [e2]
  generalize upsOf u n = U
  by_cases hU : U.length = 0
  · rw [if_pos hU]
    simp [hU]
  · rw [if_neg hU, show ((U.length : Int) == 0) = false from beq_eq_false_iff_ne.2 (by omega), nz_ok (by omega), Int.tmod_eq_emod_of_nonneg a0]
    have m0 := Int.emod_nonneg a (show (U.length : Int) ≠ 0 by omega)
    have m1 := Int.emod_lt_of_pos a (show 0 < (U.length : Int) by omega)
    obtain ⟨m, hm⟩ := Int.eq_ofNat_of_zero_le m0
    rw [hm, inb_lt (by omega)]
    simp only [cond_false, cond_true, Option.bind_some, Int.toNat_natCast, beq_self_eq_true]
    rw [List.getElem?_eq_getElem (show m < U.length by omega)]
    simp [show m < U.length by omega]
end Go.Fx.D

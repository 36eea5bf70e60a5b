/-
  Laws over plain data: true at all inputs. Conditions: none.
-/
import Derived.Test.YtnmgbgbedngcmaaS
namespace Go.Fx.D
open Go Go.Fx
set_option linter.unusedVariables false
set_option linter.unusedSimpArgs false

theorem plainSplitEven (count : Int) (n : Int) (w : Int) (w0 : WfT fam (.int .i64) count) (w1 : WfT fam (.int .i64) n) (w2 : WfT fam (.int .i64) w) : dispatchlaw21_SplitEven count n w = some true := by
  unfold dispatchlaw21_SplitEven
  rw [known_eq]
  simp only [Option.bind_some, Bool.not_true, cond_false]
  rw [within_eq (by omega) (by omega), within_eq (by omega) (by omega), within_eq (by omega) (by omega)]
  simp only [Option.bind_some]
  have c0 := Int.emod_nonneg count (show (500 : Int) ≠ 0 by omega)
  have c1 := Int.emod_lt_of_pos count (show (0 : Int) < 500 by omega)
  have n0 := Int.emod_nonneg n (show (12 : Int) ≠ 0 by omega)
  have n1 := Int.emod_lt_of_pos n (show (0 : Int) < 12 by omega)
  have v0 := Int.emod_nonneg w (show (1000 : Int) ≠ 0 by omega)
  have v1 := Int.emod_lt_of_pos w (show (0 : Int) < 1000 by omega)
  generalize count % 500 = c at *
  generalize n % 12 = x1 at *
  generalize w % 1000 = x2 at *
  obtain ⟨N, hN⟩ := Int.eq_ofNat_of_zero_le (show 0 ≤ 1 + x1 by omega)
  have e1 : w64 (1 + x1) = (N : Int) := by rw [hN, w64_id (by omega) (by omega)]
  have e2 : w64 (1 + x2) = 1 + x2 := w64_id (by omega) (by omega)
  have hN12 : N ≤ 12 := by omega
  have hN1 : 1 ≤ N := by omega
  rw [e1, mkl_ok (by omega) (by omega)]
  simp only [Option.bind_some]
  have l1 : loop (dispatchlaw21_SplitEven_l1 x1 x2) (tab N fun _ => 0, 0) = some (tab N fun _ => 1 + x2) := by
    obtain ⟨v, e, hv⟩ := loop_inv (fun (v : List Int) k => (v, k)) (dispatchlaw21_SplitEven_l1 x1 x2) N (fun k v => v = tab N fun i => if i < k then 1 + x2 else 0) (fun v => v) (by
      rintro k hk v rfl
      refine ⟨_, ?_, rfl⟩
      unfold dispatchlaw21_SplitEven_l1
      rw [e1, e2, decide_eq_true (by dsimp only; omega), step_succ (by omega)]
      dsimp only
      simp only [tab_len, inb_lt hk, tab_get hk, cond_true, Option.bind_some]
      rw [tab_upd (fun _ => 1 + x2) (fun _ => 0) hk rfl]) (by
      rintro v rfl
      unfold dispatchlaw21_SplitEven_l1
      rw [e1, decide_eq_false (by dsimp only; omega)]
      rfl) (s := tab N fun _ => 0) (tab_ext fun i hi => by rw [if_neg (by omega)])
    rw [e, hv]
    congr 1
    exact tab_ext fun i hi => by rw [if_pos hi]
  rw [l1]
  simp only [Option.bind_some]
  have hall : (N : Int) * (1 + x2) = S (fun _ => 1 + x2) N := S_const.symm
  have hpos : 0 < (N : Int) * (1 + x2) := Int.mul_pos (by omega) (by omega)
  obtain ⟨T, k, k1, k2, k3⟩ := (parts_tab (n := N) (by omega) (f := fun _ => 1 + x2) (fun i hi => by omega) (c := c) (by omega) hall).2 (by omega)
  have hq : c * (1 + x2) / ((N : Int) * (1 + x2)) = c / N := Int.mul_ediv_mul_of_pos_left _ _ (by omega)
  have hk : (k : Int) = c % N := by
    rw [k2, S_const, hq]
    have := Int.mul_ediv_add_emod c N
    omega
  have m0 := Int.emod_nonneg c (show (N : Int) ≠ 0 by omega)
  have m1 := Int.emod_lt_of_pos c (show (0 : Int) < N by omega)
  have hT := k1.uniq (chosen_even (R := fun _ => 0) (n := N) (k := k) (by omega) (fun _ _ _ _ => rfl)) (fun i j _ _ => by omega)
  rw [k3]
  simp only [Option.bind_some, tab_len, bne_self_eq_false, cond_false]
  have d0 : 0 ≤ c / N := Int.ediv_nonneg (by omega) (by omega)
  have d1 : c / N ≤ c := Int.ediv_le_self _ (by omega)
  obtain ⟨v, e, hv⟩ := loop_inv (fun (_ : Unit) k => k) (dispatchlaw21_SplitEven_l2 c x1 (tab N fun i => c * (1 + x2) / ((N : Int) * (1 + x2)) + if T i then 1 else 0)) N (fun _ _ => True) (fun _ => .inr ()) (by
    rintro i hi u _
    refine ⟨(), ?_, trivial⟩
    unfold dispatchlaw21_SplitEven_l2
    rw [e1, decide_eq_true (by omega), step_succ (by omega), nz_ok (by omega), Int.tdiv_eq_ediv_of_nonneg (by omega), Int.tmod_eq_emod_of_nonneg (by omega), w64_id (x := c / N) (by omega) (by omega)]
    dsimp only
    rw [w64_id (x := c / N + 1) (by omega) (by omega)]
    simp only [tab_len, inb_lt hi, tab_get hi, cond_true, Option.bind_some, hq, hT i hi]
    by_cases h : i < k
    · rw [decide_eq_true (show (i : Int) < c % N by omega), decide_eq_true h]
      simp
    · rw [decide_eq_false (show ¬ (i : Int) < c % N by omega), decide_eq_false h]
      simp) (by
    rintro u _
    unfold dispatchlaw21_SplitEven_l2
    rw [e1, decide_eq_false (by omega)]
    rfl) (s := ()) trivial
  rw [e]
  rfl
end Go.Fx.D

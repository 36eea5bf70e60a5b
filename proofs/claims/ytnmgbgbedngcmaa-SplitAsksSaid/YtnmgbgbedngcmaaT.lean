/-
  Laws over plain data: true at all inputs. Conditions: none.
-/
import Derived.Test.YtnmgbgbedngcmaaS
namespace Go.Fx.D
open Go Go.Fx
set_option linter.unusedVariables false
set_option linter.unusedSimpArgs false

theorem ints_eq {n : Nat} {f g : Nat → Int} (hn : n ≤ 1000) (h : ∀ i, i < n → f i = g i) : dispatchlaw21_ints (tab n f) (tab n g) = some true := by
  unfold dispatchlaw21_ints
  simp only [tab_len, bne_self_eq_false, cond_false]
  obtain ⟨v, e, hv⟩ := loop_inv (fun (_ : Unit) k => k) (dispatchlaw21_ints_l1 (tab n f) (tab n g)) n (fun _ _ => True) (fun _ => .inr ()) (by
    rintro i hi u _
    refine ⟨(), ?_, trivial⟩
    unfold dispatchlaw21_ints_l1
    have e1 : ∀ f : Nat → Int, idx (tab n f) (i : Int) = some (f i) := by
      intro f
      unfold idx
      rw [if_pos (by omega), Int.toNat_natCast, tab_get hi]
    rw [decide_eq_true (by rw [tab_len]; omega), step_succ (by omega), e1, e1, h i hi]
    simp) (by
    rintro u _
    unfold dispatchlaw21_ints_l1
    rw [decide_eq_false (by rw [tab_len]; omega)]
    rfl) (s := ()) trivial
  rw [e]
  rfl

theorem plainSplitTimes (count : Int) (weights : List Int) (k : Int) (w0 : WfT fam (.int .i64) count) (w1 : WfT fam (.slice (.int .i64)) weights) (w2 : WfT fam (.int .i64) k) : dispatchlaw21_SplitTimes count weights k = some true := by
  unfold dispatchlaw21_SplitTimes
  rw [known_eq]
  by_cases hl : (weights.length : Int) > 20
  · simp only [Option.bind_some, Bool.not_true, cond_false, decide_eq_true hl, cond_true]
  simp only [Option.bind_some, Bool.not_true, cond_false, decide_eq_false hl]
  rw [within_eq (by omega) (by omega), within_eq (by omega) (by omega)]
  simp only [Option.bind_some]
  have c0 := Int.emod_nonneg count (show (500 : Int) ≠ 0 by omega)
  have c1 := Int.emod_lt_of_pos count (show (0 : Int) < 500 by omega)
  have n0 := Int.emod_nonneg k (show (100 : Int) ≠ 0 by omega)
  have n1 := Int.emod_lt_of_pos k (show (0 : Int) < 100 by omega)
  generalize count % 500 = c at *
  generalize k % 100 = x1 at *
  generalize hn : weights.length = n at *
  generalize hf : (fun i => weights.getD i 0 % 100) = f
  have fb : ∀ i, 0 ≤ f i ∧ f i < 100 := fun i => by rw [← hf]; exact ⟨Int.emod_nonneg _ (by omega), Int.emod_lt_of_pos _ (by omega)⟩
  have kb : ∀ i, 0 ≤ (1 + x1) * f i ∧ (1 + x1) * f i ≤ 10000 := fun i => by
    have := fb i
    refine ⟨Int.mul_nonneg (by omega) (by omega), ?_⟩
    have : (1 + x1) * f i ≤ 100 * 100 := Int.mul_le_mul (by omega) (by omega) (by omega) (by omega)
    omega
  have e1 : w64 (1 + x1) = 1 + x1 := w64_id (by omega) (by omega)
  have l1 : loop (dispatchlaw21_SplitTimes_l1 weights x1) ([], [], 0) = some (tab n f, tab n fun i => (1 + x1) * f i) := by
    obtain ⟨v, e, hv⟩ := loop_inv (fun (v : List Int × List Int) k => (v.1, v.2, k)) (dispatchlaw21_SplitTimes_l1 weights x1) n (fun k v => v.1 = tab k f ∧ v.2 = tab k fun i => (1 + x1) * f i) (fun v => v) (by
      rintro k hk ⟨v1, v2⟩ ⟨h1, h2⟩
      dsimp only at h1 h2
      subst h1 h2
      refine ⟨(tab (k + 1) f, tab (k + 1) fun i => (1 + x1) * f i), ?_, rfl, rfl⟩
      unfold dispatchlaw21_SplitTimes_l1
      have hb := kb k
      have ek : weights[k]'(by omega) % 100 = f k := by rw [← hf]; simp [List.getD, hn, hk]
      rw [decide_eq_true (by dsimp only; omega), step_succ (by omega)]
      dsimp only
      rw [idx_lt (by omega)]
      simp only [cond_true, Option.bind_some]
      rw [within_eq (by omega) (by omega)]
      simp only [Option.bind_some, ek]
      rw [app_ok (by simp [tab_len]; omega) (by omega), tab_snoc]
      simp only [Option.bind_some, e1]
      rw [w64_id (by omega) (by omega), app_ok (by simp [tab_len]; omega) (by omega), tab_snoc k fun i => (1 + x1) * f i]
      rfl) (by
      rintro ⟨v1, v2⟩ ⟨h1, h2⟩
      unfold dispatchlaw21_SplitTimes_l1
      rw [decide_eq_false (by dsimp only; omega)]
      rfl) (s := ([], [])) ⟨rfl, rfl⟩
    rw [e]
    obtain ⟨v1, v2⟩ := v
    rw [← hv.1, ← hv.2]
  rw [l1]
  simp only [Option.bind_some]
  have hS : S (fun i => (1 + x1) * f i) n = (1 + x1) * S f n := S_mul
  have hkp : 0 < 1 + x1 := by omega
  obtain ⟨a1, a2⟩ := parts_tab (n := n) (by omega) (f := f) (fun i hi => by have := fb i; omega) (c := c) (by omega) rfl
  obtain ⟨b1, b2⟩ := parts_tab (n := n) (by omega) (f := fun i => (1 + x1) * f i) (fun i hi => by have := kb i; omega) (c := c) (by omega) hS.symm
  by_cases h0 : S f n = 0
  · rw [a1 h0, b1 (by rw [h0]; simp)]
    simp only [Option.bind_some]
    rw [ints_eq (by omega) (fun _ _ => rfl)]
    rfl
  · have h1 : (1 + x1) * S f n ≠ 0 := Int.mul_ne_zero (by omega) h0
    have alln : 0 ≤ S f n := S_nonneg fun i hi => (fb i).1
    obtain ⟨T, m, p1, p2, p3⟩ := a2 h0
    obtain ⟨T', m', q1, q2, q3⟩ := b2 h1
    have hq : ∀ i, c * ((1 + x1) * f i) / ((1 + x1) * S f n) = c * f i / S f n := by
      intro i
      rw [← Int.mul_assoc, Int.mul_comm c (1 + x1), Int.mul_assoc, Int.mul_ediv_mul_of_pos _ _ hkp]
    have hr : ∀ i, c * ((1 + x1) * f i) % ((1 + x1) * S f n) = (1 + x1) * (c * f i % S f n) := by
      intro i
      rw [← Int.mul_assoc, Int.mul_comm c (1 + x1), Int.mul_assoc, Int.mul_emod_mul_of_pos _ _ hkp]
    have hm : m' = m := by
      rw [S_congr (fun i _ => hq i)] at q2
      omega
    subst hm
    have hT := p1.uniq q1 (fun i j _ _ => by
      rw [hr, hr]
      constructor
      · intro h; exact Int.mul_lt_mul_of_pos_left h hkp
      · intro h; exact Int.lt_of_mul_lt_mul_left h (by omega))
    rw [p3, q3]
    simp only [Option.bind_some]
    rw [ints_eq (by omega) (fun i hi => by rw [hq i, hT i hi])]
    rfl
end Go.Fx.D

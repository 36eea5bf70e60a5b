/-
  Laws over plain data: true at all inputs. Conditions: none.
-/
import Derived.Test.YtnmgbgbedngcmaaS
namespace Go.Fx.D
open Go Go.Fx
set_option linter.unusedVariables false
set_option linter.unusedSimpArgs false

theorem plainSplitMore (count : Int) (weights : List Int) (w0 : WfT fam (.int .i64) count) (w1 : WfT fam (.slice (.int .i64)) weights) : dispatchlaw21_SplitMore count weights = some true := by
  unfold dispatchlaw21_SplitMore
  rw [known_eq]
  simp only [Option.bind_some, Bool.not_true, cond_false]
  by_cases hz : (weights.length : Int) = 0
  · simp [hz]
  rw [show ((weights.length : Int) == 0) = false by simpa using hz]
  by_cases hl : (weights.length : Int) > 20
  · simp only [Option.bind_some, cond_false, decide_eq_true hl, cond_true]
  simp only [Option.bind_some, cond_false, decide_eq_false hl]
  have c0 := Int.emod_nonneg count (show (500 : Int) ≠ 0 by omega)
  have c1 := Int.emod_lt_of_pos count (show (0 : Int) < 500 by omega)
  generalize hn : weights.length = n at *
  generalize hf : (fun i => weights.getD i 0 % 40) = f
  have fb : ∀ i, 0 ≤ f i ∧ f i < 40 := fun i => by rw [← hf]; exact ⟨Int.emod_nonneg _ (by omega), Int.emod_lt_of_pos _ (by omega)⟩
  have l1 : loop (dispatchlaw21_SplitMore_l1 weights) ([], 0) = some (tab n f) := by
    obtain ⟨v, e, hv⟩ := loop_inv (fun (v : List Int) k => (v, k)) (dispatchlaw21_SplitMore_l1 weights) n (fun k v => v = tab k f) (fun v => v) (by
      rintro k hk v rfl
      refine ⟨tab (k + 1) f, ?_, rfl⟩
      unfold dispatchlaw21_SplitMore_l1
      have ek : weights[k]'(by omega) % 40 = f k := by rw [← hf]; simp [List.getD, hn, hk]
      rw [decide_eq_true (by dsimp only; omega), step_succ (by omega)]
      dsimp only
      rw [idx_lt (by omega)]
      simp only [cond_true, Option.bind_some]
      rw [within_eq (by omega) (by omega)]
      simp only [Option.bind_some, ek]
      rw [app_ok (by simp [tab_len]; omega) (by omega), tab_snoc]
      rfl) (by
      rintro v rfl
      unfold dispatchlaw21_SplitMore_l1
      rw [decide_eq_false (by dsimp only; omega)]
      rfl) (s := []) rfl
    rw [e, hv]
  rw [l1]
  simp only [Option.bind_some]
  have i0 : inb 0 n = some 0 := inb_lt (i := 0) (by omega)
  rw [tab_len, i0]
  simp only [Option.bind_some, tab_get (show 0 < n by omega)]
  rw [within_eq (by omega) (by omega)]
  simp only [Option.bind_some]
  generalize count % 500 = c at *
  have f0 := fb 0
  rw [w64_id (x := f 0 + 1) (by omega) (by omega), w64_id (x := c + 1) (by omega) (by omega), tab_set (by omega)]
  generalize hg : (fun i => if i = 0 then f 0 + 1 else f i) = g
  have gb : ∀ i, 0 ≤ g i ∧ g i ≤ 40 := fun i => by
    have := fb i
    rw [← hg]
    dsimp only
    split <;> omega
  have g0 : 1 ≤ g 0 := by rw [← hg]; simp; omega
  have gm : ∀ i, i < n → g i ≤ S g n := fun i hi => S_mem (fun i _ => (gb i).1) hi
  have hA : S g n ≠ 0 := by have := gm 0 (by omega); omega
  obtain ⟨x, e1, hx, hxi⟩ := parts_laws (n := n) (by omega) (f := g) (fun i hi => by have := gb i; omega) (c := c) (by omega) rfl hA
  obtain ⟨y, e2, hy, hyi⟩ := parts_laws (n := n) (by omega) (f := g) (fun i hi => by have := gb i; omega) (c := c + 1) (by omega) rfl hA
  rw [e1, e2]
  simp only [Option.bind_some]
  have diff : ∀ i, i < n → -1 ≤ y i - x i ∧ y i - x i ≤ 2 := by
    intro i hi
    obtain ⟨_, _, _, _, _, a⟩ := hxi i hi
    obtain ⟨_, _, _, _, _, b⟩ := hyi i hi
    have hp : 0 < S g n := by have := gm 0 (by omega); omega
    have h1 : c * g i / S g n ≤ (c + 1) * g i / S g n := Int.ediv_le_ediv hp (by rw [Int.add_mul]; have := gb i; omega)
    have h2 : (c + 1) * g i / S g n ≤ (c * g i + S g n * 1) / S g n := Int.ediv_le_ediv hp (by rw [Int.add_mul]; have := gm i hi; omega)
    rw [Int.add_mul_ediv_left _ _ hA] at h2
    omega
  obtain ⟨v, e, hv⟩ := loop_inv (fun (v : Int) k => (v, k)) (dispatchlaw21_SplitMore_l2 (tab n x) (tab n y)) n (fun k v => v = S (fun i => y i - x i) k ∧ -(k : Int) * 1000 ≤ v ∧ v ≤ k * 1000) (fun v => .inr v) (by
    rintro k hk v ⟨rfl, hv0, hv1⟩
    obtain ⟨x0, x1, _⟩ := hxi k hk
    obtain ⟨y0, y1, _⟩ := hyi k hk
    have d := diff k hk
    refine ⟨S (fun i => y i - x i) (k + 1), ?_, rfl, ?_, ?_⟩
    · unfold dispatchlaw21_SplitMore_l2
      rw [decide_eq_true (by dsimp only; rw [tab_len]; omega), step_succ (by omega)]
      dsimp only
      simp only [tab_len, inb_lt hk, tab_get hk, cond_true, Option.bind_some]
      rw [w64_id (x := y k - x k) (by omega) (by omega), w64_id (x := S (fun i => y i - x i) k + y k) (by omega) (by omega), w64_id (x := S (fun i => y i - x i) k + y k - x k) (by omega) (by omega)]
      rw [decide_eq_false (show ¬ y k - x k > 2 by omega), decide_eq_false (show ¬ y k - x k < -1 by omega)]
      simp only [cond_false, Option.bind_some]
      rw [S]
      congr 4
      omega
    · rw [S]; omega
    · rw [S]; omega) (by
    rintro v ⟨rfl, _, _⟩
    unfold dispatchlaw21_SplitMore_l2
    rw [decide_eq_false (by dsimp only; rw [tab_len]; omega)]
    rfl) (s := 0) ⟨rfl, by omega, by omega⟩
  rw [e, hv.1]
  have hs : S (fun i => y i - x i) n = 1 := by
    have := S_add (f := fun i => y i - x i) (g := x) (n := n)
    rw [S_congr (g := y) (fun i hi => by omega)] at this
    omega
  rw [hs]
  rfl
end Go.Fx.D

/-
  Laws over plain data: true at all inputs. Conditions: none.
-/
import Derived.Test.YtnmgbgbedngcmaaS
namespace Go.Fx.D
open Go Go.Fx
set_option linter.unusedVariables false
set_option linter.unusedSimpArgs false

theorem idx_tab {α : Type} {n i : Nat} {f : Nat → α} (h : i < n) : idx (tab n f) (i : Int) = some (f i) := by
  unfold idx
  rw [if_pos (by omega), Int.toNat_natCast, tab_get h]

theorem weights_eq {n : Nat} (hn : n ≤ 1000) (s : Nat → Sub) (of : TupT fam [.st 1] → Option Int) (g : Nat → Int) (hg : ∀ i, i < n → of (s i, ()) = some (g i)) : split_weights (tab n s) of = some (tab n fun i => if (s i).Up then g i else 0) := by
  unfold split_weights
  rw [tab_len, mkl_ok (by omega) (by omega)]
  simp only [Option.bind_some]
  obtain ⟨v, e, hv⟩ := loop_inv (fun (v : List Int) k => (v, k)) (split_weights_l1 (tab n s) of) n (fun k v => v = tab n fun i => if i < k then (if (s i).Up then g i else 0) else 0) (fun v => v) (by
    rintro k hk v rfl
    refine ⟨tab n fun i => if i < k + 1 then (if (s i).Up then g i else 0) else 0, ?_, rfl⟩
    unfold split_weights_l1
    rw [decide_eq_true (by dsimp only; rw [tab_len]; omega), step_succ (by omega)]
    dsimp only
    rw [idx_tab hk]
    simp only [cond_true, Option.bind_some, hg k hk, tab_len, inb_lt hk, tab_get hk]
    cases h : (s k).Up with
    | true =>
      simp only [cond_true, Option.bind_some]
      rw [tab_upd (fun i => if (s i).Up then g i else 0) (fun _ => 0) hk (by rw [h]; rfl)]
    | false =>
      simp only [cond_false, Option.bind_some]
      congr 3
      apply tab_ext
      intro i hi
      by_cases e : i = k
      · subst e; rw [if_neg (by omega), if_pos (by omega), h]; rfl
      · by_cases h2 : i < k
        · have h3 : i < k + 1 := by omega
          simp only [h2, h3, if_true]
        · have h3 : ¬ i < k + 1 := by omega
          simp only [h2, h3, if_false]) (by
    rintro v rfl
    unfold split_weights_l1
    rw [decide_eq_false (by dsimp only; rw [tab_len]; omega)]
    rfl) (s := tab n fun _ => 0) (tab_ext fun i hi => by rw [if_neg (by omega)])
  rw [e, hv]
  simp only [Option.bind_some]
  congr 1
  exact tab_ext fun i hi => by rw [if_pos hi]

theorem load_eq (s : Sub) : ∃ L : Int, 0 ≤ L ∧ L ≤ 999999 ∧ split_Sub_load s = some (1000000 / (1 + L)) ∧ (0 ≤ s.Load → s.Load ≤ 999999 → L = s.Load) := by
  have hL : 0 ≤ imin (imax s.Load 0) 999999 ∧ imin (imax s.Load 0) 999999 ≤ 999999 := by unfold imin imax; repeat' split; all_goals omega
  refine ⟨imin (imax s.Load 0) 999999, hL.1, hL.2, ?_, ?_⟩
  · unfold split_Sub_load
    generalize imin (imax s.Load 0) 999999 = L at *
    rw [w64_id (x := 1 + L) (by omega) (by omega), nz_ok (by omega), Int.tdiv_eq_ediv_of_nonneg (by omega)]
    have h0 : 0 ≤ 1000000 / (1 + L) := Int.ediv_nonneg (by omega) (by omega)
    have h1 : 1000000 / (1 + L) ≤ 1000000 := Int.ediv_le_self _ (by omega)
    rw [w64_id (by omega) (by omega)]
    rfl
  · intro h1 h2
    unfold imin imax
    repeat' split
    all_goals omega

theorem loads_fall {a b : Int} (h0 : 0 ≤ a) (h1 : a < b) (h2 : b ≤ 99) : 1000000 / (1 + b) < 1000000 / (1 + a) := by
  have e1 := Int.mul_ediv_add_emod 1000000 (1 + b)
  have e2 := Int.emod_nonneg 1000000 (show 1 + b ≠ 0 by omega)
  apply Int.lt_of_add_one_le
  apply (Int.le_ediv_iff_mul_le (show 0 < 1 + a by omega)).2
  have q0 : 0 ≤ 1000000 / (1 + b) := Int.ediv_nonneg (by omega) (by omega)
  have q1 : 10000 ≤ 1000000 / (1 + b) := (Int.le_ediv_iff_mul_le (show 0 < 1 + b by omega)).2 (by omega)
  generalize 1000000 / (1 + b) = q at *
  have : q * (1 + a) ≤ q * b := Int.mul_le_mul_of_nonneg_left (by omega) q0
  rw [Int.add_mul]
  have h3 : (1 + b) * q = q * b + q := by rw [Int.add_mul, Int.mul_comm b q]; omega
  omega

theorem split3_eq {n : Nat} (hn : n ≤ 100) (s : Nat → Sub) (c rack : Int) : ∃ L : Nat → Int, (∀ i, 0 ≤ L i ∧ L i ≤ 999999 ∧ (0 ≤ (s i).Load → (s i).Load ≤ 999999 → L i = (s i).Load)) ∧
    split_Split 3 (tab n s) c rack = split_Parts c (tab n fun i => if (s i).Up then 1000000 / (1 + L i) else 0) := by
  have hl : ∀ i, ∃ L : Int, 0 ≤ L ∧ L ≤ 999999 ∧ split_Sub_load (s i) = some (1000000 / (1 + L)) ∧ (0 ≤ (s i).Load → (s i).Load ≤ 999999 → L = (s i).Load) := fun i => load_eq (s i)
  refine ⟨fun i => (hl i).choose, fun i => ⟨(hl i).choose_spec.1, (hl i).choose_spec.2.1, (hl i).choose_spec.2.2.2⟩, ?_⟩
  unfold split_Split
  rw [show ((3 : Int) == 2) = false from rfl, show ((3 : Int) == 1) = false from rfl, show ((3 : Int) == 3) = true from rfl]
  simp only [cond_false, cond_true]
  rw [weights_eq (by omega) s _ (fun i => 1000000 / (1 + (hl i).choose)) (fun i hi => (hl i).choose_spec.2.2.1)]
  simp only [Option.bind_some]
  cases split_Parts c (tab n fun i => if (s i).Up then 1000000 / (1 + (hl i).choose) else 0) <;> rfl

theorem plainSplitLoads (loads : List Int) (count : Int) (w0 : WfT fam (.slice (.int .i64)) loads) (w1 : WfT fam (.int .i64) count) : dispatchlaw21_SplitLoads loads count = some true := by
  unfold dispatchlaw21_SplitLoads
  rw [known_eq]
  simp only [Option.bind_some, Bool.not_true, cond_false]
  generalize hn : min loads.length 4 = n
  generalize hu : (fun i => loads.getD i 0 % 100) = u
  have ub : ∀ i, 0 ≤ u i ∧ u i < 100 := fun i => by rw [← hu]; exact ⟨Int.emod_nonneg _ (by omega), Int.emod_lt_of_pos _ (by omega)⟩
  have l1 : loop (dispatchlaw21_SplitLoads_l1 loads) ([], 0) = some (tab n fun i => (⟨0, true, [], u i⟩ : Sub)) := by
    obtain ⟨v, e, hv⟩ := loop_inv (fun (v : List Sub) k => (v, k)) (dispatchlaw21_SplitLoads_l1 loads) n (fun k v => v = (tab k fun i => (⟨0, true, [], u i⟩ : Sub))) (fun v => v) (by
      rintro k hk v rfl
      refine ⟨(tab (k + 1) fun i => (⟨0, true, [], u i⟩ : Sub)), ?_, rfl⟩
      unfold dispatchlaw21_SplitLoads_l1
      have ek : loads[k]'(by omega) % 100 = u k := by rw [← hu]; simp [List.getD, show k < loads.length by omega]
      rw [decide_eq_true (show ((tab k fun i => (⟨0, true, [], u i⟩ : Sub)), (k : Int)).2 < (loads.length : Int) by dsimp only; omega), decide_eq_true (by dsimp only; omega), step_succ (by omega)]
      dsimp only
      simp only [cond_true, Option.bind_some]
      rw [idx_lt (by omega)]
      simp only [Option.bind_some]
      rw [within_eq (by omega) (by omega)]
      simp only [Option.bind_some, ek]
      rw [app_ok (by simp [tab_len]; omega) (by omega), tab_snoc k fun i => (⟨0, true, [], u i⟩ : Sub)]
      rfl) (by
      rintro v rfl
      unfold dispatchlaw21_SplitLoads_l1
      by_cases h : n < loads.length
      · rw [decide_eq_true (by dsimp only; omega), decide_eq_false (by dsimp only; omega)]
        rfl
      · rw [decide_eq_false (by dsimp only; omega)]
        rfl) (s := []) rfl
    rw [e, hv]
  rw [l1]
  simp only [Option.bind_some]
  rw [within_eq (by omega) (by omega)]
  simp only [Option.bind_some]
  have c0 := Int.emod_nonneg count (show (300 : Int) ≠ 0 by omega)
  have c1 := Int.emod_lt_of_pos count (show (0 : Int) < 300 by omega)
  generalize count % 300 = c at *
  obtain ⟨L, hL, e⟩ := split3_eq (n := n) (by omega) (fun i => (⟨0, true, [], u i⟩ : Sub)) c 0
  have hLu : ∀ i, L i = u i := fun i => (hL i).2.2 (ub i).1 (by have := ub i; show u i ≤ 999999; omega)
  rw [e]
  have ew : (tab n fun i => if ((⟨0, true, [], u i⟩ : Sub)).Up then 1000000 / (1 + L i) else 0) = tab n fun i => 1000000 / (1 + u i) := tab_ext fun i hi => by rw [hLu]; rfl
  rw [ew]
  generalize hg : (fun i => 1000000 / (1 + u i)) = g
  have gb : ∀ i, 0 ≤ g i ∧ g i ≤ 1000000 := fun i => by
    rw [← hg]
    have := ub i
    exact ⟨Int.ediv_nonneg (by omega) (by omega), Int.ediv_le_self _ (by omega)⟩
  have gf : ∀ i j, u i < u j → g j < g i := fun i j h => by
    rw [← hg]
    exact loads_fall (ub i).1 h (by have := ub j; omega)
  -- the parts
  obtain ⟨x, ex, hx⟩ : ∃ x : Nat → Int, split_Parts c (tab n g) = some (tab n x) ∧ ∀ i j, i < n → j < n → u i < u j → x j ≤ x i := by
    obtain ⟨a1, a2⟩ := parts_tab (n := n) (by omega) (f := g) (fun i hi => by have := gb i; omega) (c := c) (by omega) rfl
    by_cases h0 : S g n = 0
    · exact ⟨fun _ => 0, a1 h0, fun _ _ _ _ _ => Int.le_refl _⟩
    · obtain ⟨T, k, p1, p2, p3⟩ := a2 h0
      refine ⟨_, p3, ?_⟩
      intro i j hi hj hij
      have hlt := gf i j hij
      have hA : 0 < S g n := by have := S_nonneg (f := g) (n := n) (fun i _ => (gb i).1); omega
      have cl : c * g j ≤ c * g i := Int.mul_le_mul_of_nonneg_left (by omega) c0
      have hq : c * g j / S g n ≤ c * g i / S g n := Int.ediv_le_ediv hA cl
      by_cases hqe : c * g j / S g n = c * g i / S g n
      · rw [hqe]
        have d1 := Int.mul_ediv_add_emod (c * g i) (S g n)
        have d2 := Int.mul_ediv_add_emod (c * g j) (S g n)
        rw [hqe] at d2
        by_cases hc0 : c = 0
        · -- nothing to part
          have hk : (k : Int) = 0 := by
            rw [p2, hc0, S_congr (g := fun _ => 0) (fun i _ => by simp), S_const]; simp
          have z := p1.cnt
          rw [hk] at z
          have zj := S_zero (f := fun i => if T i then (1 : Int) else 0) (fun i _ => by split <;> omega) z j hj
          have zi := S_zero (f := fun i => if T i then (1 : Int) else 0) (fun i _ => by split <;> omega) z i hi
          rw [zj, zi]
          exact Int.le_refl _
        · have cl' : c * g j < c * g i := Int.mul_lt_mul_of_pos_left hlt (by omega)
          cases hTj : T j with
          | false => cases T i <;> simp <;> omega
          | true =>
            cases hTi : T i with
            | true => simp
            | false =>
              have := p1.bef j i hj hi hTj hTi
              omega
      · have : (if T j then (1 : Int) else 0) ≤ 1 := by split <;> omega
        have : 0 ≤ (if T i then (1 : Int) else 0) := by split <;> omega
        omega
  rw [ex]
  simp only [Option.bind_some]
  have inner : ∀ i, i < n → loop (dispatchlaw21_SplitLoads_l3 (tab n fun i => (⟨0, true, [], u i⟩ : Sub)) (tab n x) (i : Int)) 0 = some (.inr ()) := by
    intro i hi
    obtain ⟨v, e, hv⟩ := loop_inv (fun (_ : Unit) k => k) (dispatchlaw21_SplitLoads_l3 (tab n fun i => (⟨0, true, [], u i⟩ : Sub)) (tab n x) (i : Int)) n (fun _ _ => True) (fun _ => .inr ()) (by
      rintro j hj w _
      refine ⟨(), ?_, trivial⟩
      unfold dispatchlaw21_SplitLoads_l3
      rw [decide_eq_true (by rw [tab_len]; omega), step_succ (by omega)]
      simp only [tab_len, inb_lt hi, inb_lt hj, tab_get hi, tab_get hj, cond_true, Option.bind_some]
      by_cases h : u i < u j
      · have := hx i j hi hj h
        rw [decide_eq_true h, decide_eq_false (by omega)]
        rfl
      · rw [decide_eq_false h]
        rfl) (by
      rintro w _
      unfold dispatchlaw21_SplitLoads_l3
      rw [decide_eq_false (by rw [tab_len]; omega)]
      rfl) (s := ()) trivial
    exact e
  obtain ⟨v, e, hv⟩ := loop_inv (fun (_ : Unit) k => k) (dispatchlaw21_SplitLoads_l2 (tab n fun i => (⟨0, true, [], u i⟩ : Sub)) (tab n x)) n (fun _ _ => True) (fun _ => .inr ()) (by
    rintro i hi w _
    refine ⟨(), ?_, trivial⟩
    unfold dispatchlaw21_SplitLoads_l2
    rw [decide_eq_true (by rw [tab_len]; omega), step_succ (by omega), inner i hi]
    rfl) (by
    rintro w _
    unfold dispatchlaw21_SplitLoads_l2
    rw [decide_eq_false (by rw [tab_len]; omega)]
    rfl) (s := ()) trivial
  rw [e]
  simp [tab_len]
end Go.Fx.D

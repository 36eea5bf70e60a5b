/-
  Laws over plain data: true at all inputs. Conditions: none.
-/
import Derived.Test.YtnmgbgbedngcmaaU
import Derived.Test.YtnmgbgbedngcmaaH
namespace Go.Fx.D
open Go Go.Fx
set_option linter.unusedVariables false
set_option linter.unusedSimpArgs false

theorem rgood_eq (x : Int) : dispatchref21_good x = some (gd x) := good_eq x

theorem rsum_eq {n : Nat} (hn : n ≤ 100) (a : Nat → Int) : loop (dispatchref21_Parts_l1 (tab n a)) (0, 0) = some (S (fun i => gd (a i)) n) := by
  obtain ⟨v, e, hv⟩ := loop_inv (fun (v : Int) k => (v, k)) (dispatchref21_Parts_l1 (tab n a)) n (fun k v => v = S (fun i => gd (a i)) k) (fun v => v) (by
    rintro k hk v rfl
    refine ⟨S (fun i => gd (a i)) (k + 1), ?_, rfl⟩
    have b1 := S_nonneg (f := fun i => gd (a i)) (n := k) (fun i hi => (gd_bd _).1)
    have b2 := S_le (f := fun i => gd (a i)) (g := fun _ => 1048576) (n := k) (fun i hi => (gd_bd _).2)
    rw [S_const] at b2
    have b3 := gd_bd (a k)
    unfold dispatchref21_Parts_l1
    rw [decide_eq_true (by dsimp only; rw [tab_len]; omega), step_succ (by omega)]
    dsimp only
    rw [idx_tab hk]
    simp only [cond_true, Option.bind_some, rgood_eq]
    rw [w64_id (by omega) (by omega)]
    rfl) (by
    rintro v rfl
    unfold dispatchref21_Parts_l1
    rw [decide_eq_false (by dsimp only; rw [tab_len]; omega)]
    rfl) (s := 0) rfl
  rw [e, hv]

/-- the first one of the greatest -/
theorem argmax_eq {n : Nat} (h1 : 1 ≤ n) (hn : n ≤ 1000) (o : List Int) (lf : Int) (r : Nat → Int) : ∃ j, j < n ∧ loop (dispatchref21_Parts_l4 (o, lf, tab n r)) (0, 1) = some (j : Int) ∧ ∀ l, l < n → r l < r j ∨ (r l = r j ∧ j ≤ l) := by
  obtain ⟨v, e, hv⟩ := loop_inv (fun (v : Nat) k => ((v : Int), k + 1)) (dispatchref21_Parts_l4 (o, lf, tab n r)) (n - 1) (fun k v => v ≤ k ∧ ∀ l, l ≤ k → r l < r v ∨ (r l = r v ∧ v ≤ l)) (fun v => (v : Int)) (by
    rintro k hk v ⟨hvk, hm⟩
    have hk1 : k + 1 < n := by omega
    have hvn : v < n := by omega
    have ec : ((k : Int) + 1) = ((k + 1 : Nat) : Int) := by omega
    by_cases h : r (k + 1) > r v
    · refine ⟨k + 1, ?_, Nat.le_refl _, ?_⟩
      · unfold dispatchref21_Parts_l4
        dsimp only
        rw [ec, decide_eq_true (by rw [tab_len]; omega), step_succ (by omega)]
        simp only [tab_len, inb_lt hk1, inb_lt hvn, tab_get hk1, tab_get hvn, cond_true, Option.bind_some]
        rw [decide_eq_true h]
        simp only [cond_true, Option.bind_some]
        congr 3
      · intro l hl
        by_cases e : l = k + 1
        · subst e; exact .inr ⟨rfl, Nat.le_refl _⟩
        · have := hm l (by omega)
          omega
    · refine ⟨v, ?_, by omega, ?_⟩
      · unfold dispatchref21_Parts_l4
        dsimp only
        rw [ec, decide_eq_true (by rw [tab_len]; omega), step_succ (by omega)]
        simp only [tab_len, inb_lt hk1, inb_lt hvn, tab_get hk1, tab_get hvn, cond_true, Option.bind_some]
        rw [decide_eq_false h]
        simp only [cond_false, Option.bind_some]
        congr 3
      · intro l hl
        by_cases e : l = k + 1
        · subst e; omega
        · exact hm l (by omega)) (by
    rintro v ⟨hvk, hm⟩
    unfold dispatchref21_Parts_l4
    dsimp only
    rw [decide_eq_false (by rw [tab_len]; omega)]
    rfl) (s := 0) ⟨Nat.le_refl _, fun l hl => .inr ⟨by rw [show l = 0 by omega], by omega⟩⟩
  exact ⟨v, by omega, e, fun l hl => hv.2 l (by omega)⟩

theorem rparts_eq (count : Int) (ws : List Int) {n : Nat} (hn : n = min ws.length 100) {w : Nat → Int} (hw : ∀ i, w i = gd (ws.getD i 0)) {all c : Int} (hall : all = S w n) (hc : c = gd count) :
    (all = 0 → dispatchref21_Parts count ws = some (tab n fun _ => 0)) ∧
    (all ≠ 0 → ∃ (T : Nat → Bool) (k : Nat), Chosen (fun i => c * w i % all) n k T ∧ (k : Int) = c - S (fun i => c * w i / all) n ∧ dispatchref21_Parts count ws = some (tab n fun i => c * w i / all + if T i then 1 else 0)) := by
  subst hc
  have hn100 : n ≤ 100 := by omega
  have wb : ∀ i, 0 ≤ w i ∧ w i ≤ 1048576 := fun i => by rw [hw]; exact gd_bd _
  have cb := gd_bd count
  have hS : S (fun i => gd (ws.getD i 0)) n = all := by rw [hall]; exact S_congr fun i hi => (hw i).symm
  unfold dispatchref21_Parts
  rw [slc_eq, ← hn]
  simp only [Option.bind_some, rgood_eq]
  rw [rsum_eq hn100, hS]
  simp only [Option.bind_some, tab_len]
  rw [mkl_ok (by omega) (by omega)]
  simp only [Option.bind_some]
  have alln : 0 ≤ all := by rw [hall]; exact S_nonneg fun i hi => (wb i).1
  refine ⟨fun h0 => by rw [show (all == 0) = true by simp [h0]]; rfl, fun h0 => ?_⟩
  have hp : 0 < all := by omega
  rw [show (all == 0) = false by simpa using h0]
  simp only [cond_false]
  generalize hcc : gd count = c at *
  have cw : ∀ i, 0 ≤ c * w i ∧ c * w i ≤ 1099511627776 := by
    intro i
    have h := wb i
    refine ⟨Int.mul_nonneg cb.1 h.1, ?_⟩
    have : c * w i ≤ 1048576 * 1048576 := Int.mul_le_mul cb.2 h.2 h.1 (by omega)
    omega
  have qb : ∀ i, 0 ≤ c * w i / all ∧ c * w i / all ≤ 1099511627776 := by
    intro i
    refine ⟨Int.ediv_nonneg (cw i).1 alln, ?_⟩
    have := Int.ediv_le_self all (cw i).1
    have := (cw i).2
    omega
  have sb : ∀ k, k ≤ n → 0 ≤ S (fun i => c * w i / all) k ∧ S (fun i => c * w i / all) k ≤ 109951162777600 := by
    intro k hk
    have b1 := S_nonneg (f := fun i => c * w i / all) (n := k) (fun i hi => (qb i).1)
    have b2 := S_le (f := fun i => c * w i / all) (g := fun _ => 1099511627776) (n := k) (fun i hi => (qb i).2)
    rw [S_const] at b2
    omega
  have l2 : loop (dispatchref21_Parts_l2 (tab n fun i => ws.getD i 0) c all) (tab n fun _ => 0, c, tab n fun _ => 0, 0) = some (tab n fun i => c * w i / all, c - S (fun i => c * w i / all) n, tab n fun i => c * w i % all) := by
    obtain ⟨v, e, hv⟩ := loop_inv (fun (v : List Int × Int × List Int) k => (v.1, v.2.1, v.2.2, k)) (dispatchref21_Parts_l2 (tab n fun i => ws.getD i 0) c all) n
      (fun k v => v.1 = (tab n fun i => if i < k then c * w i / all else 0) ∧ v.2.1 = c - S (fun i => c * w i / all) k ∧ v.2.2 = tab n fun i => if i < k then c * w i % all else 0) (fun v => v) (by
      rintro k hk ⟨v1, v2, v3⟩ ⟨h1, h2, h3⟩
      dsimp only at h1 h2 h3
      subst h1 h2 h3
      have hcw := cw k
      have hq := qb k
      have hs := sb k (by omega)
      refine ⟨(tab n fun i => if i < k + 1 then c * w i / all else 0, c - S (fun i => c * w i / all) (k + 1), tab n fun i => if i < k + 1 then c * w i % all else 0), ?_, rfl, rfl, rfl⟩
      unfold dispatchref21_Parts_l2
      rw [decide_eq_true (by dsimp only; rw [tab_len]; omega), step_succ (by omega)]
      dsimp only
      rw [idx_tab hk]
      simp only [cond_true, Option.bind_some, rgood_eq, nz_ok h0, ← hw, tab_len, inb_lt hk, tab_get hk, List.length_set]
      rw [w64_id (x := c * w k) (by omega) (by omega), Int.tdiv_eq_ediv_of_nonneg hcw.1, Int.tmod_eq_emod_of_nonneg hcw.1, w64_id (x := c * w k / all) (by omega) (by omega), tab_upd (fun i => c * w i / all) (fun _ => 0) hk rfl, tab_upd (fun i => c * w i % all) (fun _ => 0) hk rfl, tab_get hk]
      simp only [Nat.lt_succ_self, if_true, Option.bind_some]
      rw [w64_id (by omega) (by omega)]
      congr 3
      rw [S]
      congr 1
      omega) (by
      rintro ⟨v1, v2, v3⟩ ⟨h1, h2, h3⟩
      unfold dispatchref21_Parts_l2
      rw [decide_eq_false (by dsimp only; rw [tab_len]; omega)]
      rfl) (s := (tab n fun _ => 0, c, tab n fun _ => 0)) ⟨tab_ext fun i hi => by rw [if_neg (by omega)], by simp [S], tab_ext fun i hi => by rw [if_neg (by omega)]⟩
    obtain ⟨v1, v2, v3⟩ := v
    obtain ⟨h1, h2, h3⟩ := hv
    dsimp only at h1 h2 h3
    rw [e, h1, h2, h3]
    congr 2
    · exact tab_ext fun i hi => by rw [if_pos hi]
    · congr 1
      exact tab_ext fun i hi => by rw [if_pos hi]
  rw [l2]
  simp only [Option.bind_some]
  obtain ⟨k0, k1, k2⟩ := left_eq (n := n) (w := w) (c := c) (all := all) (fun i hi => (wb i).1) cb.1 hall hp
  obtain ⟨k, hk⟩ := Int.eq_ofNat_of_zero_le k1
  have hkn : k ≤ n := by omega
  rw [hk]
  obtain ⟨v, e, T, hT, hv1, hv2⟩ := loop_inv (fun (v : List Int × List Int) m => (v.1, (k : Int) - m, v.2)) dispatchref21_Parts_l3 k
    (fun m v => ∃ T, Chosen (fun i => c * w i % all) n m T ∧ v.1 = (tab n fun i => c * w i / all + if T i then 1 else 0) ∧ v.2 = tab n fun i => if T i then -1 else c * w i % all) (fun v => v.1) (by
    rintro m hm ⟨v1, v2⟩ ⟨T, hT, h1, h2⟩
    dsimp only at h1 h2
    subst h1 h2
    obtain ⟨j, hj, ej, hmax⟩ := argmax_eq (n := n) (by omega) (by omega) (tab n fun i => c * w i / all + if T i then 1 else 0) ((k : Int) - m) (fun i => if T i then -1 else c * w i % all)
    have R0 : ∀ i, 0 ≤ c * w i % all := fun i => Int.emod_nonneg _ h0
    -- someone is still to come
    have hTj : T j = false := by
      cases h : T j with
      | false => rfl
      | true =>
        exfalso
        have allT : ∀ l, l < n → T l = true := by
          intro l hl
          cases hl' : T l with
          | true => rfl
          | false =>
            have := hmax l hl
            simp only [h, hl', if_true, Bool.false_eq_true, if_false] at this
            have := R0 l
            omega
        have c1 := hT.cnt
        rw [S_congr (g := fun _ => 1) (fun i hi => by rw [allT i hi]; rfl), S_const] at c1
        omega
    have hq := qb j
    refine ⟨(tab n fun i => c * w i / all + if (T i || decide (i = j)) then 1 else 0, tab n fun i => if (T i || decide (i = j)) then -1 else c * w i % all), ?_, fun i => T i || decide (i = j), ⟨?_, ?_⟩, rfl, rfl⟩
    · unfold dispatchref21_Parts_l3
      dsimp only
      rw [decide_eq_true (by omega), ej]
      simp only [tab_len, inb_lt hj, tab_get hj, cond_true, Option.bind_some, hTj, Bool.false_eq_true, if_false, Int.add_zero]
      rw [w64_id (x := c * w j / all + 1) (by omega) (by omega), w64_id (x := (k : Int) - m - 1) (by omega) (by omega), tab_set hj, tab_set hj]
      have e1 : (tab n fun i => if i = j then c * w j / all + 1 else c * w i / all + if T i = true then 1 else 0) = tab n fun i => c * w i / all + if (T i || decide (i = j)) then 1 else 0 := by
        apply tab_ext
        intro i hi
        by_cases h : i = j
        · subst h; simp
        · simp [h]
      have e2 : (tab n fun i => if i = j then -1 else if T i = true then -1 else c * w i % all) = tab n fun i => if (T i || decide (i = j)) then -1 else c * w i % all := by
        apply tab_ext
        intro i hi
        by_cases h : i = j
        · subst h; simp
        · simp [h]
      rw [e1, e2]
      congr 4
      omega
    · rw [S_congr (g := fun i => (if T i then 1 else 0) + (if i = j then 1 else 0)), S_add, hT.cnt, S_one hj]
      · omega
      · intro i hi
        by_cases h : i = j
        · subst h; simp [hTj]
        · simp [h]
    · intro i l hi hl a b
      simp only [Bool.or_eq_false_iff, decide_eq_false_iff_not] at b
      simp only [Bool.or_eq_true, decide_eq_true_eq] at a
      rcases a with a | a
      · exact hT.bef i l hi hl a b.1
      · subst a
        have := hmax l hl
        simp only [hTj, b.1, Bool.false_eq_true, if_false] at this
        omega) (by
    rintro ⟨v1, v2⟩ _
    unfold dispatchref21_Parts_l3
    dsimp only
    rw [decide_eq_false (by omega)]
    rfl) (s := (tab n fun i => c * w i / all, tab n fun i => c * w i % all)) ⟨fun _ => false, ⟨by simp [S_const], fun i j _ _ h => by cases h⟩, tab_ext fun i hi => by simp, tab_ext fun i hi => by simp⟩
  have e' : loop dispatchref21_Parts_l3 (tab n fun i => c * w i / all, (k : Int), tab n fun i => c * w i % all) = some v.1 := by
    rw [← e]
    congr 2
  rw [e', hv1]
  exact ⟨T, k, hT, rfl, rfl⟩

/-- both part alike -/
theorem both_parts (count : Int) (ws : List Int) : ∃ x, split_Parts count ws = some (tab (min ws.length 100) x) ∧ dispatchref21_Parts count ws = some (tab (min ws.length 100) x) := by
  obtain ⟨a1, a2⟩ := parts_eq count ws rfl (w := fun i => gd (ws.getD i 0)) (fun _ => rfl) rfl rfl
  obtain ⟨b1, b2⟩ := rparts_eq count ws rfl (w := fun i => gd (ws.getD i 0)) (fun _ => rfl) rfl rfl
  by_cases h0 : S (fun i => gd (ws.getD i 0)) (min ws.length 100) = 0
  · exact ⟨_, a1 h0, b1 h0⟩
  · obtain ⟨T, k, p1, p2, p3⟩ := a2 h0
    obtain ⟨T', k', q1, q2, q3⟩ := b2 h0
    have hk : k' = k := by omega
    subst hk
    refine ⟨_, p3, ?_⟩
    rw [q3]
    congr 1
    exact tab_ext fun i hi => by rw [p1.uniq q1 (fun _ _ _ _ => Iff.rfl) i hi]
end Go.Fx.D

/-
  Laws over plain data: true at all inputs. Conditions: none.
-/
import Derived.Test.YtnmgbgbedngcmaaL
namespace Go.Fx.D
open Go Go.Fx
set_option linter.unusedVariables false
set_option linter.unusedSimpArgs false

/-- a search: goes on as long as 'p' holds -/
theorem loop_all {ρ : Type} (step : Int → Option (Int ⊕ ρ)) (n : Nat) (p : Nat → Bool) (bad : Nat → ρ) (good : ρ) (h1 : ∀ k : Nat, k < n → step k = some (bif p k then .inl ((k + 1 : Nat) : Int) else .inr (bad k))) (h2 : step (n : Int) = some (.inr good)) :
    ((∀ i, i < n → p i = true) ∧ loop step 0 = some good) ∨ ∃ i, i < n ∧ p i = false ∧ loop step 0 = some (bad i) := by
  have key : ∀ (m k : Nat), m + k = n → ((∀ i, k ≤ i → i < n → p i = true) ∧ loop step (k : Int) = some good) ∨ ∃ i, i < n ∧ p i = false ∧ loop step (k : Int) = some (bad i) := by
    intro m
    induction m with
    | zero =>
      intro k hk
      have hk : k = n := by omega
      subst hk
      exact .inl ⟨fun i h1 h2 => by omega, by rw [loop_eq, h2]⟩
    | succ m ih =>
      intro k hk
      have hk' : k < n := by omega
      cases hp : p k with
      | true =>
        rw [loop_eq, h1 k hk', hp]
        simp only [cond_true]
        rcases ih (k + 1) (by omega) with ⟨a, b⟩ | h
        · refine .inl ⟨fun i h1 h2 => ?_, b⟩
          by_cases e : i = k
          · subst e; exact hp
          · exact a i (by omega) h2
        · exact .inr h
      | false =>
        refine .inr ⟨k, hk', hp, ?_⟩
        rw [loop_eq, h1 k hk', hp]
        rfl
  rcases key n 0 rfl with ⟨a, b⟩ | h
  · exact .inl ⟨fun i hi => a i (by omega) hi, b⟩
  · exact .inr h

theorem in_eq {l : List Int} (hl : l.length ≤ 1000) (x : Int) : dispatchlaw21_in l x = some (decide (x ∈ l)) := by
  unfold dispatchlaw21_in
  rcases loop_all (dispatchlaw21_in_l1 l x) l.length (fun i => !(l.getD i 0 == x)) (fun _ => .inl true) (.inr ()) (by
    intro k hk
    unfold dispatchlaw21_in_l1
    rw [decide_eq_true (by omega), step_succ (by omega), idx_lt hk]
    have : l.getD k 0 = l[k] := by simp [List.getD, hk]
    rw [this]
    simp only [cond_true, Option.bind_some]
    cases l[k] == x <;> rfl) (by
    unfold dispatchlaw21_in_l1
    rw [decide_eq_false (by omega)]
    rfl) with ⟨a, b⟩ | ⟨i, hi, a, b⟩
  · rw [b]
    have : ¬ x ∈ l := by
      intro hx
      obtain ⟨i, hi, e⟩ := List.getElem_of_mem hx
      have := a i hi
      simp [List.getD, hi, e] at this
    simp [this]
  · rw [b]
    have : x ∈ l := by
      have : l[i] = x := by simpa [List.getD, hi] using a
      rw [← this]
      exact List.getElem_mem hi
    simp [this]

theorem contains_eq {l : List Int} (hl : l.length ≤ 1000) (x : Int) : slices_Contains___int_int_ l x = some (decide (x ∈ l)) := by
  unfold slices_Contains___int_int_ slices_Index___int_int_
  rcases loop_all (slices_Index___int_int__l1 l x) l.length (fun i => !(x == l.getD i 0)) (fun i => .inl (i : Int)) (.inr ()) (by
    intro k hk
    unfold slices_Index___int_int__l1
    rw [decide_eq_true (by omega), step_succ (by omega), idx_lt hk]
    have : l.getD k 0 = l[k] := by simp [List.getD, hk]
    rw [this]
    simp only [cond_true, Option.bind_some]
    cases x == l[k] <;> rfl) (by
    unfold slices_Index___int_int__l1
    rw [decide_eq_false (by omega)]
    rfl) with ⟨a, b⟩ | ⟨i, hi, a, b⟩
  · rw [b]
    have : ¬ x ∈ l := by
      intro hx
      obtain ⟨i, hi, e⟩ := List.getElem_of_mem hx
      have := a i hi
      simp [List.getD, hi, e] at this
    simp [this]
  · rw [b]
    have : x ∈ l := by
      have : x = l[i] := by simpa [List.getD, hi] using a
      rw [this]
      exact List.getElem_mem hi
    simp [this]

theorem few_eq (l : List Sub) (hl : l.length ≤ maxLen) : dispatchlaw21_few l = some false ∨ (dispatchlaw21_few l = some true ∧ l.length ≤ 4 ∧ ∀ x ∈ l, x.Racks.length ≤ 20) := by
  unfold dispatchlaw21_few
  rcases loop_all (dispatchlaw21_few_l1 l) l.length (fun i => !(decide (((l[i]?).elim 0 fun x => (x.Racks.length : Int)) > 20))) (fun i => .inl false) (.inr ()) (by
    intro k hk
    unfold dispatchlaw21_few_l1
    have e1 : w64 ((k : Int) + 1) = ((k + 1 : Nat) : Int) := by
      unfold maxLen at hl
      rw [w64_id (by omega) (by omega)]; omega
    rw [decide_eq_true (by omega), e1, idx_lt hk]
    simp only [cond_true, Option.bind_some, List.getElem?_eq_getElem hk, Option.elim_some]
    cases decide ((l[k].Racks.length : Int) > 20) <;> rfl) (by
    unfold dispatchlaw21_few_l1
    rw [decide_eq_false (by omega)]
    rfl) with ⟨a, b⟩ | ⟨i, hi, a, b⟩
  · rw [b]
    simp only [Option.bind_some]
    by_cases h : (l.length : Int) ≤ 4
    · refine .inr ⟨by rw [decide_eq_true h], by omega, ?_⟩
      intro x hx
      obtain ⟨i, hi, e⟩ := List.getElem_of_mem hx
      have := a i hi
      simp [hi, e] at this
      omega
    · exact .inl (by rw [decide_eq_false h])
  · rw [b]
    exact .inl rfl

theorem split1_eq (s : Sub) (rack : Int) (h : s.Racks.length ≤ 1000) : split_Split_1 s rack = some (if rack ≠ -1 ∧ rack ∈ s.Racks then 1 else 0) := by
  unfold split_Split_1
  rw [contains_eq h]
  by_cases h1 : rack = -1
  · subst h1; simp
  · have : (rack != -1) = true := by simpa using h1
    rw [this]
    by_cases h2 : rack ∈ s.Racks <;> simp [h1, h2]

/-- what is parted: those that are up have something -/
theorem split_eq {n : Nat} (hn : n ≤ 4) (s : Nat → Sub) (hs : ∀ i, i < n → 1 ≤ (s i).Weight ∧ (s i).Weight ≤ 9 ∧ 0 ≤ (s i).Load ∧ (s i).Load ≤ 9 ∧ (s i).Racks.length ≤ 20) {p : Int} (hp : p = 1 ∨ p = 2 ∨ p = 3) (c rack : Int) :
    ∃ W : Nat → Int, split_Split p (tab n s) c rack = split_Parts c (tab n W) ∧ (∀ i, i < n → 0 ≤ W i ∧ W i ≤ 1048576) ∧ (∀ i, i < n → (s i).Up = false → W i = 0) ∧ ((∃ i, i < n ∧ (s i).Up = true) → S W n ≠ 0) ∧
      (p = 2 → (∃ i, i < n ∧ (s i).Up = true ∧ rack ≠ -1 ∧ rack ∈ (s i).Racks) → ∀ i, i < n → W i ≠ 0 → rack ∈ (s i).Racks) := by
  have byW : split_weights (tab n s) (fun a => split_Sub_weight a.1) = some (tab n fun i => if (s i).Up then (s i).Weight else 0) := weights_eq (by omega) s _ (fun i => (s i).Weight) (fun i hi => rfl)
  have wok : (∀ i, i < n → 0 ≤ (if (s i).Up then (s i).Weight else 0) ∧ (if (s i).Up then (s i).Weight else 0) ≤ 1048576) := fun i hi => by have := hs i hi; split <;> omega
  have wup : (∃ i, i < n ∧ (s i).Up = true) → S (fun i => if (s i).Up then (s i).Weight else 0) n ≠ 0 := by
    rintro ⟨i, hi, hu⟩
    have := S_mem (f := fun i => if (s i).Up then (s i).Weight else 0) (fun i hi => (wok i hi).1) hi
    simp only [hu, if_true] at this
    have := hs i hi
    omega
  have fall : ∀ o : Option (List Int), (o.bind fun x => some x) = o := fun o => by cases o <;> rfl
  rcases hp with rfl | rfl | rfl
  · refine ⟨_, ?_, wok, fun i hi hu => by rw [hu]; rfl, wup, fun h => by omega⟩
    unfold split_Split
    rw [show ((1 : Int) == 2) = false from rfl, show ((1 : Int) == 1) = true from rfl]
    simp only [cond_false, cond_true]
    rw [byW]
    simp only [Option.bind_some, fall]
  · -- by rack
    have byR : split_weights (tab n s) (fun a => split_Split_1 a.1 rack) = some (tab n fun i => if (s i).Up then (if rack ≠ -1 ∧ rack ∈ (s i).Racks then 1 else 0) else 0) := weights_eq (by omega) s _ (fun i => if rack ≠ -1 ∧ rack ∈ (s i).Racks then 1 else 0) (fun i hi => split1_eq (s i) rack (by have := hs i hi; omega))
    generalize hg : (fun i => if (s i).Up then (if rack ≠ -1 ∧ rack ∈ (s i).Racks then (1 : Int) else 0) else 0) = g at byR
    have gb : ∀ i, 0 ≤ g i ∧ g i ≤ 1 := fun i => by rw [← hg]; dsimp only; repeat' split; all_goals omega
    have hsum : split_sum (tab n g) = some (S g n) := sum_eq (by omega) (fun i hi => by have := gb i; omega)
    have g0 : 0 ≤ S g n := S_nonneg fun i hi => (gb i).1
    by_cases hz : S g n > 0
    · refine ⟨g, ?_, fun i hi => by have := gb i; omega, fun i hi hu => by rw [← hg]; simp [hu], fun _ => by omega, fun _ _ i hi h0 => ?_⟩
      · unfold split_Split
        rw [show ((2 : Int) == 2) = true from rfl]
        simp only [cond_true]
        rw [byR]
        simp only [Option.bind_some]
        rw [hsum]
        simp only [Option.bind_some]
        rw [decide_eq_true hz]
        simp only [cond_true, fall]
      · rw [← hg] at h0
        dsimp only at h0
        split at h0
        · split at h0
          · rename_i h; exact h.2
          · exact absurd rfl h0
        · exact absurd rfl h0
    · refine ⟨_, ?_, wok, fun i hi hu => by rw [hu]; rfl, wup, ?_⟩
      · unfold split_Split
        rw [show ((2 : Int) == 2) = true from rfl]
        simp only [cond_true]
        rw [byR]
        simp only [Option.bind_some]
        rw [hsum]
        simp only [Option.bind_some]
        rw [decide_eq_false hz, byW]
        simp only [cond_false, Option.bind_some, fall]
      · rintro _ ⟨i, hi, hu, h1, h2⟩
        exfalso
        have := S_mem (f := g) (fun i _ => (gb i).1) hi
        have e1 : g i = 1 := by rw [← hg]; simp [hu, h1, h2]
        omega
  · obtain ⟨L, hL, e⟩ := split3_eq (n := n) (by omega) s c rack
    have hb : ∀ i, i < n → 100000 ≤ 1000000 / (1 + L i) ∧ 1000000 / (1 + L i) ≤ 1000000 := fun i hi => by
      have h := hs i hi
      have := (hL i).2.2 h.2.2.1 (by omega)
      rw [this]
      exact ⟨(Int.le_ediv_iff_mul_le (by omega)).2 (by omega), Int.ediv_le_self _ (by omega)⟩
    refine ⟨_, e, fun i hi => by have := hb i hi; split <;> omega, fun i hi hu => by rw [hu]; rfl, ?_, fun h => by omega⟩
    rintro ⟨i, hi, hu⟩
    have := S_mem (f := fun i => if (s i).Up then 1000000 / (1 + L i) else 0) (fun i hi => by have := hb i hi; split <;> omega) hi
    simp only [hu, if_true] at this
    have := hb i hi
    omega

/-- some of the first ones -/
def someB (p : Nat → Bool) (k : Nat) : Bool := (List.range k).any p
theorem someB_succ (p : Nat → Bool) (k : Nat) : someB p (k + 1) = (someB p k || p k) := by simp [someB, List.range_succ]
theorem someB_iff {p : Nat → Bool} {k : Nat} : someB p k = true ↔ ∃ i, i < k ∧ p i = true := by simp [someB]

def moved' (x : Sub) : Sub := ⟨1 + x.Weight % 9, x.Up, x.Racks, x.Load % 9⟩

theorem ups_l1 {n : Nat} (hn : n ≤ 4) (s : Nat → Sub) (hr : ∀ i, i < n → (s i).Racks.length ≤ 20) (rack : Int) :
    loop (dispatchlaw21_SplitUps_l1 rack) (tab n s, false, false, 0) = some (tab n fun i => moved' (s i), someB (fun i => (s i).Up) n, someB (fun i => (s i).Up && (decide (rack ≥ 0) && decide (rack ∈ (s i).Racks))) n) := by
  obtain ⟨v, e, hv⟩ := loop_inv (fun (v : List Sub × Bool × Bool) k => (v.1, v.2.1, v.2.2, k)) (dispatchlaw21_SplitUps_l1 rack) n
    (fun k v => v.1 = (tab n fun i => if i < k then moved' (s i) else s i) ∧ v.2.1 = someB (fun i => (s i).Up) k ∧ v.2.2 = someB (fun i => (s i).Up && (decide (rack ≥ 0) && decide (rack ∈ (s i).Racks))) k) (fun v => v) (by
    rintro k hk ⟨v1, v2, v3⟩ ⟨h1, h2, h3⟩
    dsimp only at h1 h2 h3
    subst h1 h2 h3
    refine ⟨(tab n fun i => if i < k + 1 then moved' (s i) else s i, someB (fun i => (s i).Up) (k + 1), someB (fun i => (s i).Up && (decide (rack ≥ 0) && decide (rack ∈ (s i).Racks))) (k + 1)), ?_, rfl, rfl, rfl⟩
    unfold dispatchlaw21_SplitUps_l1
    have w0 := Int.emod_nonneg (s k).Weight (show (9 : Int) ≠ 0 by omega)
    have w1 := Int.emod_lt_of_pos (s k).Weight (show (0 : Int) < 9 by omega)
    rw [decide_eq_true (by dsimp only; rw [tab_len]; omega), step_succ (by omega)]
    dsimp only
    simp only [tab_set hk, tab_len, inb_lt hk, tab_get hk, Nat.lt_irrefl, if_false, if_true, cond_true, Option.bind_some]
    rw [within_eq (by omega) (by omega)]
    simp only [Option.bind_some]
    rw [within_eq (by omega) (by omega)]
    simp only [Option.bind_some, tab_set hk, tab_len, inb_lt hk, tab_get hk, if_true]
    rw [w64_id (x := 1 + (s k).Weight % 9) (by omega) (by omega)]
    have etab : (tab n fun i => if i = k then (⟨1 + (s k).Weight % 9, (s k).Up, (s k).Racks, (s k).Load % 9⟩ : Sub) else if i = k then ⟨1 + (s k).Weight % 9, (s k).Up, (s k).Racks, (s k).Load⟩ else if i < k then moved' (s i) else s i) = tab n fun i => if i < k + 1 then moved' (s i) else s i := by
      apply tab_ext
      intro i hi
      by_cases e : i = k
      · subst e
        rw [if_pos rfl, if_pos (by omega)]
        rfl
      · rw [if_neg e, if_neg e]
        by_cases h2 : i < k
        · have h3 : i < k + 1 := by omega
          simp only [h2, h3, if_true]
        · have h3 : ¬ i < k + 1 := by omega
          simp only [h2, h3, if_false]
    rw [etab, someB_succ, someB_succ]
    rw [in_eq (by have := hr k hk; omega)]
    cases someB (fun i => (s i).Up) k <;> cases someB (fun i => (s i).Up && (decide (rack ≥ 0) && decide (rack ∈ (s i).Racks))) k <;> cases (s k).Up <;> cases decide (rack ≥ 0) <;> rfl) (by
    rintro ⟨v1, v2, v3⟩ ⟨h1, h2, h3⟩
    dsimp only at h1 h2 h3
    subst h1 h2 h3
    unfold dispatchlaw21_SplitUps_l1
    rw [decide_eq_false (by dsimp only; rw [tab_len]; omega)]
    rfl) (s := (tab n s, false, false)) ⟨tab_ext fun i hi => by rw [if_neg (by omega)], rfl, rfl⟩
  obtain ⟨v1, v2, v3⟩ := v
  obtain ⟨h1, h2, h3⟩ := hv
  dsimp only at h1 h2 h3
  rw [e, h1, h2, h3]
  congr 2
  exact tab_ext fun i hi => by rw [if_pos hi]

theorem tab_ofS (l : List Sub) : l = tab l.length fun i => l.getD i ⟨0, false, [], 0⟩ := by
  apply List.ext_getElem?
  intro i
  by_cases hi : i < l.length
  · rw [tab_get hi]; simp [List.getD, hi]
  · rw [List.getElem?_eq_none (by omega), List.getElem?_eq_none (by rw [tab_len]; omega)]

theorem wf_len {F : Fam} {t : Ty} {l : List (ET F t)} (h : WfT F (.slice t) l) : l.length ≤ maxLen := by
  cases h with | slice hl _ => exact hl

theorem plainSplitUps (policy : Int) (l : List Sub) (count : Int) (rack : Int) (w0 : WfT fam (.int .i64) policy) (w1 : WfT fam (.slice (.st 1)) l) (w2 : WfT fam (.int .i64) count) (w3 : WfT fam (.int .i64) rack) : dispatchlaw21_SplitUps policy l count rack = some true := by
  unfold dispatchlaw21_SplitUps
  rw [known_eq]
  simp only [Option.bind_some, Bool.not_true, cond_false]
  have hml : l.length ≤ maxLen := wf_len w1
  rcases few_eq l hml with hf | ⟨hf, hl4, hr⟩
  · rw [hf]
    rfl
  rw [hf]
  simp only [Option.bind_some, Bool.not_true, cond_false]
  rw [within_eq (by omega) (by omega), within_eq (by omega) (by omega)]
  simp only [Option.bind_some]
  have c0 := Int.emod_nonneg count (show (200 : Int) ≠ 0 by omega)
  have c1 := Int.emod_lt_of_pos count (show (0 : Int) < 200 by omega)
  have p0 := Int.emod_nonneg policy (show (3 : Int) ≠ 0 by omega)
  have p1 := Int.emod_lt_of_pos policy (show (0 : Int) < 3 by omega)
  generalize count % 200 = c at *
  generalize policy % 3 = x2 at *
  rw [app_ok (by simp; omega) (by omega)]
  simp only [Option.bind_some, List.nil_append]
  obtain ⟨n, hn⟩ : ∃ n, n = l.length := ⟨_, rfl⟩
  obtain ⟨s, hs⟩ : ∃ s : Nat → Sub, s = fun i => l.getD i ⟨0, false, [], 0⟩ := ⟨_, rfl⟩
  have el : l = tab n s := by rw [hn, hs]; exact tab_ofS l
  have hn4 : n ≤ 4 := by omega
  have hrs : ∀ i, i < n → (s i).Racks.length ≤ 20 := fun i hi => hr _ (by rw [el]; exact tab_mem.2 ⟨i, hi, rfl⟩)
  rw [el, ups_l1 hn4 s hrs rack]
  simp only [Option.bind_some]
  have e2 : w64 (1 + x2) = 1 + x2 := w64_id (by omega) (by omega)
  rw [e2]
  have hm : ∀ i, i < n → 1 ≤ (moved' (s i)).Weight ∧ (moved' (s i)).Weight ≤ 9 ∧ 0 ≤ (moved' (s i)).Load ∧ (moved' (s i)).Load ≤ 9 ∧ (moved' (s i)).Racks.length ≤ 20 := by
    intro i hi
    have := hrs i hi
    unfold moved'
    dsimp only
    omega
  obtain ⟨W, eW, Wb, Wup, Wany, Wnear⟩ := split_eq hn4 (fun i => moved' (s i)) hm (p := 1 + x2) (by omega) c rack
  rw [eW]
  -- the parts
  obtain ⟨x, ex, hx0, hxz, hxs⟩ : ∃ x : Nat → Int, split_Parts c (tab n W) = some (tab n x) ∧ (∀ i, i < n → 0 ≤ x i ∧ x i ≤ 200) ∧ (∀ i, i < n → W i = 0 → x i = 0) ∧ S x n = (if S W n = 0 then 0 else c) := by
    by_cases h0 : S W n = 0
    · refine ⟨fun _ => 0, (parts_tab (by omega) Wb (by omega) rfl).1 h0, fun i hi => by show (0 : Int) ≤ 0 ∧ (0 : Int) ≤ 200; omega, fun _ _ _ => rfl, ?_⟩
      rw [if_pos h0, S_const]; simp
    · obtain ⟨x, k1, k2, k3⟩ := parts_laws (by omega) Wb (c := c) (by omega) rfl h0
      refine ⟨x, k1, fun i hi => by have := k3 i hi; omega, fun i hi => (k3 i hi).2.2.1, ?_⟩
      rw [if_neg h0, k2]
  rw [ex]
  simp only [Option.bind_some]
  generalize hany : someB (fun i => (s i).Up) n = any
  generalize hnear : someB (fun i => (s i).Up && (decide (rack ≥ 0) && decide (rack ∈ (s i).Racks))) n = near
  obtain ⟨v, e, hv⟩ := loop_inv (fun (v : Int) k => (v, k)) (dispatchlaw21_SplitUps_l2 rack x2 (tab n fun i => moved' (s i), any, near) (tab n x)) n (fun k v => v = S x k) (fun v => .inr v) (by
    rintro k hk v rfl
    refine ⟨S x (k + 1), ?_, rfl⟩
    unfold dispatchlaw21_SplitUps_l2
    have b1 := S_nonneg (f := x) (n := k) (fun i hi => (hx0 i (by omega)).1)
    have b2 := S_le (f := x) (g := fun _ => 200) (n := k) (fun i hi => (hx0 i (by omega)).2)
    rw [S_const] at b2
    have b3 := hx0 k hk
    rw [decide_eq_true (by dsimp only; rw [tab_len]; omega), step_succ (by omega), e2]
    dsimp only
    simp only [tab_len, inb_lt hk, tab_get hk, cond_true, Option.bind_some]
    rw [in_eq (by have := hrs k hk; unfold moved'; dsimp only; omega), w64_id (x := S x k + x k) (by omega) (by omega)]
    have eU : (moved' (s k)).Up = (s k).Up := rfl
    have eR : (moved' (s k)).Racks = (s k).Racks := rfl
    rw [eU, eR]
    have fine : (1 + x2 == 2) = true → near = true → x k ≠ 0 → decide (rack ∈ (s k).Racks) = true := by
      intro h1 h2 h3
      rw [decide_eq_true_eq]
      refine Wnear (by simpa using h1) ?_ k hk (fun h => h3 (hxz k hk h))
      rw [← hnear, someB_iff] at h2
      obtain ⟨i, hi, h⟩ := h2
      simp only [Bool.and_eq_true, decide_eq_true_eq] at h
      exact ⟨i, hi, h.1, by omega, h.2.2⟩
    have up0 : (s k).Up = false → (x k != 0) = false := by
      intro h
      have := hxz k hk (Wup k hk h)
      simp [this]
    have hS : S x (k + 1) = S x k + x k := rfl
    rw [hS]
    cases hu : (s k).Up with
    | false =>
      rw [up0 hu]
      simp only [Bool.not_false, cond_true, cond_false]
      cases h1 : (1 + x2 == 2) <;> cases h2 : near <;> rfl
    | true =>
      simp only [Bool.not_true, cond_false]
      cases h1 : (1 + x2 == 2) with
      | false => rfl
      | true =>
        cases h2 : near with
        | false => rfl
        | true =>
          by_cases h3 : x k = 0
          · rw [h3]; rfl
          · rw [fine h1 h2 h3, show (x k != 0) = true by simpa using h3]
            rfl) (by
    rintro v rfl
    unfold dispatchlaw21_SplitUps_l2
    rw [decide_eq_false (by dsimp only; rw [tab_len]; omega)]
    rfl) (s := 0) rfl
  rw [e, hv]
  simp only [Option.bind_some, tab_len, beq_self_eq_true, cond_true]
  cases any with
  | true =>
    have : S W n ≠ 0 := Wany (by rw [someB_iff] at hany; exact hany)
    rw [hxs, if_neg this]
    simp
  | false =>
    have : S W n = 0 := by
      rw [S_congr (g := fun _ => 0), S_const]
      · simp
      · intro i hi
        apply Wup i hi
        cases h : (moved' (s i)).Up with
        | false => rfl
        | true =>
          exfalso
          have h' : (s i).Up = true := h
          have : someB (fun i => (s i).Up) n = true := someB_iff.2 ⟨i, hi, h'⟩
          rw [hany] at this
          cases this
    rw [hxs, if_pos this]
    rfl
end Go.Fx.D

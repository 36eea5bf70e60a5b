/-
  Laws over plain data: true at all inputs. Conditions: none.
-/
import Derived.Test.YtnmgbgbedngcmaaK
import Derived.Test.YtnmgbgbedngcmaaT
namespace Go.Fx.D
open Go Go.Fx
set_option linter.unusedVariables false
set_option linter.unusedSimpArgs false

theorem has_eq {l : List Int} (hl : l.length ≤ 1000) (x : Int) : dispatchref21_has l x = some (decide (x ∈ l)) := in_eq hl x

def ldv (x : Sub) : Int := 1000000 / (1 + imin (imax x.Load 0) 999999)
theorem imin_bd (x : Sub) : 0 ≤ imin (imax x.Load 0) 999999 ∧ imin (imax x.Load 0) 999999 ≤ 999999 := by unfold imin imax; repeat' split; all_goals omega
theorem ldv_eq (x : Sub) : split_Sub_load x = some (ldv x) := by
  unfold split_Sub_load ldv
  have hL := imin_bd x
  generalize imin (imax x.Load 0) 999999 = L at *
  rw [w64_id (x := 1 + L) (by omega) (by omega), nz_ok (by omega), Int.tdiv_eq_ediv_of_nonneg (by omega)]
  have h0 : 0 ≤ 1000000 / (1 + L) := Int.ediv_nonneg (by omega) (by omega)
  have h1 : 1000000 / (1 + L) ≤ 1000000 := Int.ediv_le_self _ (by omega)
  rw [w64_id (by omega) (by omega)]
  rfl

theorem of_eq {n : Nat} (hn : n ≤ 4) (s : Nat → Sub) (hr : ∀ i, i < n → (s i).Racks.length ≤ 20) : dispatchlaw21_of (tab n s) = some (tab n s) := by
  unfold dispatchlaw21_of
  obtain ⟨v, e, hv⟩ := loop_inv (fun (v : List Sub) k => (v, k)) (dispatchlaw21_of_l1 (tab n s)) n (fun k v => v = tab k s) (fun v => v) (by
    rintro k hk v rfl
    refine ⟨tab (k + 1) s, ?_, rfl⟩
    have := hr k hk
    unfold dispatchlaw21_of_l1
    rw [decide_eq_true (by dsimp only; rw [tab_len]; omega), step_succ (by omega)]
    dsimp only
    rw [idx_tab hk]
    simp only [cond_true, Option.bind_some]
    rw [app_ok (by simp; omega) (by omega)]
    simp only [Option.bind_some, List.nil_append]
    rw [app_ok (by simp [tab_len]; omega) (by omega), tab_snoc]
    rfl) (by
    rintro v rfl
    unfold dispatchlaw21_of_l1
    rw [decide_eq_false (by dsimp only; rw [tab_len]; omega)]
    rfl) (s := []) rfl
  rw [e, hv]
  rfl

/-- by a rack that some has -/
def nearB (s : Nat → Sub) (rack : Int) (k : Nat) : Bool := someB (fun i => (s i).Up && (decide (rack ≠ -1) && decide (rack ∈ (s i).Racks))) k

theorem near_eq {n : Nat} (hn : n ≤ 4) (s : Nat → Sub) (hr : ∀ i, i < n → (s i).Racks.length ≤ 20) (rack : Int) : loop (dispatchref21_Split_l1 (tab n s) rack) (false, 0) = some (nearB s rack n) := by
  obtain ⟨v, e, hv⟩ := loop_inv (fun (v : Bool) k => (v, k)) (dispatchref21_Split_l1 (tab n s) rack) n (fun k v => v = nearB s rack k) (fun v => v) (by
    rintro k hk v rfl
    refine ⟨nearB s rack (k + 1), ?_, rfl⟩
    unfold dispatchref21_Split_l1
    rw [decide_eq_true (by dsimp only; rw [tab_len]; omega), step_succ (by omega)]
    dsimp only
    rw [idx_tab hk]
    simp only [cond_true, Option.bind_some]
    rw [has_eq (by have := hr k hk; omega)]
    have e1 : nearB s rack (k + 1) = (nearB s rack k || ((s k).Up && (decide (rack ≠ -1) && decide (rack ∈ (s k).Racks)))) := someB_succ _ _
    rw [e1]
    have e2 : (rack != -1) = decide (rack ≠ -1) := by
      rw [Bool.eq_iff_iff]; simp
    rw [e2]
    cases nearB s rack k <;> cases (s k).Up <;> cases decide (rack ≠ -1) <;> rfl) (by
    rintro v rfl
    unfold dispatchref21_Split_l1
    rw [decide_eq_false (by dsimp only; rw [tab_len]; omega)]
    rfl) (s := false) rfl
  rw [e, hv]

/-- what the document gives each -/
def refW (s : Nat → Sub) (rack p : Int) (i : Nat) : Int :=
  bif (s i).Up then bif p == 1 then (s i).Weight else bif (p == 2) && decide (rack ∈ (s i).Racks) then 1 else bif p == 3 then ldv (s i) else 0 else 0

theorem refw_eq {n : Nat} (hn : n ≤ 4) (s : Nat → Sub) (hr : ∀ i, i < n → (s i).Racks.length ≤ 20) (rack p : Int) : loop (dispatchref21_Split_l2 (tab n s) rack p) (tab n fun _ => 0, 0) = some (tab n (refW s rack p)) := by
  obtain ⟨v, e, hv⟩ := loop_inv (fun (v : List Int) k => (v, k)) (dispatchref21_Split_l2 (tab n s) rack p) n (fun k v => v = tab n fun i => if i < k then refW s rack p i else 0) (fun v => v) (by
    rintro k hk v rfl
    refine ⟨tab n fun i => if i < k + 1 then refW s rack p i else 0, ?_, rfl⟩
    have keep : refW s rack p k = 0 → (tab n fun i => if i < k then refW s rack p i else 0) = tab n fun i => if i < k + 1 then refW s rack p i else 0 := by
      intro h0
      apply tab_ext
      intro i hi
      by_cases e : i = k
      · subst e; rw [if_neg (by omega), if_pos (by omega), h0]
      · by_cases h2 : i < k
        · rw [if_pos h2, if_pos (by omega)]
        · rw [if_neg h2, if_neg (by omega)]
    have put : ∀ v, v = refW s rack p k → (tab n fun i => if i < k then refW s rack p i else 0).set k v = tab n fun i => if i < k + 1 then refW s rack p i else 0 := fun v hv => tab_upd (refW s rack p) (fun _ => 0) hk hv
    unfold dispatchref21_Split_l2
    have hL := imin_bd (s k)
    have h0 : 0 ≤ ldv (s k) := Int.ediv_nonneg (by omega) (by omega)
    have h1 : ldv (s k) ≤ 1000000 := Int.ediv_le_self _ (by omega)
    rw [decide_eq_true (by dsimp only; rw [tab_len]; omega), step_succ (by omega)]
    dsimp only
    rw [idx_tab hk]
    simp only [cond_true, Option.bind_some, tab_len, inb_lt hk, tab_get hk]
    rw [has_eq (by have := hr k hk; omega), w64_id (x := 1 + imin (imax (s k).Load 0) 999999) (by omega) (by omega), nz_ok (by omega), Int.tdiv_eq_ediv_of_nonneg (by omega)]
    have e1 : w64 (1000000 / (1 + imin (imax (s k).Load 0) 999999)) = ldv (s k) := w64_id (by unfold ldv at h0; omega) (by unfold ldv at h1; omega)
    rw [e1]
    simp only [Option.bind_some]
    cases hu : (s k).Up with
    | false =>
      simp only [Bool.not_false, cond_true, Option.bind_some]
      rw [keep (by unfold refW; rw [hu]; rfl)]
    | true =>
      simp only [Bool.not_true, cond_false]
      cases hp1 : p == 1 with
      | true =>
        simp only [cond_true, Option.bind_some]
        rw [put _ (by unfold refW; rw [hu, hp1]; rfl)]
      | false =>
        simp only [cond_false]
        cases hp2 : p == 2 with
        | true =>
          simp only [cond_true, Option.bind_some]
          cases hm : decide (rack ∈ (s k).Racks) with
          | true =>
            simp only [cond_true, Option.bind_some]
            rw [put _ (by unfold refW; rw [hu, hp1, hp2, hm]; rfl)]
          | false =>
            have hp3 : (p == 3) = false := by
              rw [beq_iff_eq] at hp2
              rw [hp2]
              rfl
            simp only [cond_false, hp3, Option.bind_some]
            rw [keep (by unfold refW; rw [hu, hp1, hp2, hm, hp3]; rfl)]
        | false =>
          simp only [cond_false, Option.bind_some]
          cases hp3 : p == 3 with
          | true =>
            simp only [cond_true, Option.bind_some]
            rw [put _ (by unfold refW; rw [hu, hp1, hp2, hp3]; rfl)]
          | false =>
            simp only [cond_false, Option.bind_some]
            rw [keep (by unfold refW; rw [hu, hp1, hp2, hp3]; rfl)]) (by
    rintro v rfl
    unfold dispatchref21_Split_l2
    rw [decide_eq_false (by dsimp only; rw [tab_len]; omega)]
    rfl) (s := tab n fun _ => 0) (tab_ext fun i hi => by rw [if_neg (by omega)])
  rw [e, hv]
  congr 1
  exact tab_ext fun i hi => by rw [if_pos hi]

theorem both_split {n : Nat} (hn : n ≤ 4) (s : Nat → Sub) (hr : ∀ i, i < n → (s i).Racks.length ≤ 20) (p c rack : Int) : ∃ x, split_Split p (tab n s) c rack = some (tab n x) ∧ dispatchref21_Split p (tab n s) c rack = some (tab n x) := by
  have fall : ∀ o : Option (List Int), (o.bind fun x => some x) = o := fun o => by cases o <;> rfl
  have byW : split_weights (tab n s) (fun a => split_Sub_weight a.1) = some (tab n fun i => if (s i).Up then (s i).Weight else 0) := weights_eq (by omega) s _ (fun i => (s i).Weight) (fun i hi => rfl)
  have byL : split_weights (tab n s) (fun a => split_Sub_load a.1) = some (tab n fun i => if (s i).Up then ldv (s i) else 0) := weights_eq (by omega) s _ (fun i => ldv (s i)) (fun i hi => ldv_eq _)
  have byR : split_weights (tab n s) (fun a => split_Split_1 a.1 rack) = some (tab n fun i => if (s i).Up then (if rack ≠ -1 ∧ rack ∈ (s i).Racks then 1 else 0) else 0) := weights_eq (by omega) s _ (fun i => if rack ≠ -1 ∧ rack ∈ (s i).Racks then 1 else 0) (fun i hi => split1_eq (s i) rack (by have := hr i hi; omega))
  -- the document's, by the policy that it goes by
  have refp : ∀ p', (bif (bif p == 2 then ! nearB s rack n else false) then (1 : Int) else p) = p' → dispatchref21_Split p (tab n s) c rack = dispatchref21_Parts c (tab n (refW s rack p')) := by
    intro p' hp'
    unfold dispatchref21_Split
    rw [near_eq hn s hr rack]
    simp only [Option.bind_some, tab_len]
    rw [mkl_ok (by omega) (by omega)]
    have e1 : ((bif p == 2 then some (!nearB s rack n) else some false).bind fun q => bif q then some (1 : Int) else some p) = some p' := by
      rw [← hp']
      cases p == 2 <;> cases nearB s rack n <;> rfl
    rw [e1]
    simp only [Option.bind_some]
    rw [refw_eq hn s hr rack p']
    simp only [Option.bind_some, fall]
  have parts : ∀ W, ∃ x, split_Parts c (tab n W) = some (tab n x) ∧ dispatchref21_Parts c (tab n W) = some (tab n x) := by
    intro W
    obtain ⟨x, h1, h2⟩ := both_parts c (tab n W)
    rw [tab_len, Nat.min_eq_left (by omega)] at h1 h2
    exact ⟨x, h1, h2⟩
  have eW : ∀ p', p' = 1 → tab n (refW s rack p') = tab n fun i => if (s i).Up then (s i).Weight else 0 := by
    rintro p' rfl
    apply tab_ext
    intro i hi
    unfold refW
    cases (s i).Up <;> rfl
  unfold split_Split
  by_cases h2 : p = 2
  · subst h2
    rw [show ((2 : Int) == 2) = true from rfl]
    simp only [cond_true]
    rw [byR]
    simp only [Option.bind_some]
    generalize hg : (fun i => if (s i).Up then (if rack ≠ -1 ∧ rack ∈ (s i).Racks then (1 : Int) else 0) else 0) = g
    have gb : ∀ i, 0 ≤ g i ∧ g i ≤ 1 := fun i => by rw [← hg]; dsimp only; repeat' split; all_goals omega
    have hsum : split_sum (tab n g) = some (S g n) := sum_eq (by omega) (fun i hi => by have := gb i; omega)
    rw [hsum]
    simp only [Option.bind_some]
    cases hn2 : nearB s rack n with
    | true =>
      have hnear := someB_iff.1 hn2
      obtain ⟨i, hi, h⟩ := hnear
      simp only [Bool.and_eq_true, decide_eq_true_eq] at h
      have hS : S g n > 0 := by
        have := S_mem (f := g) (fun i _ => (gb i).1) hi
        have e1 : g i = 1 := by rw [← hg]; simp [h.1, h.2.1, h.2.2]
        omega
      rw [decide_eq_true hS]
      simp only [cond_true, fall]
      obtain ⟨x, k1, k2⟩ := parts g
      refine ⟨x, k1, ?_⟩
      rw [refp 2 (by rw [hn2]; rfl), ← k2]
      congr 1
      apply tab_ext
      intro i' hi'
      rw [← hg]
      unfold refW
      dsimp only
      have h1 : rack ≠ -1 := h.2.1
      cases (s i').Up with
      | false => rfl
      | true =>
        by_cases hm : rack ∈ (s i').Racks
        · simp [h1, hm]
        · simp [h1, hm]
    | false =>
      have hS : ¬ S g n > 0 := by
        rw [S_congr (g := fun _ => 0), S_const]
        · simp
        · intro i hi
          rw [← hg]
          dsimp only
          split
          · split
            · rename_i h1 h2
              exfalso
              have : nearB s rack n = true := someB_iff.2 ⟨i, hi, by simp [h1, h2.1, h2.2]⟩
              rw [hn2] at this
              cases this
            · rfl
          · rfl
      rw [decide_eq_false hS, byW]
      simp only [cond_false, Option.bind_some, fall]
      obtain ⟨x, k1, k2⟩ := parts fun i => if (s i).Up then (s i).Weight else 0
      refine ⟨x, k1, ?_⟩
      rw [refp 1 (by rw [hn2]; rfl), eW 1 rfl, k2]
  · rw [show (p == 2) = false by simpa using h2]
    have rp := refp p (by rw [show (p == 2) = false by simpa using h2]; rfl)
    simp only [cond_false]
    by_cases h1 : p = 1
    · subst h1
      rw [show ((1 : Int) == 1) = true from rfl, byW]
      simp only [cond_true, Option.bind_some, fall]
      obtain ⟨x, k1, k2⟩ := parts fun i => if (s i).Up then (s i).Weight else 0
      refine ⟨x, k1, ?_⟩
      rw [rp, eW 1 rfl, k2]
    · rw [show (p == 1) = false by simpa using h1]
      simp only [cond_false]
      by_cases h3 : p = 3
      · subst h3
        rw [show ((3 : Int) == 3) = true from rfl, byL]
        simp only [cond_true, Option.bind_some, fall]
        obtain ⟨x, k1, k2⟩ := parts fun i => if (s i).Up then ldv (s i) else 0
        refine ⟨x, k1, ?_⟩
        rw [rp, ← k2]
        congr 1
        apply tab_ext
        intro i hi
        unfold refW
        cases (s i).Up <;> rfl
      · rw [show (p == 3) = false by simpa using h3, tab_len, mkl_ok (by omega) (by omega)]
        simp only [cond_false, Option.bind_some]
        refine ⟨fun _ => 0, rfl, ?_⟩
        rw [rp]
        have e0 : tab n (refW s rack p) = tab n fun _ => 0 := by
          apply tab_ext
          intro i hi
          unfold refW
          rw [show (p == 2) = false by simpa using h2, show (p == 1) = false by simpa using h1, show (p == 3) = false by simpa using h3]
          cases (s i).Up <;> rfl
        rw [e0]
        obtain ⟨b1, _⟩ := rparts_eq c (tab n fun _ => 0) (n := n) (by rw [tab_len]; omega) (w := fun i => gd ((tab n fun _ => 0).getD i 0)) (fun _ => rfl) rfl rfl
        refine b1 ?_
        rw [S_congr (g := fun _ => 0), S_const]
        · simp
        · intro i hi
          have : (tab n fun _ => (0 : Int)).getD i 0 = 0 := by rw [List.getD_eq_getElem?_getD, tab_get hi]; rfl
          rw [this]
          rfl

theorem both_home {n : Nat} (hn : n ≤ 4) (s : Nat → Sub) (app_ : Int) : ∃ a e, split_Home (tab n s) app_ = some (a, e) ∧ dispatchref21_Home (tab n s) app_ = some (a, e) := by
  have hl : loop (split_Home_l1 (tab n s)) ([], 0) = some (upsOf (fun i => (s i).Up) n) := ups_loop (by omega) s
  have hl' : loop (dispatchref21_Home_l1 (tab n s)) ([], 0) = some (upsOf (fun i => (s i).Up) n) := hl
  by_cases h : app_ < 0
  · refine ⟨0, 1, ?_, ?_⟩
    · unfold split_Home
      rw [hl]
      simp only [Option.bind_some]
      rw [decide_eq_true h]
      rfl
    · unfold dispatchref21_Home
      rw [decide_eq_true h]
      rfl
  · have e := home_eq (n := n) (by omega) s app_ (by omega)
    have same : dispatchref21_Home (tab n s) app_ = split_Home (tab n s) app_ := by
      unfold split_Home dispatchref21_Home
      rw [hl, hl', decide_eq_false h]
      rfl
    rw [same]
    generalize hv : (if (upsOf (fun i => (s i).Up) n).length = 0 then (0, 18) else ((upsOf (fun i => (s i).Up) n).getD (app_ % (upsOf (fun i => (s i).Up) n).length).toNat 0, 0) : Int × Int) = v at e
    exact ⟨v.1, v.2, e, e⟩

theorem plainSplitAsks (policy : Int) (l : List Sub) (count : Int) (rack : Int) (app_ : Int) (w0 : WfT fam (.int .i64) policy) (w1 : WfT fam (.slice (.st 1)) l) (w2 : WfT fam (.int .i64) count) (w3 : WfT fam (.int .i64) rack) (w4 : WfT fam (.int .i64) app_) : dispatchlaw21_SplitAsks policy l count rack app_ = some true := by
  unfold dispatchlaw21_SplitAsks
  rw [known_eq]
  simp only [Option.bind_some, Bool.not_true, cond_false]
  rcases few_eq l (wf_len w1) with hf | ⟨hf, hl4, hr⟩
  · rw [hf]
    rfl
  rw [hf]
  simp only [Option.bind_some, Bool.not_true, cond_false]
  obtain ⟨n, hn⟩ : ∃ n, n = l.length := ⟨_, rfl⟩
  obtain ⟨s, hs⟩ : ∃ s : Nat → Sub, s = fun i => l.getD i ⟨0, false, [], 0⟩ := ⟨_, rfl⟩
  have el : l = tab n s := by rw [hn, hs]; exact tab_ofS l
  have hn4 : n ≤ 4 := by omega
  have hrs : ∀ i, i < n → (s i).Racks.length ≤ 20 := fun i hi => hr _ (by rw [el]; exact tab_mem.2 ⟨i, hi, rfl⟩)
  rw [el]
  obtain ⟨v, e, _⟩ := loop_inv (fun (v : Int × Int × Int) k => (v.1, v.2.1, v.2.2, k)) (dispatchlaw21_SplitAsks_l1 (tab n s)) 4 (fun _ _ => True) (fun _ => .inr ()) (by
    rintro k hk ⟨p, c, r⟩ _
    obtain ⟨x, k1, k2⟩ := both_split hn4 s hrs p c r
    unfold dispatchlaw21_SplitAsks_l1
    dsimp only
    rw [decide_eq_true (by omega), step_succ (by omega), k1, of_eq hn4 s hrs]
    simp only [cond_true, Option.bind_some]
    rw [k2]
    simp only [Option.bind_some]
    rw [ints_eq (by omega) (fun _ _ => rfl)]
    simp only [Option.bind_some, Bool.not_true, cond_false]
    rw [within_eq (by omega) (by omega)]
    simp only [Option.bind_some, tab_len]
    by_cases h0 : (n : Int) > 0
    · have hn0 : 0 < n := by omega
      have i0 : idx (tab n s) 0 = some (s 0) := idx_tab (i := 0) hn0
      rw [decide_eq_true h0, i0]
      simp only [cond_true, Option.bind_some]
      by_cases hk0 : ((s 0).Racks.length : Int) > 0
      · rw [decide_eq_true hk0]
        have ir : idx (s 0).Racks 0 = some ((s 0).Racks[0]'(by omega)) := idx_lt (k := 0) (by omega)
        rw [ir]
        simp only [cond_true, Option.bind_some]
        cases decide ((k : Int) > 1)
        · exact ⟨(_, _, _), rfl, trivial⟩
        · exact ⟨(_, _, _), rfl, trivial⟩
      · rw [decide_eq_false hk0]
        exact ⟨(_, _, _), rfl, trivial⟩
    · rw [decide_eq_false h0]
      exact ⟨(_, _, _), rfl, trivial⟩) (by
    rintro ⟨p, c, r⟩ _
    rfl) (s := (policy, count, rack)) trivial
  rw [e]
  simp only [Option.bind_some]
  obtain ⟨a, er, h1, h2⟩ := both_home hn4 s app_
  rw [h1, of_eq hn4 s hrs]
  simp only [Option.bind_some]
  rw [h2]
  simp
end Go.Fx.D

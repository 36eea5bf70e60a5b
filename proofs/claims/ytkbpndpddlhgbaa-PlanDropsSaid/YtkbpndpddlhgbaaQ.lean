/-
  Laws over plain data: true at all inputs. Conditions: none.
-/
import Derived.Test.YtkbpndpddlhgbaaP
namespace Go.Fx.D
open Go Go.Fx
set_option linter.unusedVariables false
set_option linter.unusedSimpArgs false

/-- a search: the first one of which 'p' does not hold -/
theorem loop_first {ρ : Type} (step : Int → Option (Int ⊕ ρ)) (n : Nat) (p : Nat → Bool) (bad : Nat → ρ) (good : ρ) (h1 : ∀ k : Nat, k < n → step k = some (bif p k then .inl ((k + 1 : Nat) : Int) else .inr (bad k))) (h2 : step (n : Int) = some (.inr good)) :
    ((∀ i, i < n → p i = true) ∧ loop step 0 = some good) ∨ ∃ i, i < n ∧ p i = false ∧ (∀ j, j < i → p j = true) ∧ loop step 0 = some (bad i) := by
  have key : ∀ (m k : Nat), m + k = n → ((∀ i, k ≤ i → i < n → p i = true) ∧ loop step (k : Int) = some good) ∨ ∃ i, k ≤ i ∧ i < n ∧ p i = false ∧ (∀ j, k ≤ j → j < i → p j = true) ∧ loop step (k : Int) = some (bad i) := by
    intro m
    induction m with
    | zero =>
      intro k hk
      have hk : k = n := by omega
      subst hk
      exact .inl ⟨fun i h1 h2 => by omega, by rw [loop_eq, h2]⟩
    | succ m ih =>
      intro k hk
      have hk' : k < n := by omega
      cases hp : p k with
      | true =>
        rw [loop_eq, h1 k hk', hp]
        simp only [cond_true]
        rcases ih (k + 1) (by omega) with ⟨a, b⟩ | ⟨i, a, b, c, d, e⟩
        · refine .inl ⟨fun i h1 h2 => ?_, b⟩
          by_cases e : i = k
          · subst e; exact hp
          · exact a i (by omega) h2
        · refine .inr ⟨i, by omega, b, c, fun j h1 h2 => ?_, e⟩
          by_cases e : j = k
          · subst e; exact hp
          · exact d j (by omega) h2
      | false =>
        refine .inr ⟨k, Nat.le_refl _, hk', hp, fun j h1 h2 => by omega, ?_⟩
        rw [loop_eq, h1 k hk', hp]
        rfl
  rcases key n 0 rfl with ⟨a, b⟩ | ⟨i, a, b, c, d, e⟩
  · exact .inl ⟨fun i hi => a i (by omega) hi, b⟩
  · exact .inr ⟨i, b, c, fun j hj => d j (by omega) hj, e⟩

/-- where a plan may begin -/
def cands (l : List Plan) (p : Plan) : List Int := p.From :: (l.filter fun x => decide (x.Until > p.From)).map (·.Until)
def goodT (l : List Plan) (total : Vec) (p : Plan) (long t : Int) : Bool := decide (t ≤ p.Until - long) && fits l total p t long
def Valid (p : Plan) (long : Int) : Prop := 1 ≤ long ∧ long ≤ 1000 ∧ 0 ≤ p.From ∧ p.From ≤ 1000000 ∧ 0 ≤ p.Until ∧ p.Until ≤ 1000000 ∧ Few p.Need
/-- the first of them -/
structure IsMin (l : List Plan) (total : Vec) (p : Plan) (long r : Int) : Prop where
  mem : r ∈ cands l p
  good : goodT l total p long r = true
  le : ∀ t ∈ cands l p, goodT l total p long t = true → r ≤ t

theorem cand_bd {l : List Plan} (h : Okl l) {p : Plan} {long : Int} (hv : Valid p long) : ∀ t ∈ cands l p, p.From ≤ t ∧ t ≤ 1000000 := by
  intro t ht
  unfold Valid at hv
  rcases List.mem_cons.1 ht with rfl | ht
  · omega
  · obtain ⟨x, hx, rfl⟩ := List.mem_map.1 ht
    have h1 := List.mem_filter.1 hx
    have := h.2 x h1.1
    unfold Okp at this
    have h2 := h1.2
    rw [decide_eq_true_eq] at h2
    omega

theorem pw_eq (n m : Int) : plan_within n m = some (decide (0 ≤ n ∧ n ≤ m)) := by
  unfold plan_within
  by_cases h : n ≥ 0
  · rw [decide_eq_true h]
    simp [h]
  · rw [decide_eq_false h]
    have : ¬ (0 ≤ n ∧ n ≤ m) := by omega
    simp [this]

theorem place_bad {l : List Plan} (total : Vec) {p : Plan} {long : Int} (hv : ¬ Valid p long) : plan_Place l total p long = some (0, 1) := by
  unfold plan_Place
  simp only [pw_eq, Option.bind_some]
  unfold Valid Few at hv
  by_cases h1 : long < 1
  · rw [decide_eq_true h1]; rfl
  rw [decide_eq_false h1]
  by_cases h2 : long > 1000
  · rw [decide_eq_true h2]; rfl
  rw [decide_eq_false h2]
  by_cases h3 : 0 ≤ p.From ∧ p.From ≤ 1000000
  rotate_left
  · rw [decide_eq_false h3]; rfl
  rw [decide_eq_true h3]
  by_cases h4 : 0 ≤ p.Until ∧ p.Until ≤ 1000000
  rotate_left
  · rw [decide_eq_false h4]; rfl
  rw [decide_eq_true h4]
  by_cases h5 : 0 ≤ p.Need.Mem ∧ p.Need.Mem ≤ 1073741824
  rotate_left
  · rw [decide_eq_false h5]; rfl
  rw [decide_eq_true h5]
  by_cases h6 : 0 ≤ p.Need.Cores ∧ p.Need.Cores ≤ 1073741824
  rotate_left
  · rw [decide_eq_false h6]; rfl
  exact absurd ⟨by omega, by omega, h3.1, h3.2, h4.1, h4.2, h5.1, h5.2, h6.1, h6.2⟩ hv

theorem place_eq {l : List Plan} (h : Okl l) (total : Vec) {p : Plan} {long : Int} (hv : Valid p long) :
    (∃ r, IsMin l total p long r ∧ plan_Place l total p long = some (r, 0)) ∨ ((∀ t ∈ cands l p, goodT l total p long t = false) ∧ plan_Place l total p long = some (0, 16)) := by
  have hl := h.1
  have hv' := hv
  unfold Valid Few at hv'
  have hcb := cand_bd h hv
  unfold plan_Place
  simp only [pw_eq, Option.bind_some]
  rw [decide_eq_false (show ¬ long < 1 by omega), decide_eq_false (show ¬ long > 1000 by omega), decide_eq_true (show 0 ≤ p.From ∧ p.From ≤ 1000000 by omega), decide_eq_true (show 0 ≤ p.Until ∧ p.Until ≤ 1000000 by omega), decide_eq_true (show 0 ≤ p.Need.Mem ∧ p.Need.Mem ≤ 1073741824 by omega), decide_eq_true (show 0 ≤ p.Need.Cores ∧ p.Need.Cores ≤ 1073741824 by omega)]
  simp only [cond_false, Bool.not_true, Option.bind_some]
  have mk1 : mkl 8 1 (w64 ((l.length : Int) + 1)) (0 : Int) = some [0] := by
    rw [w64_id (by omega) (by omega)]
    unfold mkl
    rw [if_pos]
    · rfl
    · unfold maxLen
      omega
  rw [mk1]
  simp only [Option.bind_some]
  have i0 : inb 0 ([0] : List Int).length = some 0 := rfl
  rw [i0]
  simp only [Option.bind_some, List.getElem?_cons_zero]
  have l1 : loop (plan_Place_l1 l p) (List.set [0] 0 p.From, 0) = some (cands l p) := by
    have len : ∀ k, ((l.take k).filter fun x => decide (x.Until > p.From)).length ≤ 100 := fun k => by
      have h1 := List.length_filter_le (fun x : Plan => decide (x.Until > p.From)) (l.take k)
      rw [List.length_take] at h1
      omega
    obtain ⟨v, e, hvv⟩ := loop_inv (fun (v : List Int) k => (v, k)) (plan_Place_l1 l p) l.length (fun k v => v = cands (l.take k) p) (fun v => v) (by
      rintro k hk v rfl
      refine ⟨cands (l.take (k + 1)) p, ?_, rfl⟩
      unfold plan_Place_l1 cands
      rw [decide_eq_true (by dsimp only; omega), step_succ (by omega)]
      dsimp only
      rw [idx_lt hk, List.take_succ_eq_append_getElem hk, List.filter_append, List.map_append]
      simp only [cond_true, Option.bind_some]
      cases hw : decide (l[k].Until > p.From) with
      | true =>
        have := len k
        rw [cond_true, app_ok (by simp only [List.length_append, List.length_cons, List.length_map, List.length_nil]; omega) (by omega)]
        simp only [List.filter_cons, hw, if_true, List.filter_nil, List.map_cons, List.map_nil, Option.bind_some, List.cons_append]
      | false => simp only [List.filter_cons, hw, Bool.false_eq_true, if_false, List.filter_nil, List.map_nil, List.append_nil, cond_false, Option.bind_some]) (by
      rintro v rfl
      unfold plan_Place_l1
      rw [decide_eq_false (by dsimp only; omega)]
      rfl) (s := List.set [0] 0 p.From) (by simp [cands])
    rw [e, hvv, List.take_length]
  rw [l1]
  simp only [Option.bind_some]
  have hcl : (cands l p).length ≤ 101 := by
    unfold cands
    have h1 := List.length_filter_le (fun x : Plan => decide (x.Until > p.From)) l
    simp only [List.length_cons, List.length_map]
    omega
  have hsort : slices_Sort___int_int_ (cands l p) = some ((cands l p).mergeSort fun x y => decide (x ≤ y)) := by
    unfold slices_Sort___int_int_ sortI
    rw [if_pos ⟨by unfold cands; simp, by omega⟩]
  rw [hsort]
  simp only [Option.bind_some]
  have hperm : ((cands l p).mergeSort fun x y => decide (x ≤ y)).Perm (cands l p) := List.mergeSort_perm _ _
  have hpw : ((cands l p).mergeSort fun x y => decide (x ≤ y)).Pairwise fun a b => decide (a ≤ b) = true := List.pairwise_mergeSort (fun a b c h1 h2 => by
    rw [decide_eq_true_eq] at *
    omega) (fun a b => by
    simp only [Bool.or_eq_true, decide_eq_true_eq]
    omega) _
  generalize ((cands l p).mergeSort fun x y => decide (x ≤ y)) = s at *
  have hsl : s.length ≤ 101 := by rw [hperm.length_eq]; exact hcl
  rcases loop_first (plan_Place_l2 l total p long s) s.length (fun i => !(goodT l total p long (s.getD i 0))) (fun i => .inl (s.getD i 0, 0)) (.inr ()) (by
    intro k hk
    have hm : s[k] ∈ cands l p := hperm.mem_iff.1 (List.getElem_mem hk)
    have hb := hcb _ hm
    unfold plan_Place_l2
    rw [decide_eq_true (by omega), step_succ (by omega), inb_lt hk]
    simp only [cond_true, Option.bind_some, List.getElem?_eq_getElem hk]
    have e1 : s.getD k 0 = s[k] := by simp [List.getD, hk]
    rw [e1, w64_id (by omega) (by omega), free_eq h hv.2.2.2.2.2.2 total (by omega) (by omega)]
    unfold goodT
    simp only [Option.bind_some]
    cases decide (s[k] ≤ p.Until - long) <;> cases fits l total p s[k] long <;> rfl) (by
    unfold plan_Place_l2
    rw [decide_eq_false (by omega)]
    rfl) with ⟨a, b⟩ | ⟨i, hi, a, c, b⟩
  · right
    rw [b]
    refine ⟨?_, rfl⟩
    intro t ht
    obtain ⟨j, hj, e⟩ := List.getElem_of_mem (hperm.mem_iff.2 ht)
    have := a j hj
    simpa [List.getD, hj, e] using this
  · left
    rw [b]
    have e1 : s.getD i 0 = s[i] := by simp [List.getD, hi]
    rw [e1] at a ⊢
    refine ⟨s[i], ⟨hperm.mem_iff.1 (List.getElem_mem hi), by simpa using a, ?_⟩, rfl⟩
    intro t ht hg
    obtain ⟨j, hj, e⟩ := List.getElem_of_mem (hperm.mem_iff.2 ht)
    by_cases hji : j < i
    · have := c j hji
      simp [List.getD, hj, e, hg] at this
    · by_cases hjj : j = i
      · subst hjj; rw [e]; exact Int.le_refl _
      · have := List.pairwise_iff_getElem.1 hpw i j hi hj (by omega)
        rw [decide_eq_true_eq, e] at this
        exact this

theorem IsMin.uniq {l : List Plan} {total : Vec} {p : Plan} {long r r' : Int} (h : IsMin l total p long r) (h' : IsMin l total p long r') : r = r' := by
  have := h.le r' h'.mem h'.good
  have := h'.le r h.mem h.good
  omega

/-! the document's -/
def rc' (l : List Plan) (p : Plan) : List Int := p.From :: l.map (·.Until)
theorem rc_cands {l : List Plan} {p : Plan} {t : Int} : t ∈ cands l p ↔ t ∈ rc' l p ∧ p.From ≤ t := by
  unfold cands rc'
  simp only [List.mem_cons, List.mem_map, List.mem_filter, decide_eq_true_eq]
  constructor
  · rintro (rfl | ⟨x, ⟨hx, h⟩, rfl⟩)
    · exact ⟨.inl rfl, Int.le_refl _⟩
    · exact ⟨.inr ⟨x, hx, rfl⟩, by omega⟩
  · rintro ⟨rfl | ⟨x, hx, rfl⟩, h⟩
    · exact .inl rfl
    · by_cases e : x.Until = p.From
      · exact .inl e
      · exact .inr ⟨x, ⟨hx, by omega⟩, rfl⟩

theorem rpart_eq (n : Int) : dispatchref15_part n = some (decide (0 ≤ n ∧ n ≤ 1073741824)) := by
  unfold dispatchref15_part
  by_cases h : n ≥ 0
  · rw [decide_eq_true h]
    simp [h]
  · rw [decide_eq_false h]
    have : ¬ (0 ≤ n ∧ n ≤ 1073741824) := by omega
    simp [this]

theorem rplace_bad {l : List Plan} (total : Vec) {p : Plan} {long : Int} (hv : ¬ Valid p long) : dispatchref15_Place l total p long = some (0, 1) := by
  unfold dispatchref15_Place
  simp only [rpart_eq, Option.bind_some]
  unfold Valid Few at hv
  by_cases h1 : long < 1
  · rw [decide_eq_true h1]; rfl
  rw [decide_eq_false h1]
  by_cases h2 : long > 1000
  · rw [decide_eq_true h2]; rfl
  rw [decide_eq_false h2]
  by_cases h3 : p.From < 0
  · rw [decide_eq_true h3]; rfl
  rw [decide_eq_false h3]
  by_cases h3' : p.From > 1000000
  · rw [decide_eq_true h3']; rfl
  rw [decide_eq_false h3']
  by_cases h4 : p.Until < 0
  · rw [decide_eq_true h4]; rfl
  rw [decide_eq_false h4]
  by_cases h4' : p.Until > 1000000
  · rw [decide_eq_true h4']; rfl
  rw [decide_eq_false h4']
  by_cases h5 : 0 ≤ p.Need.Mem ∧ p.Need.Mem ≤ 1073741824
  rotate_left
  · rw [decide_eq_false h5]; rfl
  rw [decide_eq_true h5]
  by_cases h6 : 0 ≤ p.Need.Cores ∧ p.Need.Cores ≤ 1073741824
  rotate_left
  · rw [decide_eq_false h6]; rfl
  exact absurd ⟨by omega, by omega, by omega, by omega, by omega, by omega, h5.1, h5.2, h6.1, h6.2⟩ hv

theorem rplace_eq {l : List Plan} (h : Okl l) (total : Vec) {p : Plan} {long : Int} (hv : Valid p long) :
    (∃ r, IsMin l total p long r ∧ dispatchref15_Place l total p long = some (r, 0)) ∨ ((∀ t ∈ cands l p, goodT l total p long t = false) ∧ dispatchref15_Place l total p long = some (0, 16)) := by
  have hl := h.1
  have hv' := hv
  unfold Valid Few at hv'
  unfold dispatchref15_Place
  simp only [rpart_eq, Option.bind_some]
  rw [decide_eq_false (show ¬ long < 1 by omega), decide_eq_false (show ¬ long > 1000 by omega), decide_eq_false (show ¬ p.From < 0 by omega), decide_eq_false (show ¬ p.From > 1000000 by omega), decide_eq_false (show ¬ p.Until < 0 by omega), decide_eq_false (show ¬ p.Until > 1000000 by omega), decide_eq_true (show 0 ≤ p.Need.Mem ∧ p.Need.Mem ≤ 1073741824 by omega), decide_eq_true (show 0 ≤ p.Need.Cores ∧ p.Need.Cores ≤ 1073741824 by omega)]
  simp only [cond_false, Bool.not_true, Option.bind_some]
  have hrl : (rc' l p).length = l.length + 1 := by simp [rc']
  have rb : ∀ t ∈ rc' l p, 0 ≤ t ∧ t ≤ 1000000 := by
    intro t ht
    rcases List.mem_cons.1 ht with rfl | ht
    · omega
    · obtain ⟨x, hx, rfl⟩ := List.mem_map.1 ht
      have := h.2 x hx
      unfold Okp at this
      omega
  obtain ⟨v, e, hvv⟩ := loop_inv (fun (v : Int) k => (v, k - 1)) (dispatchref15_Place_l1 l total p long) (l.length + 1)
    (fun m v => (v = -1 ∧ ∀ t ∈ (rc' l p).take m, p.From ≤ t → goodT l total p long t = false) ∨ (v ∈ (rc' l p).take m ∧ p.From ≤ v ∧ goodT l total p long v = true ∧ ∀ t ∈ (rc' l p).take m, p.From ≤ t → goodT l total p long t = true → v ≤ t)) (fun v => v) (by
    intro m hm v hvm
    have hmr : m < (rc' l p).length := by omega
    have htb := rb _ (List.getElem_mem hmr)
    have hval : (bif decide ((m : Int) - 1 ≥ 0) then (idx l ((m : Int) - 1)).bind fun x2 => some x2.Until else some p.From) = some (rc' l p)[m] := by
      cases m with
      | zero => rfl
      | succ m =>
        rw [decide_eq_true (by omega), show ((m + 1 : Nat) : Int) - 1 = (m : Int) by omega, idx_lt (by omega)]
        simp [rc']
    have gv : (bif decide ((rc' l p)[m] ≥ p.From) then bif decide ((rc' l p)[m] ≤ 1000000) then bif decide ((w64 ((rc' l p)[m] + long)) ≤ p.Until) then bif decide (v < 0) then (dispatchref15_fits l total p (rc' l p)[m] long).bind fun x3 => some x3 else bif decide ((rc' l p)[m] < v) then (dispatchref15_fits l total p (rc' l p)[m] long).bind fun x4 => some x4 else some false else some false else some false else some false : Option Bool) =
        some (decide (p.From ≤ (rc' l p)[m]) && (goodT l total p long (rc' l p)[m] && (decide (v < 0) || decide ((rc' l p)[m] < v)))) := by
      rw [decide_eq_true htb.2, w64_id (by omega) (by omega), rfree_eq h hv.2.2.2.2.2.2 total htb (by omega)]
      unfold goodT
      have e1 : decide ((rc' l p)[m] + long ≤ p.Until) = decide ((rc' l p)[m] ≤ p.Until - long) := by
        rw [Bool.eq_iff_iff, decide_eq_true_eq, decide_eq_true_eq]
        omega
      rw [e1]
      show (bif decide (p.From ≤ (rc' l p)[m]) then _ else _) = _
      cases decide (p.From ≤ (rc' l p)[m]) <;> cases decide ((rc' l p)[m] ≤ p.Until - long) <;> cases decide (v < 0) <;> cases decide ((rc' l p)[m] < v) <;> cases fits l total p (rc' l p)[m] long <;> rfl
    have hstep : dispatchref15_Place_l1 l total p long (v, (m : Int) - 1) = some (.inl ((bif decide (p.From ≤ (rc' l p)[m]) && (goodT l total p long (rc' l p)[m] && (decide (v < 0) || decide ((rc' l p)[m] < v))) then (rc' l p)[m] else v), ((m + 1 : Nat) : Int) - 1)) := by
      unfold dispatchref15_Place_l1
      dsimp only
      rw [decide_eq_true (by omega), hval]
      simp only [cond_true, Option.bind_some]
      rw [gv]
      simp only [Option.bind_some]
      rw [show w64 ((m : Int) - 1 + 1) = ((m + 1 : Nat) : Int) - 1 by rw [w64_id (by omega) (by omega)]; omega]
      cases (decide (p.From ≤ (rc' l p)[m]) && (goodT l total p long (rc' l p)[m] && (decide (v < 0) || decide ((rc' l p)[m] < v)))) <;> rfl
    refine ⟨_, hstep, ?_⟩
    rw [List.take_succ_eq_append_getElem hmr]
    generalize (rc' l p)[m] = t1 at *
    cases hg : (decide (p.From ≤ t1) && (goodT l total p long t1 && (decide (v < 0) || decide (t1 < v)))) with
    | true =>
      simp only [Bool.and_eq_true, Bool.or_eq_true, decide_eq_true_eq] at hg
      refine .inr ⟨by simp, hg.1, hg.2.1, ?_⟩
      intro t ht hf hgt
      rcases List.mem_append.1 ht with ht | ht
      · rcases hvm with ⟨rfl, a⟩ | ⟨a, b, c, d⟩
        · rw [a t ht hf] at hgt; cases hgt
        · have := d t ht hf hgt
          have : 0 ≤ v := by omega
          show t1 ≤ t
          omega
      · rw [List.mem_singleton] at ht
        subst ht
        exact Int.le_refl _
    | false =>
      simp only [cond_false]
      rcases hvm with ⟨rfl, a⟩ | ⟨a, b, c, d⟩
      · refine .inl ⟨rfl, ?_⟩
        intro t ht hf
        rcases List.mem_append.1 ht with ht | ht
        · exact a t ht hf
        · rw [List.mem_singleton] at ht
          subst ht
          cases hgt : goodT l total p long t with
          | false => rfl
          | true => rw [decide_eq_true hf, hgt] at hg; cases hg
      · refine .inr ⟨by simp [a], b, c, ?_⟩
        intro t ht hf hgt
        rcases List.mem_append.1 ht with ht | ht
        · exact d t ht hf hgt
        · rw [List.mem_singleton] at ht
          subst ht
          rw [decide_eq_true hf, hgt] at hg
          simp at hg
          omega) (by
    rintro v _
    unfold dispatchref15_Place_l1
    dsimp only
    rw [decide_eq_false (by omega)]
    rfl) (s := -1) (.inl ⟨rfl, by simp⟩)
  rw [show ((-1 : Int), (-1 : Int)) = (-1, 0 - 1) from rfl, e]
  simp only [Option.bind_some]
  rw [List.take_of_length_le (by omega)] at hvv
  rcases hvv with ⟨rfl, a⟩ | ⟨a, b, c, d⟩
  · right
    refine ⟨?_, rfl⟩
    intro t ht
    have := rc_cands.1 ht
    exact a t this.1 this.2
  · left
    rw [decide_eq_false (by omega)]
    refine ⟨v, ⟨rc_cands.2 ⟨a, b⟩, c, ?_⟩, rfl⟩
    intro t ht hg
    have := rc_cands.1 ht
    exact d t this.1 this.2 hg

theorem both_place {l : List Plan} (h : Okl l) (total : Vec) (p : Plan) (long : Int) : ∃ r e, plan_Place l total p long = some (r, e) ∧ dispatchref15_Place l total p long = some (r, e) := by
  by_cases hv : Valid p long
  · rcases place_eq h total hv with ⟨r, h1, h2⟩ | ⟨h1, h2⟩
    · rcases rplace_eq h total hv with ⟨r', k1, k2⟩ | ⟨k1, k2⟩
      · rw [h1.uniq k1] at h2
        exact ⟨r', 0, h2, k2⟩
      · have := k1 r h1.mem
        rw [h1.good] at this
        cases this
    · rcases rplace_eq h total hv with ⟨r', k1, k2⟩ | ⟨k1, k2⟩
      · have := h1 r' k1.mem
        rw [k1.good] at this
        cases this
      · exact ⟨0, 16, h2, k2⟩
  · exact ⟨0, 1, place_bad total hv, rplace_bad total hv⟩
end Go.Fx.D

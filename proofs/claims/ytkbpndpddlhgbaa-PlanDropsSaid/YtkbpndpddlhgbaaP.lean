/-
  Laws over plain data: true at all inputs. Conditions: none.
-/
import Derived.Test.YtkbpndpddlhgbaaC
import Derived.Test.YtkbpndpddlhgbaaFxB
namespace Go.Fx.D
open Go Go.Fx
set_option linter.unusedVariables false
set_option linter.unusedSimpArgs false

theorem w64_id {x : Int} (h1 : -9223372036854775808 ≤ x) (h2 : x < 9223372036854775808) : w64 x = x := by
  simp only [w64, IntKind.wrap, IntKind.bits, IntKind.signed]
  simp
  omega

theorem within_eq {a n : Int} (h0 : 0 < n) (h1 : n ≤ 4611686018427387904) : dispatchlaw15_within a n = some (a % n) := by
  unfold dispatchlaw15_within
  have hn : nz n = some () := by unfold nz; rw [if_pos (by omega)]
  rw [hn]
  have hm : Int.tmod a n = if 0 ≤ a ∨ n ∣ a then a % n else a % n - n := by
    rw [Int.tmod_eq_emod]
    split <;> simp [Int.natAbs_of_nonneg (Int.le_of_lt h0)]
  have e0 := Int.emod_nonneg a (show n ≠ 0 by omega)
  have e1 := Int.emod_lt_of_pos a h0
  simp only [Option.bind_some, Bool.cond_eq_ite, decide_eq_true_eq]
  rw [hm]
  by_cases hc : 0 ≤ a ∨ n ∣ a
  · rw [if_pos hc, if_neg (by omega)]; rfl
  · rw [if_neg hc, if_pos (by omega), w64_id (by omega) (by omega)]
    simp only [Option.bind_some, Option.some.injEq]
    omega

/-- rounds that count up to n, with what holds at each -/
theorem loop_inv {τ ρ σ : Type} (mk : σ → Int → τ) (step : τ → Option (τ ⊕ ρ)) (n : Nat) (Inv : Nat → σ → Prop) (fin : σ → ρ)
    (h1 : ∀ k, k < n → ∀ s, Inv k s → ∃ s', step (mk s (k : Int)) = some (.inl (mk s' ((k + 1 : Nat) : Int))) ∧ Inv (k + 1) s')
    (h2 : ∀ s, Inv n s → step (mk s (n : Int)) = some (.inr (fin s))) {s : σ} (h0 : Inv 0 s) : ∃ s', loop step (mk s 0) = some (fin s') ∧ Inv n s' := by
  have key : ∀ (m k : Nat), m + k = n → ∀ s, Inv k s → ∃ s', loop step (mk s (k : Int)) = some (fin s') ∧ Inv n s' := by
    intro m
    induction m with
    | zero =>
      intro k hk s hs
      have hk : k = n := by omega
      subst hk
      exact ⟨s, by rw [loop_eq, h2 s hs], hs⟩
    | succ m ih =>
      intro k hk s hs
      obtain ⟨s', e, hs'⟩ := h1 k (by omega) s hs
      rw [loop_eq, e]
      exact ih (k + 1) (by omega) s' hs'
  exact key n 0 rfl s h0

theorem idx_lt {α : Type} {l : List α} {k : Nat} (h : k < l.length) : idx l (k : Int) = some l[k] := by
  unfold idx
  rw [if_pos (by omega), Int.toNat_natCast, List.getElem?_eq_getElem h]
theorem app_ok {α : Type} {b : Nat} {l m : List α} (h : (l ++ m).length ≤ 1000000) (hb : b ≤ 100000) : app b l m = some (l ++ m) := by
  unfold app
  rw [if_pos]
  have : (l ++ m).length * b ≤ 1000000 * 100000 := Nat.mul_le_mul h hb
  unfold maxLen
  omega
theorem step_succ {k : Nat} (h : k < 1000000000) : w64 ((k : Int) + 1) = ((k + 1 : Nat) : Int) := by
  rw [w64_id (by omega) (by omega)]; omega
theorem inb_lt {i n : Nat} (h : i < n) : inb (i : Int) n = some i := by
  unfold inb
  rw [Int.toNat_natCast, if_pos ⟨by omega, h⟩]
theorem nz_ok {x : Int} (h : x ≠ 0) : nz x = some () := by unfold nz; rw [if_pos h]

/-- a search: goes on as long as 'p' holds -/
theorem loop_all {ρ : Type} (step : Int → Option (Int ⊕ ρ)) (n : Nat) (p : Nat → Bool) (bad : Nat → ρ) (good : ρ) (h1 : ∀ k : Nat, k < n → step k = some (bif p k then .inl ((k + 1 : Nat) : Int) else .inr (bad k))) (h2 : step (n : Int) = some (.inr good)) :
    ((∀ i, i < n → p i = true) ∧ loop step 0 = some good) ∨ ∃ i, i < n ∧ p i = false ∧ loop step 0 = some (bad i) := by
  have key : ∀ (m k : Nat), m + k = n → ((∀ i, k ≤ i → i < n → p i = true) ∧ loop step (k : Int) = some good) ∨ ∃ i, i < n ∧ p i = false ∧ loop step (k : Int) = some (bad i) := by
    intro m
    induction m with
    | zero =>
      intro k hk
      have hk : k = n := by omega
      subst hk
      exact .inl ⟨fun i h1 h2 => by omega, by rw [loop_eq, h2]⟩
    | succ m ih =>
      intro k hk
      have hk' : k < n := by omega
      cases hp : p k with
      | true =>
        rw [loop_eq, h1 k hk', hp]
        simp only [cond_true]
        rcases ih (k + 1) (by omega) with ⟨a, b⟩ | h
        · refine .inl ⟨fun i h1 h2 => ?_, b⟩
          by_cases e : i = k
          · subst e; exact hp
          · exact a i (by omega) h2
        · exact .inr h
      | false =>
        refine .inr ⟨k, hk', hp, ?_⟩
        rw [loop_eq, h1 k hk', hp]
        rfl
  rcases key n 0 rfl with ⟨a, b⟩ | h
  · exact .inl ⟨fun i hi => a i (by omega) hi, b⟩
  · exact .inr h

/-- small parts -/
def Few (v : Vec) : Prop := 0 ≤ v.Mem ∧ v.Mem ≤ 1073741824 ∧ 0 ≤ v.Cores ∧ v.Cores ≤ 1073741824
def sumV (l : List Vec) : Vec := ⟨(l.map (·.Mem)).sum, (l.map (·.Cores)).sum⟩
theorem sumV_app (l : List Vec) (v : Vec) : sumV (l ++ [v]) = ⟨(sumV l).Mem + v.Mem, (sumV l).Cores + v.Cores⟩ := by simp [sumV]
theorem sumV_bd {l : List Vec} (h : ∀ v ∈ l, Few v) : 0 ≤ (sumV l).Mem ∧ (sumV l).Mem ≤ l.length * 1073741824 ∧ 0 ≤ (sumV l).Cores ∧ (sumV l).Cores ≤ l.length * 1073741824 := by
  induction l with
  | nil => simp [sumV]
  | cons v l ih =>
    have h1 := ih (fun v hv => h v (by simp [hv]))
    have h2 := h v (by simp)
    unfold Few at h2
    simp only [sumV, List.map_cons, List.sum_cons, List.length_cons] at h1 ⊢
    rw [Int.natCast_add, Int.add_mul]
    omega

theorem add_few {a b : Vec} (h1 : 0 ≤ a.Mem) (h2 : 0 ≤ a.Cores) (h3 : a.Mem ≤ 562949953421312) (h4 : a.Cores ≤ 562949953421312) (hb : Few b) : rvec_Add a b = some (⟨a.Mem + b.Mem, a.Cores + b.Cores⟩, 0) := by
  have good : ∀ v : Vec, 0 ≤ v.Mem → 0 ≤ v.Cores → v.Mem ≤ 1125899906842624 → v.Cores ≤ 1125899906842624 → rvec_vec_good v = some true := by
    intro v g1 g2 g3 g4
    unfold rvec_vec_good
    rw [decide_eq_true (by omega), decide_eq_true (by omega), decide_eq_true (by omega), decide_eq_true (by omega)]
    rfl
  unfold Few at hb
  unfold rvec_Add rvec_over
  rw [good a (by omega) (by omega) (by omega) (by omega), good b (by omega) (by omega) (by omega) (by omega), w64_id (by omega) (by omega), w64_id (by omega) (by omega)]
  simp only [Option.bind_some, Bool.not_true, cond_false]
  rw [good _ (by dsimp only; omega) (by dsimp only; omega) (by dsimp only; omega) (by dsimp only; omega)]
  rfl


/-! what plans need -/
def sel (label t : Int) (x : Plan) : Bool := (x.Label == label) && (decide (x.From ≤ t) && decide (x.Until > t))
def atV (l : List Plan) (label t : Int) : Vec := sumV ((l.filter (sel label t)).map (·.Need))
def addV (a b : Vec) : Vec := ⟨a.Mem + b.Mem, a.Cores + b.Cores⟩
def fitsV (a b : Vec) : Bool := decide (a.Mem ≤ b.Mem) && decide (a.Cores ≤ b.Cores)
/-- plans of small numbers -/
def Okp (x : Plan) : Prop := 0 ≤ x.From ∧ x.From ≤ 1000000 ∧ 0 ≤ x.Until ∧ x.Until ≤ 1000000 ∧ Few x.Need
def Okl (l : List Plan) : Prop := l.length ≤ 100 ∧ ∀ x ∈ l, Okp x

theorem fits_eq (a b : Vec) : rvec_Fits a b = some (fitsV a b) := by
  unfold rvec_Fits fitsV
  cases decide (a.Mem ≤ b.Mem) <;> rfl
theorem rfits_eq (a b : Vec) : dispatchref1_Fits a b = some (fitsV a b) := fits_eq a b

theorem at_bd {l : List Plan} (h : Okl l) (label t : Int) : 0 ≤ (atV l label t).Mem ∧ (atV l label t).Mem ≤ 107374182400 ∧ 0 ≤ (atV l label t).Cores ∧ (atV l label t).Cores ≤ 107374182400 := by
  have hb := sumV_bd (l := (l.filter (sel label t)).map (·.Need)) (by
    intro v hv
    obtain ⟨p, hp, rfl⟩ := List.mem_map.1 hv
    exact (h.2 p (List.mem_filter.1 hp).1).2.2.2.2)
  have hl := List.length_filter_le (sel label t) l
  have := h.1
  rw [List.length_map] at hb
  unfold atV
  omega

theorem take_at {l : List Plan} {k : Nat} (hk : k < l.length) (label t : Int) : atV (l.take (k + 1)) label t = if sel label t l[k] then addV (atV (l.take k) label t) l[k].Need else atV (l.take k) label t := by
  unfold atV
  rw [List.take_succ_eq_append_getElem hk, List.filter_append, List.map_append]
  cases h : sel label t l[k] with
  | true => simp only [List.filter_cons, h, if_true, List.filter_nil, List.map_cons, List.map_nil, sumV_app]; rfl
  | false => simp only [List.filter_cons, h, Bool.false_eq_true, if_false, List.filter_nil, List.map_nil, List.append_nil]

theorem okl_take {l : List Plan} (h : Okl l) (k : Nat) : Okl (l.take k) := ⟨by have := h.1; rw [List.length_take]; omega, fun x hx => h.2 x (List.mem_of_mem_take hx)⟩

theorem sel_eq (label t : Int) (x : Plan) : (bif x.Label == label then bif decide (x.From ≤ t) then some (decide (x.Until > t)) else some false else some false : Option Bool) = some (sel label t x) := by
  unfold sel
  cases x.Label == label <;> cases decide (x.From ≤ t) <;> simp

theorem at_eq {l : List Plan} (h : Okl l) (label t : Int) : plan_At l label t = some (atV l label t) := by
  unfold plan_At
  have hl := h.1
  obtain ⟨v, e, hv⟩ := loop_inv (fun (v : Vec) k => (v, k)) (plan_At_l1 l label t) l.length (fun k v => v = atV (l.take k) label t) (fun v => v) (by
    rintro k hk v rfl
    refine ⟨atV (l.take (k + 1)) label t, ?_, rfl⟩
    have hb := at_bd (okl_take h k) label t
    unfold plan_At_l1
    rw [decide_eq_true (by dsimp only; omega), step_succ (by omega)]
    dsimp only
    rw [idx_lt hk]
    simp only [cond_true, Option.bind_some]
    rw [sel_eq, take_at hk]
    simp only [Option.bind_some]
    cases sel label t l[k] with
    | true =>
      simp only [cond_true, if_true]
      rw [add_few hb.1 hb.2.2.1 (by omega) (by omega) (h.2 _ (List.getElem_mem hk)).2.2.2.2]
      rfl
    | false => rfl) (by
    rintro v rfl
    unfold plan_At_l1
    rw [decide_eq_false (by dsimp only; omega)]
    rfl) (s := ⟨0, 0⟩) rfl
  rw [e, hv, List.take_length]
  rfl

theorem rat_eq {l : List Plan} (h : Okl l) (label t : Int) : dispatchref15_At l label t = some (atV l label t) := by
  unfold dispatchref15_At
  have hl := h.1
  obtain ⟨v, e, hv⟩ := loop_inv (fun (v : Vec) k => (v, k)) (dispatchref15_At_l1 l label t) l.length (fun k v => v = atV (l.take k) label t) (fun v => v) (by
    rintro k hk v rfl
    refine ⟨atV (l.take (k + 1)) label t, ?_, rfl⟩
    have hb := at_bd (okl_take h k) label t
    have hn := (h.2 _ (List.getElem_mem hk)).2.2.2.2
    unfold Few at hn
    unfold dispatchref15_At_l1
    rw [decide_eq_true (by dsimp only; omega), step_succ (by omega)]
    dsimp only
    rw [idx_lt hk]
    simp only [cond_true, Option.bind_some]
    have := sel_eq label t l[k]
    have e2 : (bif l[k].Label == label then bif decide (l[k].From ≤ t) then some (decide (t < l[k].Until)) else some false else some false : Option Bool) = some (sel label t l[k]) := this
    rw [e2, take_at hk]
    simp only [Option.bind_some]
    cases sel label t l[k] with
    | true =>
      simp only [cond_true, if_true]
      unfold dispatchref1_Plus
      rw [w64_id (by omega) (by omega), w64_id (by omega) (by omega)]
      rfl
    | false => rfl) (by
    rintro v rfl
    unfold dispatchref15_At_l1
    rw [decide_eq_false (by dsimp only; omega)]
    rfl) (s := ⟨0, 0⟩) rfl
  rw [e, hv, List.take_length]
  rfl

/-- does it fit at a time? -/
def okAt (l : List Plan) (total : Vec) (p : Plan) (t : Int) : Bool := fitsV (addV (atV l p.Label t) p.Need) total
def inwin (t long : Int) (x : Plan) : Bool := decide (x.From > t) && decide (x.From < t + long)
def fits (l : List Plan) (total : Vec) (p : Plan) (t long : Int) : Bool := okAt l total p t && l.all fun x => !(inwin t long x) || okAt l total p x.From

theorem free1_eq {l : List Plan} (h : Okl l) {p : Plan} (hp : Few p.Need) (total : Vec) (k : Int) : plan_free_1 k l p total = some (!(okAt l total p k)) := by
  unfold plan_free_1
  have hb := at_bd h p.Label k
  rw [at_eq h]
  simp only [Option.bind_some]
  rw [add_few hb.1 hb.2.2.1 (by omega) (by omega) hp]
  simp only [Option.bind_some]
  rw [fits_eq]
  rfl

theorem contains_eq {s : List Int} (hs : s.length ≤ 1000) (f : TupT fam [.int .i64] → Option Bool) (g : Int → Bool) (hg : ∀ k, f (k, ()) = some (g k)) : slices_ContainsFunc___int_int_ s f = some (s.any g) := by
  unfold slices_ContainsFunc___int_int_ slices_IndexFunc___int_int_
  rcases loop_all (slices_IndexFunc___int_int__l1 s f) s.length (fun i => !(g (s.getD i 0))) (fun i => .inl (i : Int)) (.inr ()) (by
    intro k hk
    unfold slices_IndexFunc___int_int__l1
    rw [decide_eq_true (by omega), step_succ (by omega), idx_lt hk]
    have : s.getD k 0 = s[k] := by simp [List.getD, hk]
    rw [this]
    simp only [cond_true, Option.bind_some, hg]
    cases g s[k] <;> rfl) (by
    unfold slices_IndexFunc___int_int__l1
    rw [decide_eq_false (by omega)]
    rfl) with ⟨a, b⟩ | ⟨i, hi, a, b⟩
  · rw [b]
    have : s.any g = false := by
      rw [List.any_eq_false]
      intro x hx
      obtain ⟨i, hi, e⟩ := List.getElem_of_mem hx
      have := a i hi
      simpa [List.getD, hi, e] using this
    rw [this]
    rfl
  · rw [b]
    have : s.any g = true := by
      rw [List.any_eq_true]
      exact ⟨s[i], List.getElem_mem hi, by simpa [List.getD, hi] using a⟩
    rw [this]
    simp

theorem free_eq {l : List Plan} (h : Okl l) {p : Plan} (hp : Few p.Need) (total : Vec) {t long : Int} (ht : 0 ≤ t ∧ t ≤ 1000000) (hlg : 0 ≤ long ∧ long ≤ 1000) : plan_free l total p t long = some (fits l total p t long) := by
  unfold plan_free
  have hl := h.1
  have len : ∀ k, ((l.take k).filter (inwin t long)).length ≤ 100 := fun k => by
    have h1 := List.length_filter_le (inwin t long) (l.take k)
    rw [List.length_take] at h1
    omega
  obtain ⟨v, e, hv⟩ := loop_inv (fun (v : List Int) k => (v, k)) (plan_free_l1 l t long) l.length (fun k v => v = t :: ((l.take k).filter (inwin t long)).map (·.From)) (fun v => v) (by
    rintro k hk v rfl
    refine ⟨t :: ((l.take (k + 1)).filter (inwin t long)).map (·.From), ?_, rfl⟩
    unfold plan_free_l1
    rw [decide_eq_true (by dsimp only; omega), step_succ (by omega)]
    dsimp only
    rw [idx_lt hk, w64_id (by omega) (by omega)]
    simp only [cond_true, Option.bind_some]
    have e1 : (bif decide (l[k].From > t) then some (decide (l[k].From < t + long)) else some false : Option Bool) = some (inwin t long l[k]) := by
      unfold inwin
      cases decide (l[k].From > t) <;> simp
    rw [e1, List.take_succ_eq_append_getElem hk, List.filter_append, List.map_append]
    simp only [Option.bind_some]
    cases hw : inwin t long l[k] with
    | true =>
      have := len k
      rw [cond_true, app_ok (by simp; omega) (by omega)]
      simp [List.filter_cons, hw]
    | false => simp [List.filter_cons, hw]) (by
    rintro v rfl
    unfold plan_free_l1
    rw [decide_eq_false (by dsimp only; omega)]
    rfl) (s := [t]) (by simp)
  rw [e, hv, List.take_length]
  simp only [Option.bind_some]
  have hll := len l.length
  rw [List.take_length] at hll
  rw [contains_eq (by simp; omega) _ (fun k => !(okAt l total p k)) (fun k => free1_eq h hp total k)]
  simp only [Option.bind_some, Option.some.injEq]
  unfold fits
  rw [List.any_cons, Bool.not_or, Bool.not_not]
  congr 1
  rw [Bool.eq_iff_iff]
  simp only [Bool.not_eq_true', List.any_eq_false, List.mem_map, List.mem_filter, List.all_eq_true, Bool.or_eq_true]
  constructor
  · intro a x hx
    cases hw : inwin t long x with
    | false => exact .inl rfl
    | true =>
      have := a _ ⟨x, ⟨hx, hw⟩, rfl⟩
      exact .inr (by simpa using this)
  · rintro a k ⟨x, ⟨hx, hw⟩, rfl⟩
    have := a x hx
    rw [hw] at this
    simpa using this

theorem rfree_eq {l : List Plan} (h : Okl l) {p : Plan} (hp : Few p.Need) (total : Vec) {t long : Int} (ht : 0 ≤ t ∧ t ≤ 1000000) (hlg : 0 ≤ long ∧ long ≤ 1000) : dispatchref15_fits l total p t long = some (fits l total p t long) := by
  unfold dispatchref15_fits
  have hl := h.1
  have plus : ∀ k, dispatchref1_Plus (atV l p.Label k) p.Need = some (addV (atV l p.Label k) p.Need) := by
    intro k
    have hb := at_bd h p.Label k
    unfold Few at hp
    unfold dispatchref1_Plus
    rw [w64_id (by omega) (by omega), w64_id (by omega) (by omega)]
    rfl
  rw [rat_eq h]
  simp only [Option.bind_some]
  rw [plus]
  simp only [Option.bind_some]
  rw [rfits_eq]
  simp only [Option.bind_some]
  unfold fits
  show (bif !(okAt l total p t) then some false else _) = some (okAt l total p t && _)
  cases okAt l total p t with
  | false => rfl
  | true =>
    simp only [Bool.not_true, cond_false, Bool.true_and]
    rcases loop_all (dispatchref15_fits_l1 l total p t long) l.length (fun i => (l[i]?).elim true fun x => !(inwin t long x) || okAt l total p x.From) (fun i => .inl false) (.inr ()) (by
      intro k hk
      have hx := h.2 _ (List.getElem_mem hk)
      unfold Okp at hx
      unfold dispatchref15_fits_l1
      rw [decide_eq_true (by omega), step_succ (by omega), idx_lt hk]
      simp only [cond_true, Option.bind_some, List.getElem?_eq_getElem hk, Option.elim_some]
      rw [w64_id (by omega) (by omega), rat_eq h]
      simp only [Option.bind_some]
      rw [plus]
      simp only [Option.bind_some]
      rw [rfits_eq]
      simp only [Option.bind_some]
      have e1 : decide (l[k].From - t < long) = decide (l[k].From < t + long) := by
        rw [Bool.eq_iff_iff, decide_eq_true_eq, decide_eq_true_eq]
        omega
      rw [e1]
      show ((bif decide (l[k].From > t) then bif decide (l[k].From < t + long) then some (!(okAt l total p l[k].From)) else some false else some false).bind _) = _
      unfold inwin
      cases decide (l[k].From > t) <;> cases decide (l[k].From < t + long) <;> cases okAt l total p l[k].From <;> rfl) (by
      unfold dispatchref15_fits_l1
      rw [decide_eq_false (by omega)]
      rfl) with ⟨a, b⟩ | ⟨i, hi, a, b⟩
    · rw [b]
      have : (l.all fun x => !(inwin t long x) || okAt l total p x.From) = true := by
        rw [List.all_eq_true]
        intro x hx
        obtain ⟨i, hi, e⟩ := List.getElem_of_mem hx
        have := a i hi
        rw [List.getElem?_eq_getElem hi, e] at this
        exact this
      rw [this]
      rfl
    · rw [b]
      have : (l.all fun x => !(inwin t long x) || okAt l total p x.From) = false := by
        rw [List.all_eq_false]
        refine ⟨l[i], List.getElem_mem hi, ?_⟩
        rw [List.getElem?_eq_getElem hi] at a
        simpa using a
      rw [this]
      rfl
end Go.Fx.D

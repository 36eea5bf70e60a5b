/-
  Laws over plain data: true at all inputs. Conditions: none.
-/
import Derived.Test.YtkbpndpddlhgbaaS
namespace Go.Fx.D
open Go Go.Fx
set_option linter.unusedVariables false
set_option linter.unusedSimpArgs false

theorem sumV_nonneg {l : List Vec} (h : ∀ v ∈ l, Few v) : 0 ≤ (sumV l).Mem ∧ 0 ≤ (sumV l).Cores := by
  have := sumV_bd h
  omega
/-- more that is active needs more -/
theorem atV_mono {l : List Plan} (h : ∀ x ∈ l, Few x.Need) {label v u : Int} (hs : ∀ x ∈ l, sel label v x = true → sel label u x = true) : (atV l label v).Mem ≤ (atV l label u).Mem ∧ (atV l label v).Cores ≤ (atV l label u).Cores := by
  induction l with
  | nil => simp [atV, sumV]
  | cons y l ih =>
    have h1 := ih (fun x hx => h x (by simp [hx])) (fun x hx => hs x (by simp [hx]))
    have h2 := hs y (by simp)
    have h3 := h y (by simp)
    unfold Few at h3
    unfold atV at h1 ⊢
    simp only [sumV] at h1 ⊢
    cases hv : sel label v y with
    | true =>
      have hu := h2 hv
      simp only [List.filter_cons, hv, hu, if_true, List.map_cons, List.sum_cons]
      omega
    | false =>
      cases hu : sel label u y with
      | true =>
        simp only [List.filter_cons, hv, hu, if_true, Bool.false_eq_true, if_false, List.map_cons, List.sum_cons]
        omega
      | false =>
        simp only [List.filter_cons, hv, hu, Bool.false_eq_true, if_false]
        exact h1

/-- a plan fits in all its time -/
def Win (l : List Plan) (total : Vec) (p : Plan) (t long : Int) : Prop := ∀ v, t ≤ v → v < t + long → okAt l total p v = true

theorem okAt_mono {l : List Plan} (h : ∀ x ∈ l, Few x.Need) {total : Vec} {p : Plan} {v u : Int} (hs : ∀ x ∈ l, sel p.Label v x = true → sel p.Label u x = true) (ho : okAt l total p u = true) : okAt l total p v = true := by
  have := atV_mono h hs
  unfold okAt fitsV addV at ho ⊢
  simp only [Bool.and_eq_true, decide_eq_true_eq] at ho ⊢
  omega

/-- the last of the times up to v -/
theorem last_of (c : Int) (s : List Int) (v : Int) (hc : c ≤ v) : ∃ m, (m = c ∨ m ∈ s) ∧ c ≤ m ∧ m ≤ v ∧ ∀ x ∈ s, x ≤ v → x ≤ m := by
  induction s with
  | nil => exact ⟨c, .inl rfl, Int.le_refl _, hc, by simp⟩
  | cons y s ih =>
    obtain ⟨m, h1, h2, h3, h4⟩ := ih
    by_cases hy : y ≤ v ∧ m < y
    · refine ⟨y, .inr (by simp), by omega, hy.1, ?_⟩
      intro x hx hxv
      rcases List.mem_cons.1 hx with rfl | hx
      · exact Int.le_refl _
      · have := h4 x hx hxv
        omega
    · refine ⟨m, ?_, h2, h3, ?_⟩
      · rcases h1 with h1 | h1
        · exact .inl h1
        · exact .inr (by simp [h1])
      · intro x hx hxv
        rcases List.mem_cons.1 hx with rfl | hx
        · omega
        · exact h4 x hx hxv

theorem sel_iff {label t : Int} {x : Plan} : sel label t x = true ↔ x.Label = label ∧ x.From ≤ t ∧ t < x.Until := by
  unfold sel
  simp only [Bool.and_eq_true, beq_iff_eq, decide_eq_true_eq, gt_iff_lt]

theorem fits_win {l : List Plan} (h : ∀ x ∈ l, Few x.Need) {total : Vec} {p : Plan} {t long : Int} (hl : 1 ≤ long) : fits l total p t long = true ↔ Win l total p t long := by
  unfold fits
  simp only [Bool.and_eq_true, List.all_eq_true, Bool.or_eq_true, Bool.not_eq_true']
  constructor
  · rintro ⟨h0, h1⟩ v hv1 hv2
    obtain ⟨m, e, hm1, hm2, hm3⟩ := last_of t ((l.filter (inwin t long)).map (·.From)) v hv1
    have hom : okAt l total p m = true := by
      rcases e with rfl | e
      · exact h0
      · obtain ⟨x, hx, rfl⟩ := List.mem_map.1 e
        obtain ⟨hx, hw⟩ := List.mem_filter.1 hx
        rcases h1 x hx with h1 | h1
        · rw [hw] at h1; cases h1
        · exact h1
    refine okAt_mono h ?_ hom
    intro x hx hs
    rw [sel_iff] at hs ⊢
    refine ⟨hs.1, ?_, by omega⟩
    by_cases hf : x.From ≤ t
    · omega
    · refine hm3 _ (List.mem_map.2 ⟨x, List.mem_filter.2 ⟨hx, ?_⟩, rfl⟩) hs.2.1
      unfold inwin
      rw [decide_eq_true (by omega), decide_eq_true (by omega)]
      rfl
  · intro hw
    refine ⟨hw t (Int.le_refl _) (by omega), ?_⟩
    intro x hx
    cases hi : inwin t long x with
    | false => exact .inl rfl
    | true =>
      right
      unfold inwin at hi
      simp only [Bool.and_eq_true, decide_eq_true_eq] at hi
      exact hw _ (by omega) hi.2

/-- what fits at u fits at the last candidate up to u -/
theorem win_cand {l : List Plan} (h : ∀ x ∈ l, Few x.Need) {total : Vec} {p : Plan} {u long : Int} (hu : p.From ≤ u) (hw : Win l total p u long) (hl : 1 ≤ long) : ∃ c ∈ cands l p, c ≤ u ∧ Win l total p c long := by
  obtain ⟨m, e, hm1, hm2, hm3⟩ := last_of p.From ((l.filter fun x => decide (x.Until > p.From)).map (·.Until)) u hu
  refine ⟨m, ?_, hm2, ?_⟩
  · rcases e with rfl | e
    · exact List.mem_cons_self ..
    · exact List.mem_cons_of_mem _ e
  · intro v hv1 hv2
    by_cases hvu : u ≤ v
    · exact hw v hvu (by omega)
    · refine okAt_mono h ?_ (hw u (Int.le_refl _) (by omega))
      intro x hx hs
      rw [sel_iff] at hs ⊢
      refine ⟨hs.1, by omega, ?_⟩
      apply Int.not_le.1
      intro hux
      have := hm3 _ (List.mem_map.2 ⟨x, List.mem_filter.2 ⟨hx, by rw [decide_eq_true_eq]; omega⟩, rfl⟩) hux
      omega

theorem place_win {l : List Plan} (h : Okl l) (total : Vec) {p : Plan} {long : Int} (hv : Valid p long) :
    (∃ r, p.From ≤ r ∧ r + long ≤ p.Until ∧ Win l total p r long ∧ (∀ u, p.From ≤ u → u < r → ¬ Win l total p u long) ∧ plan_Place l total p long = some (r, 0)) ∨ ((∀ u, p.From ≤ u → u + long ≤ p.Until → ¬ Win l total p u long) ∧ plan_Place l total p long = some (0, 16)) := by
  have hn : ∀ x ∈ l, Few x.Need := fun x hx => (h.2 x hx).2.2.2.2
  have hl : 1 ≤ long := hv.1
  rcases place_eq h total hv with ⟨r, h1, h2⟩ | ⟨h1, h2⟩
  · left
    have hg := h1.good
    unfold goodT at hg
    rw [Bool.and_eq_true, decide_eq_true_eq] at hg
    refine ⟨r, (cand_bd h hv r h1.mem).1, by omega, (fits_win hn hl).1 hg.2, ?_, h2⟩
    intro u hu1 hu2 hw
    obtain ⟨c, hc1, hc2, hc3⟩ := win_cand hn hu1 hw hl
    have := h1.le c hc1 (by
      unfold goodT
      rw [Bool.and_eq_true, decide_eq_true_eq]
      exact ⟨by omega, (fits_win hn hl).2 hc3⟩)
    omega
  · right
    refine ⟨?_, h2⟩
    intro u hu1 hu2 hw
    obtain ⟨c, hc1, hc2, hc3⟩ := win_cand hn hu1 hw hl
    have := h1 c hc1
    unfold goodT at this
    rw [decide_eq_true (by omega), (fits_win hn hl).2 hc3] at this
    cases this
end Go.Fx.D

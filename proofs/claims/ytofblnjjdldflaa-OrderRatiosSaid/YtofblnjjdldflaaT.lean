/-
  Laws over plain data: true at all inputs. Conditions: none.
-/
import Derived.Test.YtofblnjjdldflaaS
import Derived.Test.YtofblnjjdldflaaQ
namespace Go.Fx.D
open Go Go.Fx
set_option linter.unusedVariables false
set_option linter.unusedSimpArgs false
set_option maxRecDepth 100000

/-! ## sorting -/
theorem insG_pw {α : Type} {lt : α → α → Bool} {Pm : α → Prop} (tr : ∀ x y z, Pm x → Pm y → Pm z → lt x y = true → lt y z = true → lt x z = true) {x : α} (hx : Pm x) :
    ∀ {l : List α}, (∀ y ∈ l, Pm y ∧ (lt x y = true ∨ lt y x = true)) → l.Pairwise (fun a b => lt a b = true) → (insG lt x l).Pairwise (fun a b => lt a b = true)
  | [], _, _ => by simp [insG]
  | y :: l, h, hp => by
    obtain ⟨h1, h2⟩ := List.pairwise_cons.1 hp
    have hy := h y (by simp)
    unfold insG
    split
    · rename_i hlt
      refine List.pairwise_cons.2 ⟨?_, insG_pw tr hx (fun z hz => h z (by simp [hz])) h2⟩
      intro z hz
      rcases mem_insG.1 hz with rfl | hz
      · exact hlt
      · exact h1 z hz
    · rename_i hlt
      have hxy : lt x y = true := hy.2.resolve_right hlt
      refine List.pairwise_cons.2 ⟨?_, hp⟩
      intro z hz
      rcases List.mem_cons.1 hz with rfl | hz
      · exact hxy
      · exact tr x y z hx hy.1 (h z (by simp [hz])).1 hxy (h1 z hz)
theorem isort_pw {α : Type} {lt : α → α → Bool} {Pm : α → Prop} (tr : ∀ x y z, Pm x → Pm y → Pm z → lt x y = true → lt y z = true → lt x z = true) :
    ∀ {l : List α}, (∀ x ∈ l, Pm x) → l.Pairwise (fun x y => lt x y = true ∨ lt y x = true) → (isort lt l).Pairwise (fun a b => lt a b = true)
  | [], _, _ => by simp [isort]
  | x :: l, h, hp => by
    obtain ⟨h1, h2⟩ := List.pairwise_cons.1 hp
    unfold isort
    refine insG_pw tr (h x (by simp)) ?_ (isort_pw tr (fun y hy => h y (by simp [hy])) h2)
    intro y hy
    have hy := perm_isort.mem_iff.1 hy
    exact ⟨h y (by simp [hy]), h1 y hy⟩

/-- a comparison that orders the elements sorts them -/
theorem sortA_of {α : Type} {φ : α → α → Option Int} {lt : α → α → Prop} {Pm : α → Prop} (val : ∀ x y, Pm x → Pm y → ∃ a, φ x y = some a ∧ (a < 0 ↔ lt x y)) (irr : ∀ x, Pm x → ¬ lt x x)
    (tr : ∀ x y z, Pm x → Pm y → Pm z → lt x y → lt y z → lt x z) {l : List α} (hl : ∀ x ∈ l, Pm x) (hn : l.length ≤ 1000) (hp : l.Pairwise (fun x y => (lt x y ∧ ¬ lt y x) ∨ (lt y x ∧ ¬ lt x y))) :
    ∃ r, sortA φ l = some r ∧ r.Perm l ∧ r.Pairwise lt := by
  have hlt : ∀ x y, Pm x → Pm y → (ltG φ x y = true ↔ lt x y) := by
    intro x y hx hy
    obtain ⟨a, e, h⟩ := val x y hx hy
    unfold ltG
    rw [e]
    simp only [decide_eq_true_eq]
    exact h
  cases l with
  | nil => exact ⟨[], rfl, .refl _, List.Pairwise.nil⟩
  | cons x0 l0 =>
    have hget : ∀ i, i < l0.length + 1 → Pm (getG (x0 :: l0) x0 i) := by
      intro i hi
      unfold getG
      rw [List.getD_eq_getElem?_getD, List.getElem?_eq_getElem (by simpa using hi)]
      exact hl _ (List.getElem_mem _)
    have hpw : ∀ i j, i < l0.length + 1 → j < l0.length + 1 → i ≠ j → (lt (getG (x0 :: l0) x0 i) (getG (x0 :: l0) x0 j) ↔ ¬ lt (getG (x0 :: l0) x0 j) (getG (x0 :: l0) x0 i)) := by
      have key : ∀ i j, i < l0.length + 1 → j < l0.length + 1 → i < j → (lt (getG (x0 :: l0) x0 i) (getG (x0 :: l0) x0 j) ↔ ¬ lt (getG (x0 :: l0) x0 j) (getG (x0 :: l0) x0 i)) := by
        intro i j hi hj hij
        have hi' : i < (x0 :: l0).length := by simpa using hi
        have hj' : j < (x0 :: l0).length := by simpa using hj
        have e := List.pairwise_iff_getElem.1 hp i j hi' hj' hij
        have gi : getG (x0 :: l0) x0 i = (x0 :: l0)[i] := by unfold getG; rw [List.getD_eq_getElem?_getD, List.getElem?_eq_getElem hi']; rfl
        have gj : getG (x0 :: l0) x0 j = (x0 :: l0)[j] := by unfold getG; rw [List.getD_eq_getElem?_getD, List.getElem?_eq_getElem hj']; rfl
        rw [gi, gj]
        constructor
        · intro h; rcases e with e | e
          · exact e.2
          · exact absurd h e.2
        · intro h; rcases e with e | e
          · exact e.1
          · exact absurd e.1 h
      intro i j hi hj hne
      rcases Nat.lt_or_gt_of_ne hne with h | h
      · exact key i j hi hj h
      · have := key j i hj hi h
        constructor
        · intro a b; exact (this.1 b) a
        · intro a
          by_cases b : lt (getG (x0 :: l0) x0 i) (getG (x0 :: l0) x0 j)
          · exact b
          · exact absurd (this.2 b) a
    have hok : okG (cG φ (x0 :: l0) x0) (l0.length + 1) = true := by
      unfold okG
      simp only [List.all_eq_true, List.mem_range]
      intro i hi j hj
      obtain ⟨a, ea, ha⟩ := val _ _ (hget i hi) (hget j hj)
      obtain ⟨b, eb, hb⟩ := val _ _ (hget j hj) (hget i hi)
      unfold cG
      rw [ea, eb]
      dsimp only
      rw [Bool.and_eq_true]
      constructor
      · by_cases hij : i = j
        · subst hij
          rw [if_pos rfl]
          have := irr _ (hget i hi)
          simp only [Bool.not_eq_true', decide_eq_false_iff_not]
          exact fun h => this (ha.1 h)
        · rw [if_neg hij]
          have h := hpw i j hi hj hij
          by_cases h1 : lt (getG (x0 :: l0) x0 i) (getG (x0 :: l0) x0 j)
          · have h2 := h.1 h1
            rw [decide_eq_true (ha.2 h1), decide_eq_false (fun k => h2 (hb.1 k))]; rfl
          · have h2 : lt (getG (x0 :: l0) x0 j) (getG (x0 :: l0) x0 i) := Classical.byContradiction fun k => h1 (h.2 k)
            rw [decide_eq_false (fun k => h1 (ha.1 k)), decide_eq_true (hb.2 h2)]; rfl
      · simp only [List.all_eq_true, List.mem_range]
        intro k hk
        obtain ⟨a', ea', ha'⟩ := val _ _ (hget j hj) (hget k hk)
        obtain ⟨b', eb', hb'⟩ := val _ _ (hget i hi) (hget k hk)
        rw [ea', eb']
        dsimp only
        by_cases h1 : a < 0
        · by_cases h2 : a' < 0
          · have := hb'.2 (tr _ _ _ (hget i hi) (hget j hj) (hget k hk) (ha.1 h1) (ha'.1 h2))
            simp [this]
          · simp [h2]
        · simp [h1]
    refine ⟨isort (ltG φ) (x0 :: l0), ?_, perm_isort, ?_⟩
    · show (if (okG (cG φ (x0 :: l0) x0) (l0.length + 1) && decide (l0.length < 1000000000)) = true then some (isort (ltG φ) (x0 :: l0)) else none) = _
      rw [hok, decide_eq_true (by simp at hn; omega)]
      rfl
    · have hpm : ∀ x ∈ isort (ltG φ) (x0 :: l0), Pm x := fun x hx => hl x (perm_isort.mem_iff.1 hx)
      have h1 := isort_pw (lt := ltG φ) (Pm := Pm) (fun x y z hx hy hz h1 h2 => (hlt x z hx hz).2 (tr x y z hx hy hz ((hlt x y hx hy).1 h1) ((hlt y z hy hz).1 h2))) hl (by
        refine List.Pairwise.imp_of_mem ?_ hp
        intro x y hx hy h
        rcases h with h | h
        · exact .inl ((hlt x y (hl x hx) (hl y hy)).2 h.1)
        · exact .inr ((hlt y x (hl y hy) (hl x hx)).2 h.1))
      refine List.Pairwise.imp_of_mem ?_ h1
      intro x y hx hy h
      exact (hlt x y (hpm x hx) (hpm y hy)).1 h
end Go.Fx.D

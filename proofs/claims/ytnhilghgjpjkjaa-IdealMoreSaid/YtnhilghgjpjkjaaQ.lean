/-
  The laws IdealSums, IdealMore and IdealAll over plain data: each is true at all inputs. Conditions: none.
-/
import Derived.Test.YtnhilghgjpjkjaaP
namespace Go.Fw.D
open Go Go.Fw

/-! sums -/
def lsum : List Int → Int
  | [] => 0
  | x :: l => x + lsum l
def su (a : Nat → Int) : Nat → Nat → Int
  | 0, _ => 0
  | k + 1, i => a i + su a k (i + 1)
theorem su_congr {a b : Nat → Int} : ∀ (k i : Nat), (∀ j, i ≤ j → j < i + k → a j = b j) → su a k i = su b k i
  | 0, _, _ => rfl
  | k + 1, i, h => by simp only [su]; rw [h i (by omega) (by omega), su_congr k (i + 1) (fun j h1 h2 => h j (by omega) (by omega))]
theorem su_list : ∀ (l : List Int) (k i : Nat), k = (l.drop i).length → su (fun j => l.getD j 0) k i = lsum (l.drop i)
  | l, 0, i, h => by
    have : l.drop i = [] := List.eq_nil_of_length_eq_zero h.symm
    rw [this]; rfl
  | l, k + 1, i, h => by
    have hi : i < l.length := by simp at h; omega
    rw [drop_c hi]
    simp only [su, lsum]
    rw [su_list l k (i + 1) (by simp at h ⊢; omega)]
theorem su_le {a b : Nat → Int} : ∀ (k i : Nat), (∀ j, a j ≤ b j) → su a k i ≤ su b k i
  | 0, _, _ => Int.le_refl _
  | k + 1, i, h => by have := su_le k (i + 1) h; have := h i; simp only [su]; omega
theorem su_nn {a : Nat → Int} : ∀ (k i : Nat), (∀ j, 0 ≤ a j) → 0 ≤ su a k i
  | 0, _, _ => Int.le_refl _
  | k + 1, i, h => by have := su_nn k (i + 1) h; have := h i; simp only [su]; omega

theorem tk_sum (c : Nat → Int) : ∀ (k i : Nat) (left : Int), lsum (tk c k i left).1 + (tk c k i left).2 = left
  | 0, i, left => by simp [tk, lsum]
  | k + 1, i, left => by
    have := tk_sum c k (i + 1) (left - imin (c i) left)
    simp only [tk, lsum]
    omega
theorem tk_le (c : Nat → Int) : ∀ (k i : Nat) (left : Int) (j : Nat), j < k → (tk c k i left).1.getD j 0 ≤ c (i + j)
  | 0, i, left, j, h => by omega
  | k + 1, i, left, j, h => by
    simp only [tk]
    cases j with
    | zero => simp; exact imin_le1 _ _
    | succ j =>
      have := tk_le c k (i + 1) (left - imin (c i) left) j (by omega)
      simp only [List.getD_cons_succ]
      rw [show i + (j + 1) = i + 1 + j by omega]
      exact this
/-- as long as all fit, each has all -/
theorem tk_all (c l : Nat → Int) (hc : ∀ j, c j ≤ l j) (hl : ∀ j, 0 ≤ l j) : ∀ (k i : Nat) (left : Int), su l k i ≤ left → ∀ j, j < k → (tk c k i left).1.getD j 0 = c (i + j)
  | 0, i, left, _, j, h => by omega
  | k + 1, i, left, hs, j, h => by
    simp only [su] at hs
    have h1 := su_nn (a := l) k (i + 1) hl
    have h2 := hc i
    have e : imin (c i) left = c i := by unfold imin; split <;> omega
    simp only [tk, e]
    cases j with
    | zero => simp
    | succ j =>
      have := tk_all c l hc hl k (i + 1) (left - c i) (by omega) j (by omega)
      simp only [List.getD_cons_succ]
      rw [show i + (j + 1) = i + 1 + j by omega]
      exact this

theorem mo_sp {c a : Nat → Int} {i : Nat} {left : Int} (h : 0 ≤ left) (ha : a i ≤ c i) : a i ≤ a i + mo c a i left ∧ a i + mo c a i left ≤ c i ∧ (a i + mo c a i left < c i → mo c a i left = left) := by
  unfold mo imin imax
  split <;> split <;> omega

theorem tk2_get (c a : Nat → Int) : ∀ (k i : Nat) (left : Int), 0 ≤ left → (∀ j, j < k → a (i + j) ≤ c (i + j)) → ∀ j, j < k → a (i + j) ≤ (tk2 c a k i left).getD j 0 ∧ (tk2 c a k i left).getD j 0 ≤ c (i + j)
  | 0, i, left, _, _, j, h => by omega
  | k + 1, i, left, hl, ha, j, h => by
    have m1 := mo_nn (c := c) (a := a) (i := i) hl
    have m2 : mo c a i left ≤ left := mo_le
    have m3 := mo_sp (c := c) (a := a) (i := i) hl (ha 0 (by omega))
    simp only [tk2]
    cases j with
    | zero => simp only [List.getD_cons_zero, Nat.add_zero]; omega
    | succ j =>
      have := tk2_get c a k (i + 1) (left - mo c a i left) (by omega) (fun j hj => by rw [show i + 1 + j = i + (j + 1) by omega]; exact ha (j + 1) (by omega)) j (by omega)
      simp only [List.getD_cons_succ]
      rw [show i + (j + 1) = i + 1 + j by omega]
      exact this
theorem tk2_sum0 (c a : Nat → Int) : ∀ (k i : Nat), (∀ j, j < k → a (i + j) ≤ c (i + j)) → lsum (tk2 c a k i 0) = su a k i
  | 0, i, _ => rfl
  | k + 1, i, ha => by
    have m1 := mo_nn (c := c) (a := a) (i := i) (Int.le_refl 0)
    have m2 : mo c a i 0 ≤ 0 := mo_le
    have e : mo c a i 0 = 0 := by omega
    simp only [tk2, lsum, su, e]
    have := tk2_sum0 c a k (i + 1) (fun j hj => by rw [show i + 1 + j = i + (j + 1) by omega]; exact ha (j + 1) (by omega))
    simp only [Int.sub_zero, Int.add_zero, this]
theorem tk2_sum (c a : Nat → Int) : ∀ (k i : Nat) (left : Int), 0 ≤ left → (∀ j, j < k → a (i + j) ≤ c (i + j)) →
    su a k i ≤ lsum (tk2 c a k i left) ∧ lsum (tk2 c a k i left) ≤ su a k i + left ∧ ∀ j, j < k → (tk2 c a k i left).getD j 0 < c (i + j) → lsum (tk2 c a k i left) = su a k i + left
  | 0, i, left, h, _ => by simp [tk2, lsum, su]; omega
  | k + 1, i, left, hl, ha => by
    have m1 := mo_nn (c := c) (a := a) (i := i) hl
    have m2 : mo c a i left ≤ left := mo_le
    have m3 := mo_sp (c := c) (a := a) (i := i) hl (ha 0 (by omega))
    have ha' : ∀ j, j < k → a (i + 1 + j) ≤ c (i + 1 + j) := fun j hj => by rw [show i + 1 + j = i + (j + 1) by omega]; exact ha (j + 1) (by omega)
    obtain ⟨b1, b2, b3⟩ := tk2_sum c a k (i + 1) (left - mo c a i left) (by omega) ha'
    simp only [tk2, lsum, su]
    refine ⟨by omega, by omega, ?_⟩
    intro j hj hlt
    cases j with
    | zero =>
      simp only [List.getD_cons_zero, Nat.add_zero] at hlt
      have e := m3.2.2 hlt
      have h0 : left - mo c a i left = 0 := by omega
      rw [h0, tk2_sum0 c a k (i + 1) ha']
      omega
    | succ j =>
      simp only [List.getD_cons_succ] at hlt
      have := b3 j (by omega) (by rw [show i + 1 + j = i + (j + 1) by omega]; exact hlt)
      omega


theorem slc_ok {l : List Int} {m : Nat} (h : m ≤ l.length) : slc l 0 (m : Int) = some (l.take m) := by
  unfold slc
  rw [if_pos ⟨by omega, by omega, by omega⟩]
  simp
theorem g_id {n : Int} (h : 0 ≤ n) (h2 : n ≤ 1125899906842624) : g n = n := by unfold g; rw [if_neg (by omega), if_neg (by omega)]

/-- as many as all have, and twenty at most -/
def mm (L W M : List Int) : Nat := min (min (min L.length W.length) M.length) 20
theorem mm_eq (L W M : List Int) : imin (imin (imin (L.length : Int) (W.length : Int)) (M.length : Int)) 20 = (mm L W M : Int) := by
  unfold imin mm
  split <;> split <;> split <;> omega

/-- the small numbers -/
def sm (l : List Int) (m : Nat) : List Int := (l.take m).map (wi 40)
theorem sm_len {l : List Int} {m : Nat} (h : m ≤ l.length) : (sm l m).length = m := by simp [sm]; omega
theorem sm_get (l : List Int) (m j : Nat) : 0 ≤ (sm l m).getD j 0 ∧ (sm l m).getD j 0 < 40 := by
  rw [List.getD]
  cases h : (sm l m)[j]? with
  | none => simp
  | some x =>
    have : x ∈ sm l m := List.mem_of_getElem? h
    simp only [sm, List.mem_map] at this
    obtain ⟨y, _, rfl⟩ := this
    exact ⟨wi_nn (by omega), wi_lt (by omega)⟩
theorem few_sm (l : List Int) (m : Nat) (h : m ≤ 20) : dispatchlaw16_few (l.take m) = some (sm l m) := few_eq _ (by simp; omega)

/-- of a split of small numbers -/
structure Good (t : Int) (l w m : List Int) (n : Nat) (x : List Int) : Prop where
  len : x.length = n
  nn : ∀ j, j < n → 0 ≤ x.getD j 0
  want : ∀ j, j < n → x.getD j 0 ≤ w.getD j 0
  most : ∀ j, j < n → x.getD j 0 ≤ m.getD j 0
  sum : lsum x ≤ t
  short : ∀ j, j < n → x.getD j 0 < imin (w.getD j 0) (m.getD j 0) → lsum x = t
  least : su (fun j => l.getD j 0) n 0 ≤ t → ∀ j, j < n → imin (imin (l.getD j 0) (w.getD j 0)) (m.getD j 0) ≤ x.getD j 0

theorem good_spl {t : Int} {l w m : List Int} {n : Nat} (ht : 0 ≤ t) (ht2 : t ≤ 1000000) (hl : l.length = n) (hw : w.length = n) (hm : m.length = n) (hl2 : ∀ j, 0 ≤ l.getD j 0 ∧ l.getD j 0 < 40) (hw2 : ∀ j, 0 ≤ w.getD j 0 ∧ w.getD j 0 < 40) (hm2 : ∀ j, 0 ≤ m.getD j 0 ∧ m.getD j 0 < 40) :
    Good t l w m n (spl t l w m) := by
  have hn : sn l w m = n := by unfold sn; omega
  have c2e : ∀ j, c2 w m j = imin (w.getD j 0) (m.getD j 0) := fun j => by
    have := hw2 j; have := hm2 j
    unfold c2; rw [g_id (by omega) (by omega), g_id (by omega) (by omega)]
  have c3e : ∀ j, c3 l w m j = imin (imin (l.getD j 0) (w.getD j 0)) (m.getD j 0) := fun j => by
    have := hl2 j; have := hw2 j; have := hm2 j
    unfold c3; rw [g_id (by omega) (by omega), g_id (by omega) (by omega), g_id (by omega) (by omega)]
  have c32 : ∀ j, c3 l w m j ≤ c2 w m j := fun j => by rw [c3e, c2e]; exact le_imin (Int.le_trans (imin_le1 _ _) (imin_le2 _ _)) (imin_le2 _ _)
  have gt : g t = t := g_id ht (by omega)
  obtain ⟨b1, b2, b3⟩ := tk_get (c3 l w m) (fun i => c3_nn _ _ _ i) n 0 t ht
  have hsum := tk_sum (c3 l w m) n 0 t
  have hlen := tk_len (c3 l w m) n 0 t
  have hle := tk_le (c3 l w m) n 0 t
  have hsu := su_list (tk (c3 l w m) n 0 t).1 n 0 (by simp [hlen])
  rw [List.drop_zero] at hsu
  have ha : ∀ j, j < n → (fun j => (tk (c3 l w m) n 0 t).1.getD j 0) (0 + j) ≤ c2 w m (0 + j) := fun j hj => by
    have := hle j hj
    have := c32 (0 + j)
    simp only [Nat.zero_add] at *
    omega
  have hspl : spl t l w m = tk2 (c2 w m) (fun j => (tk (c3 l w m) n 0 t).1.getD j 0) n 0 (tk (c3 l w m) n 0 t).2 := by
    unfold spl sp1; rw [hn, gt]
  obtain ⟨s1, s2, s3⟩ := tk2_sum (c2 w m) (fun j => (tk (c3 l w m) n 0 t).1.getD j 0) n 0 _ b1 ha
  have hg := tk2_get (c2 w m) (fun j => (tk (c3 l w m) n 0 t).1.getD j 0) n 0 _ b1 ha
  rw [hspl]
  refine ⟨tk2_len _ _ _ _ _, ?_, ?_, ?_, by omega, ?_, ?_⟩
  · intro j hj
    have h1 := (hg j hj).1
    have h2 := (b3 j).1
    simp only [Nat.zero_add] at h1
    omega
  · intro j hj
    have h1 := (hg j hj).2
    simp only [Nat.zero_add, c2e] at h1
    exact Int.le_trans h1 (imin_le1 _ _)
  · intro j hj
    have h1 := (hg j hj).2
    simp only [Nat.zero_add, c2e] at h1
    exact Int.le_trans h1 (imin_le2 _ _)
  · intro j hj hlt
    have := s3 j hj (by rw [Nat.zero_add, c2e]; exact hlt)
    omega
  · intro hs j hj
    have h1 := (hg j hj).1
    have h2 := tk_all (c3 l w m) (fun j => l.getD j 0) (fun j => by rw [c3e]; exact Int.le_trans (imin_le1 _ _) (imin_le1 _ _)) (fun j => (hl2 j).1) n 0 t hs j hj
    simp only [Nat.zero_add] at h1 h2
    rw [← c3e, ← h2]
    exact h1

theorem sums_l1 (L W M l w m x : List Int) (n : Nat) (hn : n ≤ 20) (hmm : imin (imin (imin (L.length : Int) (W.length : Int)) (M.length : Int)) 20 = (n : Int)) (hl : l.length = n) (hw : w.length = n) (hm : m.length = n) (hx : x.length = n)
    (hl2 : ∀ j, 0 ≤ l.getD j 0 ∧ l.getD j 0 < 40) (hx1 : ∀ j, j < n → 0 ≤ x.getD j 0 ∧ x.getD j 0 ≤ w.getD j 0 ∧ x.getD j 0 ≤ m.getD j 0) (hx2 : ∀ j, w.getD j 0 < 40) :
    ∀ (k i : Nat) (s a : Int), i + k = n → 0 ≤ s → s ≤ 40 * i → 0 ≤ a → a ≤ 40 * i → dispatchlaw16_IdealSums_l1 L W M l w m x (k + 1) s a (i : Int) = some (Lp.nx (s + lsum (x.drop i), a + lsum (l.drop i)))
  | 0, i, s, a, h, _, _, _, _ => by
    unfold dispatchlaw16_IdealSums_l1
    rw [hmm, if_neg (by simp; omega), List.drop_of_length_le (by omega), List.drop_of_length_le (by omega)]
    simp [lsum]
  | k + 1, i, s, a, h, h1, h2, h3, h4 => by
    have e1 := hx1 i (by omega)
    have e2 := hx2 i
    have e3 := hl2 i
    unfold dispatchlaw16_IdealSums_l1
    rw [hmm, if_pos (by simp; omega), idx_ok (by omega), Option.bind_some, if_neg (by rw [decide_eq_true_eq]; omega), idx_ok (by omega), Option.bind_some, if_neg (by rw [decide_eq_true_eq]; omega), idx_ok (by omega), Option.bind_some, Option.bind_some, if_neg (by rw [decide_eq_true_eq]; omega),
      Option.bind_some, idx_ok (by omega), Option.bind_some, w64_id (n := s + x.getD i 0) (by omega) (by omega), w64_id (n := a + l.getD i 0) (by omega) (by omega), show w64 ((i : Int) + 1) = ((i + 1 : Nat) : Int) by rw [w64_id] <;> omega,
      sums_l1 L W M l w m x n hn hmm hl hw hm hx hl2 hx1 hx2 k (i + 1) _ _ (by omega) (by omega) (by omega) (by omega) (by omega), drop_c (l := x) (i := i) (by omega), drop_c (l := l) (i := i) (by omega)]
    simp only [lsum]
    congr 3 <;> omega

theorem sums_l6 (L W M l w m x : List Int) (t s a : Int) (n : Nat) (hn : n ≤ 20) (hmm : imin (imin (imin (L.length : Int) (W.length : Int)) (M.length : Int)) 20 = (n : Int)) (hl : l.length = n) (hw : w.length = n) (hm : m.length = n) (hx : x.length = n)
    (h1 : ∀ j, j < n → x.getD j 0 < imin (w.getD j 0) (m.getD j 0) → s = t) (h2 : a ≤ t → ∀ j, j < n → imin (imin (l.getD j 0) (w.getD j 0)) (m.getD j 0) ≤ x.getD j 0) :
    ∀ (k i : Nat), i + k = n → dispatchlaw16_IdealSums_l6 L W M l w m t x s a (k + 1) (i : Int) = some (Lp.nx ())
  | 0, i, h => by
    unfold dispatchlaw16_IdealSums_l6
    rw [hmm, if_neg (by simp; omega)]
  | k + 1, i, h => by
    have e1 := h1 i (by omega)
    have ih := sums_l6 L W M l w m x t s a n hn hmm hl hw hm hx h1 h2 k (i + 1) (by omega)
    unfold dispatchlaw16_IdealSums_l6
    rw [hmm, if_pos (by simp; omega), idx_ok (by omega), Option.bind_some, idx_ok (by omega), Option.bind_some, idx_ok (by omega), Option.bind_some, idx_ok (by omega), Option.bind_some, show w64 ((i : Int) + 1) = ((i + 1 : Nat) : Int) by rw [w64_id] <;> omega, ih]
    have inner : (if decide (a ≤ t) = true then some (decide (x.getD i 0 < imin (imin (l.getD i 0) (w.getD i 0)) (m.getD i 0))) else some false) = some false := by
      by_cases ha : a ≤ t
      · rw [if_pos (by simpa using ha)]
        have := h2 ha i (by omega)
        simp only [Option.some.injEq, decide_eq_false_iff_not]
        omega
      · rw [if_neg (by simpa using ha)]
    by_cases hlt : x.getD i 0 < imin (w.getD i 0) (m.getD i 0)
    · rw [if_pos (by simpa using hlt), if_neg (by simp [e1 hlt]), inner, Option.bind_some, if_neg (by simp)]
    · rw [if_neg (by simpa using hlt), inner, Option.bind_some, if_neg (by simp)]

theorem IdealSums_true (t : Int) (L W M : List Int) : dispatchlaw16_IdealSums t L W M = some true := by
  have l1 : mm L W M ≤ L.length := by unfold mm; omega
  have l2 : mm L W M ≤ W.length := by unfold mm; omega
  have l3 : mm L W M ≤ M.length := by unfold mm; omega
  have l4 : mm L W M ≤ 20 := by unfold mm; omega
  have hl := sm_len l1
  have hw := sm_len l2
  have hm := sm_len l3
  have t1 : 0 ≤ wi 150 t := wi_nn (by omega)
  have t2 : wi 150 t < 150 := wi_lt (by omega)
  have G := good_spl (t := wi 150 t) t1 (by omega) hl hw hm (sm_get L _) (sm_get W _) (sm_get M _)
  unfold dispatchlaw16_IdealSums
  rw [known_eq, Option.bind_some, if_neg (by simp), mm_eq, slc_ok l1, Option.bind_some, few_sm _ _ l4, Option.bind_some, slc_ok l2, Option.bind_some, few_sm _ _ l4, Option.bind_some, slc_ok l3, Option.bind_some, few_sm _ _ l4, Option.bind_some,
    within_eq _ _ (by omega) (by omega), Option.bind_some, ideal_eq _ _ _ _ (by unfold sn; omega), Option.bind_some, if_neg (by rw [G.len]; simp), show ((mm L W M : Int) - 0).toNat = mm L W M by omega]
  have f1 := sums_l1 L W M _ _ _ _ _ l4 (mm_eq L W M) hl hw hm G.len (sm_get L _) (fun j hj => ⟨G.nn j hj, G.want j hj, G.most j hj⟩) (fun j => (sm_get W _ j).2) (mm L W M) 0 0 0 (by omega) (by omega) (by omega) (by omega) (by omega)
  rw [show (((0 : Nat) : Int)) = 0 from rfl] at f1
  rw [f1, Option.bind_some]
  simp only [List.drop_zero, Int.zero_add]
  have hsl : lsum (sm L (mm L W M)) = su (fun j => (sm L (mm L W M)).getD j 0) (mm L W M) 0 := by
    have := su_list (sm L (mm L W M)) (mm L W M) 0 (by simp [hl])
    rw [this, List.drop_zero]
  have f2 := sums_l6 L W M _ _ _ _ (wi 150 t) (lsum (spl (wi 150 t) (sm L (mm L W M)) (sm W (mm L W M)) (sm M (mm L W M)))) (lsum (sm L (mm L W M))) _ l4 (mm_eq L W M) hl hw hm G.len G.short (fun ha => G.least (by rw [← hsl]; exact ha)) (mm L W M) 0 (by omega)
  rw [show (((0 : Nat) : Int)) = 0 from rfl] at f2
  rw [f2, Option.bind_some]
  have := G.sum
  simp [this]

end Go.Fw.D

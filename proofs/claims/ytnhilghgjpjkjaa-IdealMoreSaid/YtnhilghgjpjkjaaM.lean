/-
  The law IdealMore over plain data: true at all inputs. Conditions: none.
-/
import Derived.Test.YtnhilghgjpjkjaaS
namespace Go.Fw.D
open Go Go.Fw

theorem lsum_su {x : List Int} {n : Nat} (h : x.length = n) : lsum x = su (fun j => x.getD j 0) n 0 := by
  have := su_list x n 0 (by simp [h])
  rw [this, List.drop_zero]

theorem su_le' {a b : Nat → Int} : ∀ (k i : Nat), (∀ j, j < k → a (i + j) ≤ b (i + j)) → su a k i ≤ su b k i
  | 0, _, _ => Int.le_refl _
  | k + 1, i, h => by
    have h0 := h 0 (by omega)
    simp only [Nat.add_zero] at h0
    have := su_le' k (i + 1) (fun j hj => by rw [show i + 1 + j = i + (j + 1) by omega]; exact h (j + 1) (by omega))
    simp only [su]
    omega

/-- what is split is what there is, or all that may be had -/
theorem Good.total {t : Int} {l w m : List Int} {n : Nat} {x : List Int} (G : Good t l w m n x) : lsum x ≤ su (fun j => imin (w.getD j 0) (m.getD j 0)) n 0 ∧ (lsum x = t ∨ lsum x = su (fun j => imin (w.getD j 0) (m.getD j 0)) n 0) := by
  have hle : ∀ j, j < n → x.getD j 0 ≤ imin (w.getD j 0) (m.getD j 0) := fun j hj => le_imin (G.want j hj) (G.most j hj)
  rw [lsum_su G.len]
  refine ⟨su_le' n 0 (fun j hj => by simp only [Nat.zero_add]; exact hle j hj), ?_⟩
  by_cases h : ∃ j, j < n ∧ x.getD j 0 < imin (w.getD j 0) (m.getD j 0)
  · obtain ⟨j, hj, hlt⟩ := h
    left
    rw [← lsum_su G.len]
    exact G.short j hj hlt
  · right
    refine su_congr n 0 (fun j _ hj => ?_)
    have h1 := hle j (by omega)
    have h2 : ¬ x.getD j 0 < imin (w.getD j 0) (m.getD j 0) := fun hlt => h ⟨j, by omega, hlt⟩
    omega

/-- more to split: nobody has less, in the second round -/
theorem tk2_mono (c a : Nat → Int) : ∀ (k i : Nat) (l l' : Int), l ≤ l' → ∀ j, j < k → (tk2 c a k i l).getD j 0 ≤ (tk2 c a k i l').getD j 0
  | 0, i, l, l', _, j, h => by omega
  | k + 1, i, l, l', hl, j, h => by
    have m1 : mo c a i l ≤ mo c a i l' := by unfold mo imin; split <;> split <;> omega
    have m2 : l - mo c a i l ≤ l' - mo c a i l' := by unfold mo imin; split <;> split <;> omega
    simp only [tk2]
    cases j with
    | zero => simp only [List.getD_cons_zero]; omega
    | succ j => simp only [List.getD_cons_succ]; exact tk2_mono c a k (i + 1) _ _ m2 j (by omega)

theorem tk2_congr (c a b : Nat → Int) : ∀ (k i : Nat) (l : Int), (∀ j, j < k → a (i + j) = b (i + j)) → tk2 c a k i l = tk2 c b k i l
  | 0, _, _, _ => rfl
  | k + 1, i, l, h => by
    have h0 := h 0 (by omega)
    simp only [Nat.add_zero] at h0
    simp only [tk2, mo, h0]
    rw [tk2_congr c a b k (i + 1) _ (fun j hj => by rw [show i + 1 + j = i + (j + 1) by omega]; exact h (j + 1) (by omega))]

theorem spl_mono {t t' : Int} {l w m : List Int} {n : Nat} (ht : 0 ≤ t) (htt : t ≤ t') (ht2 : t' ≤ 1000000) (hl : l.length = n) (hw : w.length = n) (hm : m.length = n) (hl2 : ∀ j, 0 ≤ l.getD j 0 ∧ l.getD j 0 < 40) (hs : lsum l ≤ t) :
    ∀ j, j < n → (spl t l w m).getD j 0 ≤ (spl t' l w m).getD j 0 := by
  have hn : sn l w m = n := by unfold sn; omega
  have c3l : ∀ j, c3 l w m j ≤ l.getD j 0 := fun j => by
    have := hl2 j
    refine Int.le_trans (imin_le1 _ _) (Int.le_trans (imin_le1 _ _) ?_)
    rw [g_id (by omega) (by omega)]
    exact Int.le_refl _
  rw [lsum_su hl] at hs
  have e1 := tk_all (c3 l w m) (fun j => l.getD j 0) c3l (fun j => (hl2 j).1) n 0 t hs
  have e2 := tk_all (c3 l w m) (fun j => l.getD j 0) c3l (fun j => (hl2 j).1) n 0 t' (by omega)
  have s1 := tk_sum (c3 l w m) n 0 t
  have s2 := tk_sum (c3 l w m) n 0 t'
  have q1 := lsum_su (tk_len (c3 l w m) n 0 t)
  have q2 := lsum_su (tk_len (c3 l w m) n 0 t')
  have same : su (fun j => (tk (c3 l w m) n 0 t).1.getD j 0) n 0 = su (fun j => (tk (c3 l w m) n 0 t').1.getD j 0) n 0 := su_congr n 0 (fun j _ hj => by
    show (tk (c3 l w m) n 0 t).1.getD j 0 = (tk (c3 l w m) n 0 t').1.getD j 0
    rw [e1 j (by omega), e2 j (by omega)])
  intro j hj
  unfold spl sp1
  rw [hn, g_id ht (by omega), g_id (n := t') (by omega) (by omega), tk2_congr (c2 w m) (fun j => (tk (c3 l w m) n 0 t').1.getD j 0) (fun j => (tk (c3 l w m) n 0 t).1.getD j 0) n 0 _ (fun j hj => by
    show (tk (c3 l w m) n 0 t').1.getD (0 + j) 0 = (tk (c3 l w m) n 0 t).1.getD (0 + j) 0
    rw [Nat.zero_add, e1 j hj, e2 j hj])]
  exact tk2_mono _ _ n 0 _ _ (by omega) j hj

theorem more_l1 (L W M l w x y : List Int) (n : Nat) (hn : n ≤ 20) (hmm : imin (imin (imin (L.length : Int) (W.length : Int)) (M.length : Int)) 20 = (n : Int)) (hl : l.length = n) (hw : w.length = n) (hx : x.length = n) (hy : y.length = n)
    (hl2 : ∀ j, 0 ≤ l.getD j 0 ∧ l.getD j 0 < 40) (hw2 : ∀ j, w.getD j 0 < 40) (hx1 : ∀ j, j < n → 0 ≤ x.getD j 0 ∧ x.getD j 0 ≤ w.getD j 0) (hy1 : ∀ j, j < n → 0 ≤ y.getD j 0 ∧ y.getD j 0 ≤ w.getD j 0) :
    ∀ (k i : Nat) (s a : Int), i + k = n → 0 ≤ s → s ≤ 40 * i → -(40 * (i : Int)) ≤ a → a ≤ 40 * i → dispatchlaw16_IdealMore_l1 L W M l w x y (k + 1) s a (i : Int) = some (Lp.nx (s + lsum (l.drop i), a + lsum (y.drop i) - lsum (x.drop i)))
  | 0, i, s, a, h, _, _, _, _ => by
    unfold dispatchlaw16_IdealMore_l1
    rw [hmm, if_neg (by simp; omega), List.drop_of_length_le (by omega), List.drop_of_length_le (by omega), List.drop_of_length_le (by omega)]
    simp [lsum]
  | k + 1, i, s, a, h, h1, h2, h3, h4 => by
    have e1 := hx1 i (by omega)
    have e4 := hy1 i (by omega)
    have e2 := hw2 i
    have e3 := hl2 i
    unfold dispatchlaw16_IdealMore_l1
    have inner : (if (w.getD i 0 == 0) = true then (idx x (i : Int)).bind fun x1 => some (x1 != 0) else some false) = some false := by
      by_cases h0 : w.getD i 0 = 0
      · rw [if_pos (by simpa using h0), idx_ok (by omega), Option.bind_some]
        have : x.getD i 0 = 0 := by omega
        rw [this]; rfl
      · rw [if_neg (by simpa using h0)]
    rw [hmm, if_pos (by simp; omega), idx_ok (l := w) (by omega), Option.bind_some, inner, Option.bind_some, if_neg (by simp), idx_ok (l := l) (by omega), Option.bind_some, idx_ok (l := y) (by omega), Option.bind_some, idx_ok (l := x) (by omega), Option.bind_some,
      w64_id (n := s + l.getD i 0) (by omega) (by omega), w64_id (n := a + y.getD i 0) (by omega) (by omega), w64_id (n := a + y.getD i 0 - x.getD i 0) (by omega) (by omega), show w64 ((i : Int) + 1) = ((i + 1 : Nat) : Int) by rw [w64_id] <;> omega,
      more_l1 L W M l w x y n hn hmm hl hw hx hy hl2 hw2 hx1 hy1 k (i + 1) _ _ (by omega) (by omega) (by omega) (by omega) (by omega), drop_c (l := x) (i := i) (by omega), drop_c (l := l) (i := i) (by omega), drop_c (l := y) (i := i) (by omega)]
    simp only [lsum]
    congr 3 <;> omega

theorem more_l5 (L W M x y : List Int) (t s : Int) (n : Nat) (hn : n ≤ 20) (hmm : imin (imin (imin (L.length : Int) (W.length : Int)) (M.length : Int)) 20 = (n : Int)) (hx : x.length = n) (hy : y.length = n) (h1 : s ≤ t → ∀ j, j < n → x.getD j 0 ≤ y.getD j 0) :
    ∀ (k i : Nat), i + k = n → dispatchlaw16_IdealMore_l5 L W M t x y s (k + 1) (i : Int) = some (Lp.nx ())
  | 0, i, h => by
    unfold dispatchlaw16_IdealMore_l5
    rw [hmm, if_neg (by simp; omega), Option.bind_some, if_neg (by simp)]
  | k + 1, i, h => by
    unfold dispatchlaw16_IdealMore_l5
    rw [hmm, if_pos (by simp; omega), Option.bind_some]
    by_cases hs : s ≤ t
    · have := h1 hs i (by omega)
      rw [if_pos (by simpa using hs), idx_ok (by omega), Option.bind_some, idx_ok (by omega), Option.bind_some, if_neg (by rw [decide_eq_true_eq]; omega), show w64 ((i : Int) + 1) = ((i + 1 : Nat) : Int) by rw [w64_id] <;> omega, more_l5 L W M x y t s n hn hmm hx hy h1 k (i + 1) (by omega)]
    · rw [if_neg (by simpa using hs)]

theorem IdealMore_true (t u : Int) (L W M : List Int) : dispatchlaw16_IdealMore t u L W M = some true := by
  have l1 : mm L W M ≤ L.length := by unfold mm; omega
  have l2 : mm L W M ≤ W.length := by unfold mm; omega
  have l3 : mm L W M ≤ M.length := by unfold mm; omega
  have l4 : mm L W M ≤ 20 := by unfold mm; omega
  have hl := sm_len l1
  have hw := sm_len l2
  have hm := sm_len l3
  have t1 : 0 ≤ wi 150 t := wi_nn (by omega)
  have t2 : wi 150 t < 150 := wi_lt (by omega)
  have u1 : 0 ≤ wi 50 u := wi_nn (by omega)
  have u2 : wi 50 u < 50 := wi_lt (by omega)
  have G := good_spl (t := wi 150 t) t1 (by omega) hl hw hm (sm_get L _) (sm_get W _) (sm_get M _)
  have G' := good_spl (t := wi 150 t + wi 50 u) (by omega) (by omega) hl hw hm (sm_get L _) (sm_get W _) (sm_get M _)
  have T := G.total
  have T' := G'.total
  have S := G.sum
  have S' := G'.sum
  unfold dispatchlaw16_IdealMore
  rw [known_eq, Option.bind_some, if_neg (by simp), mm_eq, slc_ok l1, Option.bind_some, few_sm _ _ l4, Option.bind_some, slc_ok l2, Option.bind_some, few_sm _ _ l4, Option.bind_some, slc_ok l3, Option.bind_some, few_sm _ _ l4, Option.bind_some,
    within_eq _ _ (by omega) (by omega), Option.bind_some, within_eq _ _ (by omega) (by omega), Option.bind_some, ideal_eq _ _ _ _ (by unfold sn; omega), Option.bind_some, w64_id (n := wi 150 t + wi 50 u) (by omega) (by omega), ideal_eq _ _ _ _ (by unfold sn; omega), Option.bind_some,
    show ((mm L W M : Int) - 0).toNat = mm L W M by omega]
  have f1 := more_l1 L W M _ _ _ _ _ l4 (mm_eq L W M) hl hw G.len G'.len (sm_get L _) (fun j => (sm_get W _ j).2) (fun j hj => ⟨G.nn j hj, G.want j hj⟩) (fun j hj => ⟨G'.nn j hj, G'.want j hj⟩) (mm L W M) 0 0 0 (by omega) (by omega) (by omega) (by omega) (by omega)
  rw [show (((0 : Nat) : Int)) = 0 from rfl] at f1
  rw [f1, Option.bind_some]
  simp only [List.drop_zero, Int.zero_add]
  have f2 := more_l5 L W M _ _ (wi 150 t) (lsum (sm L (mm L W M))) _ l4 (mm_eq L W M) G.len G'.len (fun hs => spl_mono t1 (by omega) (by omega) hl hw hm (sm_get L _) hs) (mm L W M) 0 (by omega)
  rw [show (((0 : Nat) : Int)) = 0 from rfl] at f2
  rw [f2, Option.bind_some]
  dsimp only
  rw [if_pos (by rw [decide_eq_true_eq]; omega), Option.bind_some, decide_eq_true (by omega)]

end Go.Fw.D

/-
  The law IdealAll over plain data: true at all inputs. Conditions: none.
-/
import Derived.Test.YtnhilghgjpjkjaaQ
namespace Go.Fw.D
open Go Go.Fw

theorem su_lt {a b : Nat → Int} : ∀ (k i : Nat), (∀ j, j < k → a (i + j) ≤ b (i + j)) → (∃ j, j < k ∧ a (i + j) < b (i + j)) → su a k i < su b k i
  | 0, i, _, h => by obtain ⟨j, h, _⟩ := h; omega
  | k + 1, i, h, ⟨j, hj, hlt⟩ => by
    have h0 := h 0 (by omega)
    simp only [Nat.add_zero] at h0
    have le : ∀ (k i : Nat), (∀ j, j < k → a (i + j) ≤ b (i + j)) → su a k i ≤ su b k i := by
      intro k
      induction k with
      | zero => intro i _; exact Int.le_refl _
      | succ k ih =>
        intro i h
        have h0 := h 0 (by omega)
        simp only [Nat.add_zero] at h0
        have := ih (i + 1) (fun j hj => by rw [show i + 1 + j = i + (j + 1) by omega]; exact h (j + 1) (by omega))
        simp only [su]
        omega
    have hk : ∀ j, j < k → a (i + 1 + j) ≤ b (i + 1 + j) := fun j hj => by rw [show i + 1 + j = i + (j + 1) by omega]; exact h (j + 1) (by omega)
    simp only [su]
    cases j with
    | zero =>
      simp only [Nat.add_zero] at hlt
      have := le k (i + 1) hk
      omega
    | succ j =>
      have := su_lt k (i + 1) hk ⟨j, by omega, by rw [show i + 1 + j = i + (j + 1) by omega]; exact hlt⟩
      omega

theorem all_l1 (L W M w m : List Int) (n : Nat) (hn : n ≤ 20) (hmm : imin (imin (imin (L.length : Int) (W.length : Int)) (M.length : Int)) 20 = (n : Int)) (hw : w.length = n) (hm : m.length = n)
    (hw2 : ∀ j, 0 ≤ w.getD j 0 ∧ w.getD j 0 < 40) (hm2 : ∀ j, 0 ≤ m.getD j 0 ∧ m.getD j 0 < 40) : ∀ (k i : Nat) (t : Int), i + k = n → 0 ≤ t → t ≤ 100 + 40 * i →
    dispatchlaw16_IdealAll_l1 W M L w m (k + 1) t (i : Int) = some (t + su (fun j => imin (w.getD j 0) (m.getD j 0)) k i)
  | 0, i, t, h, _, _ => by
    unfold dispatchlaw16_IdealAll_l1
    rw [hmm, if_neg (by simp; omega)]
    simp [su]
  | k + 1, i, t, h, h1, h2 => by
    have e1 := hw2 i
    have e2 := hm2 i
    have e3 : 0 ≤ imin (w.getD i 0) (m.getD i 0) := le_imin e1.1 e2.1
    have e4 := imin_le1 (w.getD i 0) (m.getD i 0)
    unfold dispatchlaw16_IdealAll_l1
    rw [hmm, if_pos (by simp; omega), idx_ok (by omega), Option.bind_some, idx_ok (by omega), Option.bind_some, w64_id (n := t + imin (w.getD i 0) (m.getD i 0)) (by omega) (by omega), show w64 ((i : Int) + 1) = ((i + 1 : Nat) : Int) by rw [w64_id] <;> omega,
      all_l1 L W M w m n hn hmm hw hm hw2 hm2 k (i + 1) _ (by omega) (by omega) (by omega)]
    simp only [su]
    congr 1
    omega

theorem all_l3 (L W M w m x : List Int) (n : Nat) (hn : n ≤ 20) (hmm : imin (imin (imin (L.length : Int) (W.length : Int)) (M.length : Int)) 20 = (n : Int)) (hw : w.length = n) (hm : m.length = n) (hx : x.length = n)
    (he : ∀ j, j < n → x.getD j 0 = imin (w.getD j 0) (m.getD j 0)) : ∀ (k i : Nat), i + k = n → dispatchlaw16_IdealAll_l3 W M L w m x (k + 1) (i : Int) = some (Lp.nx ())
  | 0, i, h => by
    unfold dispatchlaw16_IdealAll_l3
    rw [hmm, if_neg (by simp; omega)]
  | k + 1, i, h => by
    have e := he i (by omega)
    unfold dispatchlaw16_IdealAll_l3
    rw [hmm, if_pos (by simp; omega), idx_ok (by omega), Option.bind_some, idx_ok (by omega), Option.bind_some, idx_ok (by omega), Option.bind_some, if_neg (by rw [e]; simp), show w64 ((i : Int) + 1) = ((i + 1 : Nat) : Int) by rw [w64_id] <;> omega,
      all_l3 L W M w m x n hn hmm hw hm hx he k (i + 1) (by omega)]

theorem IdealAll_true (W M L : List Int) (t : Int) : dispatchlaw16_IdealAll W M L t = some true := by
  have l1 : mm L W M ≤ L.length := by unfold mm; omega
  have l2 : mm L W M ≤ W.length := by unfold mm; omega
  have l3 : mm L W M ≤ M.length := by unfold mm; omega
  have l4 : mm L W M ≤ 20 := by unfold mm; omega
  have hl := sm_len l1
  have hw := sm_len l2
  have hm := sm_len l3
  have t1 : 0 ≤ wi 50 t := wi_nn (by omega)
  have t2 : wi 50 t < 50 := wi_lt (by omega)
  have cn : ∀ j, 0 ≤ imin ((sm W (mm L W M)).getD j 0) ((sm M (mm L W M)).getD j 0) := fun j => le_imin (sm_get W _ j).1 (sm_get M _ j).1
  have s0 := su_nn (mm L W M) 0 cn
  have s1 : ∀ (k i : Nat), su (fun j => imin ((sm W (mm L W M)).getD j 0) ((sm M (mm L W M)).getD j 0)) k i ≤ 40 * k := by
    intro k
    induction k with
    | zero => intro i; simp [su]
    | succ k ih =>
      intro i
      have := ih (i + 1)
      have h1 := imin_le1 ((sm W (mm L W M)).getD i 0) ((sm M (mm L W M)).getD i 0)
      have h2 := (sm_get W (mm L W M) i).2
      simp only [su]
      omega
  have s2 := s1 (mm L W M) 0
  have G := good_spl (t := wi 50 t + su (fun j => imin ((sm W (mm L W M)).getD j 0) ((sm M (mm L W M)).getD j 0)) (mm L W M) 0) (by omega) (by omega) hl hw hm (sm_get L _) (sm_get W _) (sm_get M _)
  have each : ∀ j, j < mm L W M → (spl (wi 50 t + su (fun j => imin ((sm W (mm L W M)).getD j 0) ((sm M (mm L W M)).getD j 0)) (mm L W M) 0) (sm L (mm L W M)) (sm W (mm L W M)) (sm M (mm L W M))).getD j 0 = imin ((sm W (mm L W M)).getD j 0) ((sm M (mm L W M)).getD j 0) := by
    intro j hj
    have a := le_imin (G.want j hj) (G.most j hj)
    rcases Int.lt_or_eq_of_le a with h | h
    · have h1 := G.short j hj h
      have h2 := su_list _ (mm L W M) 0 (show mm L W M = ((spl (wi 50 t + su (fun j => imin ((sm W (mm L W M)).getD j 0) ((sm M (mm L W M)).getD j 0)) (mm L W M) 0) (sm L (mm L W M)) (sm W (mm L W M)) (sm M (mm L W M))).drop 0).length by rw [List.drop_zero, G.len])
      rw [List.drop_zero] at h2
      have h3 := su_lt (a := fun j => (spl (wi 50 t + su (fun j => imin ((sm W (mm L W M)).getD j 0) ((sm M (mm L W M)).getD j 0)) (mm L W M) 0) (sm L (mm L W M)) (sm W (mm L W M)) (sm M (mm L W M))).getD j 0)
        (b := fun j => imin ((sm W (mm L W M)).getD j 0) ((sm M (mm L W M)).getD j 0)) (mm L W M) 0 (fun j hj => by simp only [Nat.zero_add]; exact le_imin (G.want j hj) (G.most j hj)) ⟨j, hj, by simp only [Nat.zero_add]; exact h⟩
      omega
    · exact h
  unfold dispatchlaw16_IdealAll
  rw [known_eq, Option.bind_some, if_neg (by simp), mm_eq, slc_ok l1, Option.bind_some, few_sm _ _ l4, Option.bind_some, slc_ok l2, Option.bind_some, few_sm _ _ l4, Option.bind_some, slc_ok l3, Option.bind_some, few_sm _ _ l4, Option.bind_some,
    within_eq _ _ (by omega) (by omega), Option.bind_some, show ((mm L W M : Int) - 0).toNat = mm L W M by omega]
  have f1 := all_l1 L W M _ _ _ l4 (mm_eq L W M) hw hm (sm_get W _) (sm_get M _) (mm L W M) 0 (wi 50 t) (by omega) (by omega) (by omega)
  rw [show (((0 : Nat) : Int)) = 0 from rfl] at f1
  rw [f1, Option.bind_some, ideal_eq _ _ _ _ (by unfold sn; omega), Option.bind_some, if_neg (by rw [G.len]; simp)]
  have f2 := all_l3 L W M _ _ _ _ l4 (mm_eq L W M) hw hm G.len each (mm L W M) 0 (by omega)
  rw [show (((0 : Nat) : Int)) = 0 from rfl] at f2
  rw [f2, Option.bind_some]

end Go.Fw.D

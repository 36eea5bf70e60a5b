/-
  The laws of chapter 16 over plain data: each is true at all inputs. Conditions: none.
-/
import Derived.Test.YtnhilghgjpjkjaaD
namespace Go.Fw.D
open Go Go.Fw

theorem w64_id {n : Int} (h : -9223372036854775808 ≤ n) (h2 : n ≤ 9223372036854775807) : w64 n = n := by
  simp [w64, IntKind.wrap, IntKind.signed, IntKind.bits]
  omega

theorem idx_ok {l : List Int} {i : Nat} (h : i < l.length) : idx l (i : Int) = some (l.getD i 0) := by
  unfold idx
  rw [if_pos (by omega)]
  simp [List.getD, h]

theorem drop_c {l : List Int} {i : Nat} (h : i < l.length) : l.drop i = l.getD i 0 :: l.drop (i + 1) := by
  rw [List.drop_eq_getElem_cons h]
  simp [List.getD, h]

theorem upd_ok {l : List Int} {i : Nat} {x : Int} (h : i < l.length) : upd l (i : Int) x = some (l.set i x) := by
  unfold upd
  rw [if_pos ⟨by omega, by simpa using h⟩]
  simp

theorem app_ok {l m : List Int} (h : (l ++ m).length ≤ 1000000) : app 8 l m = some (l ++ m) := by
  unfold app
  rw [if_pos ⟨by simp only [maxLen]; omega, by omega⟩]

theorem mkl_ok {n : Nat} (h : n ≤ 1000000) : mkl 8 (n : Int) (0 : Int) = some (List.replicate n 0) := by
  unfold mkl
  rw [if_pos ⟨by omega, by simp only [maxLen, Int.toNat_natCast]; omega, by simp only [Int.toNat_natCast]; omega⟩]
  simp

/-- what is taken for good -/
def g (n : Int) : Int := if n < 0 then 0 else if n > 1125899906842624 then 0 else n
theorem g_nn (n : Int) : 0 ≤ g n := by unfold g; split <;> (try split) <;> omega
theorem g_le (n : Int) : g n ≤ 1125899906842624 := by unfold g; split <;> (try split) <;> omega

theorem good_eq (n : Int) : ideal_good n = some (g n) := by
  unfold ideal_good g
  by_cases h : n < 0
  · simp [h]
  · by_cases h2 : n > 1125899906842624
    · simp [h, h2]
    · simp [h, h2]
theorem rgood_eq (n : Int) : dispatchref16_good n = some (g n) := good_eq n

theorem lesser_l1 (l : List Int) (hl : l.length ≤ 1000000) : ∀ (k i : Nat) (first : Int), i + k = l.length → ideal_lesser_l1 l (k + 1) first (i : Int) = some ((l.drop i).foldl imin first)
  | 0, i, first, h => by
    unfold ideal_lesser_l1
    rw [if_neg (by simp; omega)]
    simp [List.drop_of_length_le (show l.length ≤ i by omega)]
  | k + 1, i, first, h => by
    have hi : i < l.length := by omega
    unfold ideal_lesser_l1
    rw [if_pos (by simpa using hi), idx_ok hi, Option.bind_some, show w64 ((i : Int) + 1) = ((i + 1 : Nat) : Int) by rw [w64_id] <;> omega, lesser_l1 l hl k (i + 1) _ (by omega)]
    rw [drop_c hi, List.foldl_cons]
theorem lesser_eq (first : Int) (l : List Int) (hl : l.length ≤ 1000000) : ideal_lesser first l = some (l.foldl imin first) := by
  unfold ideal_lesser
  have := lesser_l1 l hl l.length 0 first (by omega)
  rw [show ((l.length : Int) - 0).toNat = l.length by omega, show (0 : Int) = ((0 : Nat) : Int) from rfl, this]
  simp

/-- where a number falls -/
def wi (n : Int) (x : Int) : Int := if x.tmod n < 0 then x.tmod n + n else x.tmod n
theorem within_eq (x n : Int) (h : 0 < n) (h2 : n ≤ 1000000) : dispatchlaw16_within x n = some (wi n x) := by
  have h1 : x.tmod n < n := Int.tmod_lt_of_pos x h
  have h3 : -n < x.tmod n := by
    exact Int.lt_tmod_of_pos x h
  unfold dispatchlaw16_within wi nz
  rw [if_pos (by omega)]
  simp only [Option.bind_some]
  by_cases hn : x.tmod n < 0
  · simp [hn]
    rw [w64_id] <;> omega
  · simp [hn]
theorem wi_nn {n x : Int} (h : 0 < n) : 0 ≤ wi n x := by
  have h3 : -n < x.tmod n := Int.lt_tmod_of_pos x h
  unfold wi; split <;> omega
theorem wi_lt {n x : Int} (h : 0 < n) : wi n x < n := by
  have h1 : x.tmod n < n := Int.tmod_lt_of_pos x h
  unfold wi; split <;> omega

theorem few_l1 (l : List Int) (hl : l.length ≤ 1000) : ∀ (k i : Nat) (out : List Int), i + k = l.length → out.length = i → dispatchlaw16_few_l1 l (k + 1) out (i : Int) = some (out ++ (l.drop i).map (wi 40))
  | 0, i, out, h, _ => by
    unfold dispatchlaw16_few_l1
    rw [if_neg (by simp; omega)]
    simp [List.drop_of_length_le (show l.length ≤ i by omega)]
  | k + 1, i, out, h, ho => by
    have hi : i < l.length := by omega
    unfold dispatchlaw16_few_l1
    rw [if_pos (by simpa using hi), idx_ok hi, Option.bind_some, within_eq _ 40 (by omega) (by omega), Option.bind_some, app_ok (by simp; omega), Option.bind_some,
      show w64 ((i : Int) + 1) = ((i + 1 : Nat) : Int) by rw [w64_id] <;> omega, few_l1 l hl k (i + 1) _ (by omega) (by simp; omega)]
    rw [drop_c hi, List.map_cons, List.append_assoc]
    rfl
theorem few_eq (l : List Int) (hl : l.length ≤ 1000) : dispatchlaw16_few l = some (l.map (wi 40)) := by
  unfold dispatchlaw16_few
  have := few_l1 l hl l.length 0 [] (by omega) rfl
  rw [show ((l.length : Int) - 0).toNat = l.length by omega, show (0 : Int) = ((0 : Nat) : Int) from rfl, this]
  simp

/-! the two splits -/
/-- who may have what -/
def c3 (L W M : List Int) (i : Nat) : Int := imin (imin (g (L.getD i 0)) (g (W.getD i 0))) (g (M.getD i 0))
def c2 (W M : List Int) (i : Nat) : Int := imin (g (W.getD i 0)) (g (M.getD i 0))
theorem imin_le1 (x y : Int) : imin x y ≤ x := by unfold imin; split <;> omega
theorem imin_le2 (x y : Int) : imin x y ≤ y := by unfold imin; split <;> omega
theorem le_imin {x y z : Int} (h : z ≤ x) (h2 : z ≤ y) : z ≤ imin x y := by unfold imin; split <;> omega
theorem c3_nn (L W M : List Int) (i : Nat) : 0 ≤ c3 L W M i := le_imin (le_imin (g_nn _) (g_nn _)) (g_nn _)
theorem c2_nn (W M : List Int) (i : Nat) : 0 ≤ c2 W M i := le_imin (g_nn _) (g_nn _)
theorem c2_le (W M : List Int) (i : Nat) : c2 W M i ≤ 1125899906842624 := Int.le_trans (imin_le1 _ _) (g_le _)

/-- a round through all: what each takes, and what is left -/
def tk (c : Nat → Int) : Nat → Nat → Int → List Int × Int
  | 0, _, left => ([], left)
  | k + 1, i, left => (imin (c i) left :: (tk c k (i + 1) (left - imin (c i) left)).1, (tk c k (i + 1) (left - imin (c i) left)).2)

theorem tk_len (c : Nat → Int) : ∀ (k i : Nat) (left : Int), (tk c k i left).1.length = k
  | 0, _, _ => rfl
  | k + 1, i, left => by simp [tk, tk_len c k]

theorem first_ideal (L W M : List Int) (n : Nat) (hn : n ≤ 1000) (hL : n ≤ L.length) (hW : n ≤ W.length) (hM : n ≤ M.length) : ∀ (k i : Nat) (out : List Int) (left : Int), i + k = n → out.length = n → 0 ≤ left → left ≤ 1125899906842624 →
    ideal_Split_l1 L W M (n : Int) (k + 1) out left (i : Int) = some (out.take i ++ (tk (c3 L W M) k i left).1, (tk (c3 L W M) k i left).2)
  | 0, i, out, left, h, ho, _, _ => by
    unfold ideal_Split_l1
    rw [if_neg (by simp; omega)]
    simp [tk, List.take_of_length_le (show out.length ≤ i by omega)]
  | k + 1, i, out, left, h, ho, h1, h2 => by
    have a1 : 0 ≤ imin (c3 L W M i) left := le_imin (c3_nn _ _ _ _) h1
    have a2 := imin_le2 (c3 L W M i) left
    unfold ideal_Split_l1
    rw [if_pos (by simp; omega), idx_ok (by omega), Option.bind_some, good_eq, Option.bind_some, idx_ok (by omega), Option.bind_some, good_eq, Option.bind_some, idx_ok (by omega), Option.bind_some, good_eq, Option.bind_some,
      lesser_eq _ _ (by simp), Option.bind_some, idx_ok (by omega), Option.bind_some, upd_ok (by omega), Option.bind_some, idx_ok (by simp; omega), Option.bind_some]
    rw [show w64 ((i : Int) + 1) = ((i + 1 : Nat) : Int) by rw [w64_id] <;> omega]
    have e : List.foldl imin (g (L.getD i 0)) [g (W.getD i 0), g (M.getD i 0), left] = imin (c3 L W M i) left := rfl
    rw [e]
    have e2 : (out.set i (imin (c3 L W M i) left)).getD i 0 = imin (c3 L W M i) left := by
      have hi : i < out.length := by omega
      simp [List.getD, hi]
    rw [e2, w64_id (by omega) (by omega), first_ideal L W M n hn hL hW hM k (i + 1) _ _ (by omega) (by simp [ho]) (by omega) (by omega)]
    congr 1
    simp only [tk]
    congr 1
    have hi : i < out.length := by omega
    have : (out.set i (imin (c3 L W M i) left)).take (i + 1) = out.take i ++ [imin (c3 L W M i) left] := by
      rw [List.take_add_one, List.take_set_of_le (Nat.le_refl i)]
      simp [hi]
    rw [this]
    simp

theorem first_ref (L W M : List Int) (n : Nat) (hn : n ≤ 1000) (hL : n ≤ L.length) (hW : n ≤ W.length) (hM : n ≤ M.length) (hmin : imin (imin (L.length : Int) (W.length : Int)) (M.length : Int) = (n : Int)) : ∀ (k i : Nat) (out : List Int) (left : Int), i + k = n → out.length = i → 0 ≤ left → left ≤ 1125899906842624 →
    dispatchref16_Split_l1 L W M (k + 1) left out (i : Int) = some ((tk (c3 L W M) k i left).2, out ++ (tk (c3 L W M) k i left).1)
  | 0, i, out, left, h, ho, _, _ => by
    unfold dispatchref16_Split_l1
    rw [hmin, if_neg (by simp; omega)]
    simp [tk]
  | k + 1, i, out, left, h, ho, h1, h2 => by
    have a1 : 0 ≤ imin (c3 L W M i) left := le_imin (c3_nn _ _ _ _) h1
    have a2 := imin_le2 (c3 L W M i) left
    unfold dispatchref16_Split_l1
    rw [hmin, if_pos (by simp; omega), idx_ok (by omega), Option.bind_some, rgood_eq, Option.bind_some, idx_ok (by omega), Option.bind_some, rgood_eq, Option.bind_some, idx_ok (by omega), Option.bind_some, rgood_eq, Option.bind_some]
    have e : imin (imin (imin (g (L.getD i 0)) (g (W.getD i 0))) (g (M.getD i 0))) left = imin (c3 L W M i) left := rfl
    rw [e, app_ok (by simp; omega), Option.bind_some, show w64 ((i : Int) + 1) = ((i + 1 : Nat) : Int) by rw [w64_id] <;> omega, w64_id (by omega) (by omega), first_ref L W M n hn hL hW hM hmin k (i + 1) _ _ (by omega) (by simp [ho]) (by omega) (by omega)]
    simp [tk]

/-- what a round's takers take together is gone -/
theorem tk_get (c : Nat → Int) (hc : ∀ i, 0 ≤ c i) : ∀ (k i : Nat) (left : Int), 0 ≤ left → 0 ≤ (tk c k i left).2 ∧ (tk c k i left).2 ≤ left ∧ ∀ j, 0 ≤ (tk c k i left).1.getD j 0 ∧ (tk c k i left).1.getD j 0 ≤ left
  | 0, i, left, h => by simp [tk]; omega
  | k + 1, i, left, h => by
    have a1 : 0 ≤ imin (c i) left := le_imin (hc _) h
    have a2 := imin_le2 (c i) left
    obtain ⟨b1, b2, b3⟩ := tk_get c hc k (i + 1) (left - imin (c i) left) (by omega)
    simp only [tk]
    refine ⟨b1, by omega, ?_⟩
    intro j
    cases j with
    | zero => simp; omega
    | succ j =>
      have := b3 j
      simp only [List.getD_cons_succ]
      omega

/-- the second round: who has less than it may gets more -/
def mo (c a : Nat → Int) (i : Nat) (left : Int) : Int := imin (imax (c i - a i) 0) left
theorem mo_nn {c a : Nat → Int} {i : Nat} {left : Int} (h : 0 ≤ left) : 0 ≤ mo c a i left := le_imin (by unfold imax; split <;> omega) h
theorem mo_le {c a : Nat → Int} {i : Nat} {left : Int} : mo c a i left ≤ left := imin_le2 _ _
def tk2 (c a : Nat → Int) : Nat → Nat → Int → List Int
  | 0, _, _ => []
  | k + 1, i, left => (a i + mo c a i left) :: tk2 c a k (i + 1) (left - mo c a i left)
theorem tk2_len (c a : Nat → Int) : ∀ (k i : Nat) (left : Int), (tk2 c a k i left).length = k
  | 0, _, _ => rfl
  | k + 1, i, left => by simp [tk2, tk2_len c a k]

theorem take_set1 {l : List Int} {i : Nat} {x : Int} (h : i < l.length) : (l.set i x).take (i + 1) = l.take i ++ [x] := by
  rw [List.take_add_one, List.take_set_of_le (Nat.le_refl i)]
  simp [h]

theorem second_ideal (W M : List Int) (n : Nat) (hn : n ≤ 1000) (hW : n ≤ W.length) (hM : n ≤ M.length) (a : Nat → Int) (ha : ∀ j, 0 ≤ a j ∧ a j ≤ 1125899906842624) : ∀ (k i : Nat) (out : List Int) (left : Int), i + k = n → out.length = n → 0 ≤ left → left ≤ 1125899906842624 →
    (∀ j, i ≤ j → out.getD j 0 = a j) →
    ideal_Split_l3 W M (n : Int) (k + 1) out left (i : Int) = some (out.take i ++ tk2 (c2 W M) a k i left)
  | 0, i, out, left, h, ho, _, _, _ => by
    unfold ideal_Split_l3
    rw [if_neg (by simp; omega)]
    simp [tk2, List.take_of_length_le (show out.length ≤ i by omega)]
  | k + 1, i, out, left, h, ho, h1, h2, hout => by
    have a1 : 0 ≤ mo (c2 W M) a i left := mo_nn h1
    have a2 : mo (c2 W M) a i left ≤ left := mo_le
    have hai := ha i
    have hc1 := c2_nn W M i
    have hc2 := c2_le W M i
    unfold ideal_Split_l3
    rw [if_pos (by simp; omega), idx_ok (by omega), Option.bind_some, good_eq, Option.bind_some, idx_ok (by omega), Option.bind_some, good_eq, Option.bind_some,
      lesser_eq _ _ (by simp), Option.bind_some, idx_ok (by omega), Option.bind_some, lesser_eq _ _ (by simp), Option.bind_some, Option.bind_some, upd_ok (by omega), Option.bind_some]
    have e0 : List.foldl imin (g (W.getD i 0)) [g (M.getD i 0)] = c2 W M i := rfl
    rw [show w64 ((i : Int) + 1) = ((i + 1 : Nat) : Int) by rw [w64_id] <;> omega, hout i (Nat.le_refl i), e0, w64_id (n := c2 W M i - a i) (by omega) (by omega)]
    have e : List.foldl imin (imax (c2 W M i - a i) 0) [left] = mo (c2 W M) a i left := rfl
    rw [e, w64_id (by omega) (by omega), w64_id (by omega) (by omega), second_ideal W M n hn hW hM a ha k (i + 1) _ _ (by omega) (by simp [ho]) (by omega) (by omega)]
    · rw [take_set1 (by omega)]
      simp [tk2]
    · intro j hj
      rw [← hout j (by omega)]
      simp [List.getD, show ¬ i = j by omega]

theorem second_ref (L W M : List Int) (n : Nat) (hn : n ≤ 1000) (hW : n ≤ W.length) (hM : n ≤ M.length) (hmin : imin (imin (L.length : Int) (W.length : Int)) (M.length : Int) = (n : Int)) (a : Nat → Int) (ha : ∀ j, 0 ≤ a j ∧ a j ≤ 1125899906842624) : ∀ (k i : Nat) (out : List Int) (left : Int), i + k = n → out.length = n → 0 ≤ left → left ≤ 1125899906842624 →
    (∀ j, i ≤ j → out.getD j 0 = a j) →
    dispatchref16_Split_l3 L W M (k + 1) left out (i : Int) = some (out.take i ++ tk2 (c2 W M) a k i left)
  | 0, i, out, left, h, ho, _, _, _ => by
    unfold dispatchref16_Split_l3
    rw [hmin, if_neg (by simp; omega)]
    simp [tk2, List.take_of_length_le (show out.length ≤ i by omega)]
  | k + 1, i, out, left, h, ho, h1, h2, hout => by
    have a1 : 0 ≤ mo (c2 W M) a i left := mo_nn h1
    have a2 : mo (c2 W M) a i left ≤ left := mo_le
    have hai := ha i
    have hc1 := c2_nn W M i
    have hc2 := c2_le W M i
    unfold dispatchref16_Split_l3
    rw [hmin, if_pos (by simp; omega), idx_ok (by omega), Option.bind_some, rgood_eq, Option.bind_some, idx_ok (by omega), Option.bind_some, rgood_eq, Option.bind_some,
      idx_ok (by omega), Option.bind_some, Option.bind_some]
    have e0 : imin (g (W.getD i 0)) (g (M.getD i 0)) = c2 W M i := rfl
    rw [show w64 ((i : Int) + 1) = ((i + 1 : Nat) : Int) by rw [w64_id] <;> omega, hout i (Nat.le_refl i), e0, w64_id (n := c2 W M i - a i) (by omega) (by omega)]
    have e : imin (imax (c2 W M i - a i) 0) left = mo (c2 W M) a i left := rfl
    rw [e, w64_id (by omega) (by omega), w64_id (by omega) (by omega), upd_ok (by omega), Option.bind_some, second_ref L W M n hn hW hM hmin a ha k (i + 1) _ _ (by omega) (by simp [ho]) (by omega) (by omega)]
    · rw [take_set1 (by omega)]
      simp [tk2]
    · intro j hj
      rw [← hout j (by omega)]
      simp [List.getD, show ¬ i = j by omega]

/-- the split -/
def sn (L W M : List Int) : Nat := min (min L.length W.length) M.length
def sp1 (t : Int) (L W M : List Int) : List Int × Int := tk (c3 L W M) (sn L W M) 0 (g t)
def spl (t : Int) (L W M : List Int) : List Int := tk2 (c2 W M) (fun j => (sp1 t L W M).1.getD j 0) (sn L W M) 0 (sp1 t L W M).2
theorem spl_len (t : Int) (L W M : List Int) : (spl t L W M).length = sn L W M := tk2_len _ _ _ _ _

theorem sn_eq (L W M : List Int) : imin (imin (L.length : Int) (W.length : Int)) (M.length : Int) = (sn L W M : Int) := by
  unfold imin sn
  split <;> split <;> omega

theorem ideal_eq (t : Int) (L W M : List Int) (h : sn L W M ≤ 1000) : ideal_Split t L W M = some (spl t L W M) := by
  have g1 := g_nn t
  have g2 := g_le t
  have hn : (sn L W M : Int) = imin (imin (L.length : Int) (W.length : Int)) (M.length : Int) := (sn_eq L W M).symm
  obtain ⟨b1, b2, b3⟩ := tk_get (c3 L W M) (fun i => c3_nn _ _ _ i) (sn L W M) 0 (g t) g1
  have l1 : sn L W M ≤ L.length := by unfold sn; omega
  have l2 : sn L W M ≤ W.length := by unfold sn; omega
  have l3 : sn L W M ≤ M.length := by unfold sn; omega
  unfold ideal_Split
  rw [lesser_eq _ _ (by simp), Option.bind_some, show List.foldl imin (L.length : Int) [(W.length : Int), (M.length : Int)] = (sn L W M : Int) from sn_eq L W M, mkl_ok (by omega), Option.bind_some, good_eq, Option.bind_some,
    show ((sn L W M : Int) - 0).toNat = sn L W M by omega, show (0 : Int) = ((0 : Nat) : Int) from rfl, first_ideal L W M _ h l1 l2 l3 _ 0 _ _ (by omega) (by simp) g1 g2, Option.bind_some]
  simp only [List.take_zero, List.nil_append]
  rw [second_ideal W M _ h l2 l3 (fun j => (sp1 t L W M).1.getD j 0) (fun j => ⟨(b3 j).1, Int.le_trans (b3 j).2 g2⟩) _ 0 _ _ (by omega) (tk_len _ _ _ _) b1 (Int.le_trans b2 g2) (fun j _ => rfl), Option.bind_some]
  simp [spl, sp1]

theorem ref_eq (t : Int) (L W M : List Int) (h : sn L W M ≤ 1000) : dispatchref16_Split t L W M = some (spl t L W M) := by
  have g1 := g_nn t
  have g2 := g_le t
  obtain ⟨b1, b2, b3⟩ := tk_get (c3 L W M) (fun i => c3_nn _ _ _ i) (sn L W M) 0 (g t) g1
  have l1 : sn L W M ≤ L.length := by unfold sn; omega
  have l2 : sn L W M ≤ W.length := by unfold sn; omega
  have l3 : sn L W M ≤ M.length := by unfold sn; omega
  unfold dispatchref16_Split
  rw [rgood_eq, Option.bind_some, sn_eq, show ((sn L W M : Int) - 0).toNat = sn L W M by omega, show (0 : Int) = ((0 : Nat) : Int) from rfl, first_ref L W M _ h l1 l2 l3 (sn_eq L W M) _ 0 _ _ (by omega) rfl g1 g2, Option.bind_some]
  simp only [List.nil_append]
  rw [second_ref L W M _ h l2 l3 (sn_eq L W M) (fun j => (sp1 t L W M).1.getD j 0) (fun j => ⟨(b3 j).1, Int.le_trans (b3 j).2 g2⟩) _ 0 _ _ (by omega) (tk_len _ _ _ _) b1 (Int.le_trans b2 g2) (fun j _ => rfl), Option.bind_some]
  simp [spl, sp1]

theorem known_eq : dispatchlaw16_known = some true := by
  unfold dispatchlaw16_known
  rw [ideal_eq _ _ _ _ (by decide)]
  decide

theorem same_l5 (l : List Int) (hl : l.length ≤ 1000) : ∀ (k i : Nat), i + k = l.length → dispatchlaw16_IdealSplits_l5 l l (k + 1) (i : Int) = some (Lp.nx ())
  | 0, i, h => by
    unfold dispatchlaw16_IdealSplits_l5
    rw [if_neg (by simp; omega)]
  | k + 1, i, h => by
    unfold dispatchlaw16_IdealSplits_l5
    rw [if_pos (by simp; omega), idx_ok (by omega), Option.bind_some, Option.bind_some, if_neg (by simp), show w64 ((i : Int) + 1) = ((i + 1 : Nat) : Int) by rw [w64_id] <;> omega, same_l5 l hl k (i + 1) (by omega)]

theorem splits_end (t : Int) (L W M : List Int) (hL : L.length ≤ 20) :
    ((ideal_Split t L W M).bind fun r5 =>
      (dispatchref16_Split t L W M).bind fun r6 =>
      if ((r5.length : Int) != (r6.length : Int)) = true then
        some false
      else
        (dispatchlaw16_IdealSplits_l5 r5 r6 (((r5.length : Int) - 0).toNat + 1) 0).bind fun j6 =>
        (match j6 with
         | Lp.nx _ => (
           some true)
         | Lp.xt r => some r)) = some true := by
  have hs : sn L W M ≤ 1000 := by unfold sn; omega
  rw [ideal_eq _ _ _ _ hs, Option.bind_some, ref_eq _ _ _ _ hs, Option.bind_some, if_neg (by simp)]
  have h5 := same_l5 (spl t L W M) (by rw [spl_len]; exact hs) (spl t L W M).length 0 (by omega)
  rw [show (((spl t L W M).length : Int) - 0).toNat = (spl t L W M).length by omega, show (0 : Int) = ((0 : Nat) : Int) from rfl, h5]
  rfl

theorem IdealSplits_true (t : Int) (L W M : List Int) (small : Bool) : dispatchlaw16_IdealSplits t L W M small = some true := by
  unfold dispatchlaw16_IdealSplits
  rw [known_eq, Option.bind_some, if_neg (by simp)]
  by_cases h1 : L.length ≤ 20
  · by_cases h2 : W.length ≤ 20
    · by_cases h3 : M.length ≤ 20
      · rw [if_neg (by simp; omega), if_neg (by simp; omega), Option.bind_some, if_neg (by simp; omega)]
        cases small with
        | true =>
          rw [if_pos rfl, within_eq _ _ (by omega) (by omega), Option.bind_some, few_eq _ (by omega), Option.bind_some, few_eq _ (by omega), Option.bind_some, few_eq _ (by omega), Option.bind_some, Option.bind_some]
          exact splits_end _ _ _ _ (by simp; omega)
        | false =>
          rw [if_neg (by simp), Option.bind_some]
          exact splits_end _ _ _ _ h1
      · rw [if_neg (by simp; omega), if_neg (by simp; omega), Option.bind_some, if_pos (by simp; omega)]
    · rw [if_neg (by simp; omega), if_pos (by simp; omega), Option.bind_some, if_pos rfl]
  · rw [if_pos (by simp; omega), Option.bind_some, if_pos rfl]

end Go.Fw.D

/-
  Laws over plain data: true at all inputs. Conditions: none.
-/
import Derived.Test.YtofblnjjdldflaaU
namespace Go.Fx.D
open Go Go.Fx
set_option linter.unusedVariables false
set_option linter.unusedSimpArgs false
set_option maxRecDepth 100000

def P (i : Nat) : List UInt8 := match i with
  | 0 => [114, 111, 111, 116, 46, 97]
  | 1 => [114, 111, 111, 116, 46, 98]
  | 2 => [114, 111, 111, 116, 46, 99]
  | _ => [114, 111, 111, 116, 46, 100]
theorem P_less {i j : Nat} (hi : i < 4) (hj : j < 4) : Op.bytesLess (P i) (P j) = decide (i < j) := by
  have : ∀ i, i < 4 → ∀ j, j < 4 → Op.bytesLess (P i) (P j) = decide (i < j) := by decide
  exact this i hi j hj
theorem P_inj {i j : Nat} (hi : i < 4) (hj : j < 4) (h : P i = P j) : i = j := by
  have : ∀ i, i < 4 → ∀ j, j < 4 → P i = P j → i = j := by decide
  exact this i hi j hj h

/-! ## loads in order -/
def ld (i : Nat) (u h : Int) : Load := ⟨P i, ⟨u, u⟩, ⟨h, h⟩⟩
def PmK (x : Load) : Prop := ∃ (i : Nat) (u h : Int), i < 4 ∧ 0 ≤ u ∧ u ≤ 1000 ∧ 0 ≤ h ∧ h ≤ 1000 ∧ x = ld i u h
theorem PmK_L {x : Load} (h : PmK x) : PmL x := by
  obtain ⟨i, u, k, h1, h2, h3, h4, h5, rfl⟩ := h
  exact ⟨h2, h3, rfl, h4, h5, rfl⟩
theorem ltR_irr {u h : Int} : ¬ LtR u h u h := by
  unfold LtR
  rintro ⟨h1, h2⟩
  rcases h2 with h2 | h2
  · exact h1 h2
  · omega
theorem eqR_refl {u h : Int} : EqR u h u h := by
  unfold EqR
  by_cases z : oF u h = 0
  · exact .inl ⟨z, z⟩
  · exact .inr ⟨z, z, rfl⟩
theorem ltR_asym {u h u' h' : Int} (k : LtR u h u' h') : ¬ LtR u' h' u h ∧ ¬ EqR u h u' h' ∧ ¬ EqR u' h' u h := by
  unfold LtR EqR at *
  obtain ⟨h1, h2⟩ := k
  refine ⟨?_, ?_, ?_⟩
  · rintro ⟨k1, k2⟩
    rcases h2 with h2 | h2
    · exact k1 h2
    · rcases k2 with k2 | k2
      · exact h1 k2
      · omega
  · rintro (k | k)
    · exact h1 k.1
    · rcases h2 with h2 | h2
      · exact k.2.1 h2
      · omega
  · rintro (k | k)
    · exact h1 k.2
    · rcases h2 with h2 | h2
      · exact k.1 h2
      · omega
theorem eqR_symm {u h u' h' : Int} (k : EqR u h u' h') : EqR u' h' u h := by
  unfold EqR at *
  rcases k with k | k
  · exact .inl ⟨k.2, k.1⟩
  · exact .inr ⟨k.2.1, k.1, k.2.2.symm⟩
theorem R_total (u h u' h' : Int) : LtR u h u' h' ∨ EqR u h u' h' ∨ LtR u' h' u h := by
  unfold LtR EqR
  by_cases z : oF u h = 0
  · by_cases z' : oF u' h' = 0
    · exact .inr (.inl (.inl ⟨z, z'⟩))
    · exact .inr (.inr ⟨z', .inl z⟩)
  · by_cases z' : oF u' h' = 0
    · exact .inl ⟨z, .inl z'⟩
    · rcases Int.lt_trichotomy (u * oF u' h') (u' * oF u h) with k | k | k
      · exact .inl ⟨z, .inr k⟩
      · exact .inr (.inl (.inr ⟨z, z', k⟩))
      · exact .inr (.inr ⟨z', .inr k⟩)
theorem ltL_irr (x : Load) (hx : PmK x) : ¬ LtL x x := by
  obtain ⟨i, u, h, h1, h2, h3, h4, h5, rfl⟩ := hx
  rintro (k | k)
  · exact ltR_irr k
  · have := k.2
    rw [show (ld i u h).path = P i from rfl, P_less h1 h1] at this
    simp at this
theorem ltL_trans (x y z : Load) (hx : PmK x) (hy : PmK y) (hz : PmK z) (k1 : LtL x y) (k2 : LtL y z) : LtL x z := by
  obtain ⟨i, u, h, h1, h2, h3, h4, h5, rfl⟩ := hx
  obtain ⟨i', u', h', h1', h2', h3', h4', h5', rfl⟩ := hy
  obtain ⟨i'', u'', h'', h1'', h2'', h3'', h4'', h5'', rfl⟩ := hz
  unfold LtL at *
  simp only [ld] at *
  rw [P_less h1 h1'] at k1
  rw [P_less h1' h1''] at k2
  rw [P_less h1 h1'']
  obtain ⟨t1, t2⟩ := ltR_trans h4 h4' h4'' (k1.imp id (·.1)) (k2.imp id (·.1))
  rcases k1 with k1 | k1
  · exact .inl (t2 (.inl k1))
  · rcases k2 with k2 | k2
    · exact .inl (t2 (.inr k2))
    · rcases t1 with t1 | t1
      · exact .inl t1
      · refine .inr ⟨t1, ?_⟩
        have a := of_decide_eq_true k1.2
        have b := of_decide_eq_true k2.2
        exact decide_eq_true (by omega)
theorem ltL_tot {i j : Nat} {u h u' h' : Int} (hi : i < 4) (hj : j < 4) (hne : i ≠ j) : (LtL (ld i u h) (ld j u' h') ∧ ¬ LtL (ld j u' h') (ld i u h)) ∨ (LtL (ld j u' h') (ld i u h) ∧ ¬ LtL (ld i u h) (ld j u' h')) := by
  unfold LtL
  simp only [ld]
  rw [P_less hi hj, P_less hj hi]
  rcases R_total u h u' h' with k | k | k
  · obtain ⟨a1, a2, a3⟩ := ltR_asym k
    exact .inl ⟨.inl k, (fun q => q.elim a1 (fun q => a3 q.1))⟩
  · have n1 : ¬ LtR u h u' h' := fun q => (ltR_asym q).2.1 k
    have n2 : ¬ LtR u' h' u h := fun q => (ltR_asym q).2.2 k
    rcases Nat.lt_or_gt_of_ne hne with q | q
    · exact .inl ⟨.inr ⟨k, decide_eq_true q⟩, (fun z => z.elim n2 (fun z => by have := of_decide_eq_true z.2; omega))⟩
    · exact .inr ⟨.inr ⟨eqR_symm k, decide_eq_true q⟩, (fun z => z.elim n1 (fun z => by have := of_decide_eq_true z.2; omega))⟩
  · obtain ⟨a1, a2, a3⟩ := ltR_asym k
    exact .inr ⟨.inl k, (fun q => q.elim a1 (fun q => a3 q.1))⟩

theorem sortL_ok (n : Nat) (hn : n ≤ 4) (U H : Nat → Int) (hU : ∀ i, i < n → 0 ≤ U i ∧ U i ≤ 1000) (hH : ∀ i, i < n → 0 ≤ H i ∧ H i ≤ 1000) :
    ∃ r, order_load_ ((List.range n).map fun i => ld i (U i) (H i)) (fun a' => order_load_compare a'.1 a'.2.1) = some r ∧ r.Perm ((List.range n).map fun i => ld i (U i) (H i)) ∧ r.Pairwise LtL := by
  refine sortA_of (φ := phi2 (fun a' : TupT fam [.st 12, .st 12] => order_load_compare a'.1 a'.2.1)) (lt := LtL) (Pm := PmK) (fun x y hx hy => cmp_load x y (PmK_L hx) (PmK_L hy)) ltL_irr ltL_trans ?_ ?_ ?_
  · intro x hx
    obtain ⟨i, hi, rfl⟩ := List.mem_map.1 hx
    have hi := List.mem_range.1 hi
    exact ⟨i, U i, H i, by omega, (hU i hi).1, (hU i hi).2, (hH i hi).1, (hH i hi).2, rfl⟩
  · simp; omega
  · rw [List.pairwise_map]
    refine List.Pairwise.imp_of_mem ?_ List.pairwise_lt_range
    intro i j hi hj hij
    have hi := List.mem_range.1 hi
    have hj := List.mem_range.1 hj
    exact ltL_tot (by omega) (by omega) (by omega)

theorem kids_out (r : List Load) (hn : r.length ≤ 1000) : loop (order_Kids_l2 r) (List.replicate r.length [], 0) = some (r.map (·.path)) := by
  obtain ⟨v, e1, e2⟩ := loop_inv (fun (v : List (List UInt8)) k => (v, k)) (order_Kids_l2 r) r.length (fun k v => v = (r.take k).map (·.path) ++ List.replicate (r.length - k) []) id
    (by
      intro k hk v hv
      have d1 : decide ((k : Int) < (r.length : Int)) = true := by rw [decide_eq_true_iff]; omega
      have hvl : v.length = r.length := by rw [hv]; simp; omega
      refine ⟨_, ?_, rfl⟩
      have hin : inb (k : Int) r.length = some k := by unfold inb; rw [Int.toNat_natCast, if_pos ⟨by omega, hk⟩]
      have his : inS (k : Int) (v.length : Int) v.length = some (k, v.length - k) := by
        unfold inS
        rw [if_pos ⟨by omega, by omega, by omega⟩]
        simp
      have g1 : r[k]? = some r[k] := List.getElem?_eq_getElem hk
      have hc : cpy v k (v.length - k) [r[k].path] = (r.take (k + 1)).map (·.path) ++ List.replicate (r.length - (k + 1)) [] := by
        unfold cpy
        have hm : min (v.length - k) ([r[k].path] : List (List UInt8)).length = 1 := by show min (v.length - k) 1 = 1; omega
        rw [hm, List.take_of_length_le (l := [r[k].path]) (by show 1 ≤ v.length - k; omega), List.take_succ_eq_append_getElem hk, List.map_append]
        have t1 : v.take k = (r.take k).map (·.path) := by
          rw [hv, List.take_append_of_le_length (by simp; omega), List.take_of_length_le (by simp; omega)]
        have t2 : v.drop (k + 1) = List.replicate (r.length - (k + 1)) [] := by
          rw [hv, List.drop_append, List.drop_eq_nil_of_le (by simp; omega)]
          simp
          omega
        rw [t1, t2]
        rfl
      unfold order_Kids_l2
      simp only [d1, cond_true, hin, Option.bind_some, g1, his, hc]
      rw [step_succ (by omega)])
    (by
      intro v hv
      have : decide ((r.length : Int) < (r.length : Int)) = false := by rw [decide_eq_false_iff_not]; omega
      unfold order_Kids_l2
      simp only [this, cond_false, id]) (s := List.replicate r.length ([] : List UInt8)) (by simp)
  rw [e1, e2]; simp
end Go.Fx.D

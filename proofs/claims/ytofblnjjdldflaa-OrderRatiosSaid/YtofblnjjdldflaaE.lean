/-
  Laws over plain data: true at all inputs. Conditions: none.
-/
import Derived.Test.YtofblnjjdldflaaB
namespace Go.Fx.D
open Go Go.Fx
set_option linter.unusedVariables false
set_option linter.unusedSimpArgs false
set_option maxRecDepth 100000

section
variable {n : Nat} {U G : Nat → Int} {A : List App} {C : List Cont}

theorem masters_ok (h : Ac n U A C) {i : Nat} (hi : i < n) : dispatchref19_masters (sT n G A C) (i : Int) = some ((if U i = 0 then 0 else 1), U i) := by
  have hlc := h.lc
  obtain ⟨v, e1, e2⟩ := loop_inv (fun (v : Int × Int) k => (v.1, v.2, k)) (dispatchref19_masters_l1 (sT n G A C) (i : Int)) C.length
    (fun k v => v = ((((C.take k).filter fun c => c.App == (i : Int) && c.Master).length : Int), (((C.take k).filter fun c => c.App == (i : Int)).length : Int))) (fun v => v)
    (by
      intro k hk v hv
      refine ⟨_, ?_, rfl⟩
      have d1 : decide ((k : Int) < ((sT n G A C).Conts.length : Int)) = true := by rw [decide_eq_true_iff]; show (k : Int) < (C.length : Int); omega
      have i1 : idx (sT n G A C).Conts (k : Int) = some C[k] := idx_lt hk
      have b1 : (((C.take k).filter fun c => c.App == (i : Int) && c.Master).length : Int) ≤ 80 := by
        have h1 := List.length_filter_le (fun c : Cont => c.App == (i : Int) && c.Master) (C.take k)
        rw [List.length_take] at h1
        omega
      have b2 : (((C.take k).filter fun c => c.App == (i : Int)).length : Int) ≤ 80 := by
        have h1 := List.length_filter_le (fun c : Cont => c.App == (i : Int)) (C.take k)
        rw [List.length_take] at h1
        omega
      rw [filter_take _ _ _ hk, filter_take _ _ _ hk]
      generalize hf1 : ((C.take k).filter fun c => c.App == (i : Int) && c.Master) = f1 at *
      generalize hf2 : ((C.take k).filter fun c => c.App == (i : Int)) = f2 at *
      subst hv
      have w1 : w64 ((k : Int) + 1) = ((k + 1 : Nat) : Int) := step_succ (by omega)
      have w2 : w64 ((f1.length : Int) + 1) = ((f1.length + 1 : Nat) : Int) := step_succ (by omega)
      have w3 : w64 ((f2.length : Int) + 1) = ((f2.length + 1 : Nat) : Int) := step_succ (by omega)
      unfold dispatchref19_masters_l1
      simp only [d1, cond_true, i1, Option.bind_some, w1]
      cases ha : (C[k].App == (i : Int)) with
      | false => simp
      | true =>
        cases hm : C[k].Master with
        | true =>
          simp only [cond_true, Option.bind_some, w2, w3]
          simp
        | false =>
          simp only [cond_true, cond_false, Option.bind_some, w3]
          simp)
    (by
      intro v hv
      have d1 : decide ((C.length : Int) < ((sT n G A C).Conts.length : Int)) = false := by rw [decide_eq_false_iff_not]; show ¬ (C.length : Int) < (C.length : Int); omega
      unfold dispatchref19_masters_l1
      simp only [d1, cond_false]) (s := ((0 : Int), (0 : Int))) (by simp)
  unfold dispatchref19_masters
  rw [e1, e2, List.take_length, h.cnt i hi, h.mas i hi]
  rfl

theorem fit_ok (h : Ac n U A C) : dispatchref19_fit (sT n G A C) = some true := by
  have hlc := h.lc
  have s0 : dispatchref19_fit_l1 (sT n G A C) 0 = some (.inl 1) := by
    have i0 : idx (sT n G A C).Nodes 0 = some nod := rfl
    have hu : dispatchref8_Used (sT n G A C) nod.Id = some ⟨C.length, C.length⟩ := nused_ok h
    unfold dispatchref19_fit_l1
    rw [show decide ((0 : Int) < ((sT n G A C).Nodes.length : Int)) = true from rfl]
    simp only [cond_true, i0, Option.bind_some, hu]
    have c1 : decide ((C.length : Int) > nod.Cap.Mem) = false := by rw [decide_eq_false_iff_not]; show ¬ (C.length : Int) > 100; omega
    have c2 : decide ((C.length : Int) > nod.Cap.Cores) = false := by rw [decide_eq_false_iff_not]; show ¬ (C.length : Int) > 100; omega
    simp only [c1, c2, cond_false, Option.bind_some]
    rfl
  have s1 : dispatchref19_fit_l1 (sT n G A C) 1 = some (.inr (.inr ())) := rfl
  unfold dispatchref19_fit
  rw [loop_next s0, loop_out s1]
  rfl

theorem node_ok : dispatchref8_Find (sT n G A C) 1 = some (nod, true) := (le_dispatchref8_Find (sT n G A C) 1).ok _ (by kernel_rfl)

theorem leaf_P (h2 : 2 ≤ n) (h4 : n ≤ 4) {i : Nat} (hi : i < n) : dispatchref6_Leaf ⟨[[]], QL n G⟩ (P i) = some true := by
  have key : c_dispatchref6_Leaf ⟨[[]], QL n G⟩ (P i) = some true := by
    match n, h2, h4, i, hi with
    | 2, _, _, 0, _ => exact (by kernel_rfl : c_dispatchref6_Leaf ⟨[[]], QL 2 G⟩ (P 0) = some true)
    | 2, _, _, 1, _ => exact (by kernel_rfl : c_dispatchref6_Leaf ⟨[[]], QL 2 G⟩ (P 1) = some true)
    | 3, _, _, 0, _ => exact (by kernel_rfl : c_dispatchref6_Leaf ⟨[[]], QL 3 G⟩ (P 0) = some true)
    | 3, _, _, 1, _ => exact (by kernel_rfl : c_dispatchref6_Leaf ⟨[[]], QL 3 G⟩ (P 1) = some true)
    | 3, _, _, 2, _ => exact (by kernel_rfl : c_dispatchref6_Leaf ⟨[[]], QL 3 G⟩ (P 2) = some true)
    | 4, _, _, 0, _ => exact (by kernel_rfl : c_dispatchref6_Leaf ⟨[[]], QL 4 G⟩ (P 0) = some true)
    | 4, _, _, 1, _ => exact (by kernel_rfl : c_dispatchref6_Leaf ⟨[[]], QL 4 G⟩ (P 1) = some true)
    | 4, _, _, 2, _ => exact (by kernel_rfl : c_dispatchref6_Leaf ⟨[[]], QL 4 G⟩ (P 2) = some true)
    | 4, _, _, 3, _ => exact (by kernel_rfl : c_dispatchref6_Leaf ⟨[[]], QL 4 G⟩ (P 3) = some true)
    | n + 5, _, h, _, _ => omega
    | 2, _, _, i + 2, h => omega
    | 3, _, _, i + 3, h => omega
    | 4, _, _, i + 4, h => omega
  exact (le_dispatchref6_Leaf _ _).ok _ key

theorem cnt_loop {ρ : Type} (step : Int → Option (Int ⊕ ρ)) (n : Nat) (fin : ρ) (h1 : ∀ k : Nat, k < n → step k = some (.inl ((k + 1 : Nat) : Int))) (h2 : step (n : Int) = some (.inr fin)) : loop step 0 = some fin := loop_cnt step n fin h1 h2

theorem sound_ok (h2 : 2 ≤ n) (h4 : n ≤ 4) (h : Ac n U A C) (hc : dispatchref6_Check ⟨[[]], QL n G⟩ = some 0) : dispatchref19_Sound (sT n G A C) = some true := by
  have hla := h.la
  have hlc := h.lc
  have hc' : dispatchref6_Check (sT n G A C).Conf = some 0 := hc
  have e1 : loop (dispatchref19_Sound_l1 (sT n G A C)) 0 = some (.inr ()) := by
    refine cnt_loop _ C.length _ (fun k hk => ?_) ?_
    · obtain ⟨j, id_, m, hj, hu, hcc⟩ := h.conts _ (List.getElem_mem hk)
      have d1 : decide ((k : Int) < ((sT n G A C).Conts.length : Int)) = true := by rw [decide_eq_true_iff]; show (k : Int) < (C.length : Int); omega
      have i1 : idx (sT n G A C).Conts (k : Int) = some (mkC id_ j m) := by rw [← hcc]; exact idx_lt hk
      have f1 : dispatchref10_Find (sT n G A C) (mkC id_ j m).App = some (mkB j, true) := ac_find h hj hu
      have f2 : dispatchref8_Find (sT n G A C) (mkC id_ j m).Node = some (nod, true) := node_ok
      have f3 : dispatchref10_Live (mkB j) = some true := rfl
      unfold dispatchref19_Sound_l1
      simp only [d1, cond_true, i1, Option.bind_some, f1, f2, f3, Bool.not_true, cond_false]
      rw [step_succ (by omega)]
      rfl
    · have d1 : decide ((C.length : Int) < ((sT n G A C).Conts.length : Int)) = false := by rw [decide_eq_false_iff_not]; show ¬ (C.length : Int) < (C.length : Int); omega
      unfold dispatchref19_Sound_l1
      simp only [d1, cond_false]
  have e2 : loop (dispatchref19_Sound_l2 (sT n G A C)) 0 = some (.inr ()) := by
    refine cnt_loop _ A.length _ (fun k hk => ?_) ?_
    · obtain ⟨j, hj, hu, hcc⟩ := h.apps _ (List.getElem_mem hk)
      have d1 : decide ((k : Int) < ((sT n G A C).Apps.length : Int)) = true := by rw [decide_eq_true_iff]; show (k : Int) < (A.length : Int); omega
      have i1 : idx (sT n G A C).Apps (k : Int) = some (mkB j) := by rw [← hcc]; exact idx_lt hk
      have f1 : dispatchref19_masters (sT n G A C) (mkB j).Id = some (1, U j) := by
        have := masters_ok (G := G) h hj
        rw [if_neg hu] at this
        exact this
      have f3 : dispatchref10_Live (mkB j) = some true := rfl
      have f4 : dispatchref6_Leaf (sT n G A C).Conf (mkB j).Queue = some true := leaf_P h2 h4 hj
      have f5 : ((mkB j).State == 2) = true := rfl
      have f6 : ((mkB j).State == 1) = false := rfl
      have f7 : ((1 : Int) != 1) = false := rfl
      unfold dispatchref19_Sound_l2
      simp only [d1, cond_true, i1, Option.bind_some, f1, f5, f6, f7, cond_false, f3, f4, Bool.not_true]
      rw [step_succ (by omega)]
    · have d1 : decide ((A.length : Int) < ((sT n G A C).Apps.length : Int)) = false := by rw [decide_eq_false_iff_not]; show ¬ (A.length : Int) < (A.length : Int); omega
      unfold dispatchref19_Sound_l2
      simp only [d1, cond_false]
  have e3 : loop (dispatchref19_Sound_l3 (sT n G A C)) 0 = some (.inr ()) := loop_out rfl
  unfold dispatchref19_Sound
  rw [hc', vecs_ok h, orders_ok h, fit_ok h]
  simp only [Option.bind_some, bne_self_eq_false, cond_false, Bool.not_true]
  rw [e1]
  simp only [Option.bind_some]
  rw [e2]
  simp only [Option.bind_some]
  rw [e3]
  rfl
end
end Go.Fx.D

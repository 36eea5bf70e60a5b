/-
  Laws over plain data: true at all inputs. Conditions: none.
-/
import Derived.Test.YtofblnjjdldflaaZ
namespace Go.Fx.D
open Go Go.Fx
set_option linter.unusedVariables false
set_option linter.unusedSimpArgs false
set_option maxRecDepth 100000

section
variable {n : Nat} {U G : Nat → Int} {A : List App} {C : List Cont}

/-- rounds that keep a flag -/
theorem flag_loop {step : Bool × Int → Option ((Bool × Int) ⊕ Bool)} (n : Nat) (h1 : ∀ k : Nat, k < n → step (true, (k : Int)) = some (.inl (true, ((k + 1 : Nat) : Int)))) (h2 : step (true, (n : Int)) = some (.inr true)) : loop step (true, 0) = some true := by
  obtain ⟨v, e1, e2⟩ := loop_inv (fun (v : Bool) k => (v, k)) step n (fun _ v => v = true) id
    (fun k hk v hv => ⟨true, by rw [hv]; exact h1 k hk, rfl⟩) (fun v hv => by rw [hv]; exact h2) (s := true) rfl
  rw [e1, e2]; rfl
/-- from the second round on -/
theorem flag_loop1 {step : Bool × Int → Option ((Bool × Int) ⊕ Bool)} (n : Nat) (h1 : ∀ k : Nat, 1 ≤ k → k < n → step (true, (k : Int)) = some (.inl (true, ((k + 1 : Nat) : Int)))) (h2 : ∀ k : Nat, n ≤ k → step (true, (k : Int)) = some (.inr true)) : loop step (true, 1) = some true := by
  have key : ∀ (m k : Nat), 1 ≤ k → m + k = n → loop step (true, (k : Int)) = some true := by
    intro m
    induction m with
    | zero => intro k _ hk; exact loop_out (h2 k (by omega))
    | succ m ih => intro k h hk; rw [loop_next (h1 k h (by omega))]; exact ih (k + 1) (by omega) (by omega)
  by_cases h : n ≤ 1
  · exact loop_out (h2 1 h)
  · exact key (n - 1) 1 (by omega) (by omega)

theorem vec1 : dispatchref19_vec ⟨1, 1⟩ = some true := by kernel_rfl
theorem vec100 : dispatchref19_vec ⟨100, 100⟩ = some true := by kernel_rfl

theorem vecs_ok (h : Ac n U A C) : dispatchref19_vecs (sT n G A C) = some true := by
  have hla := h.la
  have hlc := h.lc
  have e1 : loop (dispatchref19_vecs_l1 (sT n G A C)) (true, 0) = some true := (lo_iter (n := 4096) (fun t => le_dispatchref19_vecs_l1 (sT n G A C) t) (true, 0)).ok true (by kernel_rfl)
  have e2 : loop (dispatchref19_vecs_l2 (sT n G A C)) (true, 0) = some true := by
    refine flag_loop C.length (fun k hk => ?_) ?_
    · obtain ⟨j, id_, m, _, _, hc⟩ := h.conts _ (List.getElem_mem hk)
      have d1 : decide ((k : Int) < ((sT n G A C).Conts.length : Int)) = true := by rw [decide_eq_true_iff]; show (k : Int) < (C.length : Int); omega
      have i1 : idx (sT n G A C).Conts (k : Int) = some C[k] := idx_lt hk
      have hs : C[k].Size = ⟨1, 1⟩ := by rw [hc]; rfl
      unfold dispatchref19_vecs_l2
      simp only [d1, cond_true, i1, Option.bind_some, hs, vec1]
      rw [step_succ (by omega)]
    · have d1 : decide ((C.length : Int) < ((sT n G A C).Conts.length : Int)) = false := by rw [decide_eq_false_iff_not]; show ¬ (C.length : Int) < (C.length : Int); omega
      unfold dispatchref19_vecs_l2
      simp only [d1, cond_false]
  have e3 : loop (dispatchref19_vecs_l3 (sT n G A C)) (true, 0) = some true := (lo_iter (n := 4096) (fun t => le_dispatchref19_vecs_l3 (sT n G A C) t) (true, 0)).ok true (by kernel_rfl)
  have e4 : loop (dispatchref19_vecs_l4 (sT n G A C)) (true, 0) = some true := by
    refine flag_loop A.length (fun k hk => ?_) ?_
    · obtain ⟨j, _, _, hc⟩ := h.apps _ (List.getElem_mem hk)
      have d1 : decide ((k : Int) < ((sT n G A C).Apps.length : Int)) = true := by rw [decide_eq_true_iff]; show (k : Int) < (A.length : Int); omega
      have i1 : idx (sT n G A C).Apps (k : Int) = some A[k] := idx_lt hk
      have hs : A[k].Master = ⟨1, 1⟩ := by rw [hc]; rfl
      have ha : A[k].Asks = [] := by rw [hc]; rfl
      have e5 : loop (dispatchref19_vecs_l5 (sT n G A C) (true, (k : Int))) (true, 0) = some true := by
        refine loop_out ?_
        unfold dispatchref19_vecs_l5
        simp only [i1, Option.bind_some, ha]
        rfl
      unfold dispatchref19_vecs_l4
      simp only [d1, cond_true, i1, Option.bind_some, hs, vec1, e5]
      rw [step_succ (by omega)]
    · have d1 : decide ((A.length : Int) < ((sT n G A C).Apps.length : Int)) = false := by rw [decide_eq_false_iff_not]; show ¬ (A.length : Int) < (A.length : Int); omega
      unfold dispatchref19_vecs_l4
      simp only [d1, cond_false]
  unfold dispatchref19_vecs
  simp only [e1, e2, e3, e4, Option.bind_some]

theorem orders_ok (h : Ac n U A C) : dispatchref19_orders (sT n G A C) = some true := by
  have hla := h.la
  have hlc := h.lc
  have e1 : loop (dispatchref19_orders_l1 (sT n G A C)) (true, 1) = some true := loop_out rfl
  have e2 : loop (dispatchref19_orders_l2 (sT n G A C)) (true, 1) = some true := by
    refine flag_loop1 A.length (fun k h1 hk => ?_) (fun k hk => ?_)
    · have d1 : decide ((k : Int) < ((sT n G A C).Apps.length : Int)) = true := by rw [decide_eq_true_iff]; show (k : Int) < (A.length : Int); omega
      have i1 : idx (sT n G A C).Apps (k : Int) = some A[k] := idx_lt hk
      have wk : w64 ((k : Int) - 1) = ((k - 1 : Nat) : Int) := by rw [w64_id (by omega) (by omega)]; omega
      have i0 : idx (sT n G A C).Apps ((k - 1 : Nat) : Int) = some A[k - 1] := idx_lt (by show k - 1 < A.length; omega)
      have hlt : A[k - 1].Id < A[k].Id := List.pairwise_iff_getElem.1 h.asc (k - 1) k (by omega) hk (by omega)
      unfold dispatchref19_orders_l2
      simp only [d1, cond_true, wk, i1, i0, Option.bind_some, decide_eq_true hlt]
      rw [step_succ (by omega)]
    · have d1 : decide ((k : Int) < ((sT n G A C).Apps.length : Int)) = false := by rw [decide_eq_false_iff_not]; show ¬ (k : Int) < (A.length : Int); omega
      unfold dispatchref19_orders_l2
      simp only [d1, cond_false]
  have e3 : loop (dispatchref19_orders_l3 (sT n G A C)) (true, 1) = some true := by
    refine flag_loop1 C.length (fun k h1 hk => ?_) (fun k hk => ?_)
    · have d1 : decide ((k : Int) < ((sT n G A C).Conts.length : Int)) = true := by rw [decide_eq_true_iff]; show (k : Int) < (C.length : Int); omega
      have i1 : idx (sT n G A C).Conts (k : Int) = some C[k] := idx_lt hk
      have wk : w64 ((k : Int) - 1) = ((k - 1 : Nat) : Int) := by rw [w64_id (by omega) (by omega)]; omega
      have i0 : idx (sT n G A C).Conts ((k - 1 : Nat) : Int) = some C[k - 1] := idx_lt (by show k - 1 < C.length; omega)
      have hlt : C[k - 1].Id < C[k].Id := List.pairwise_iff_getElem.1 h.casc (k - 1) k (by omega) hk (by omega)
      unfold dispatchref19_orders_l3
      simp only [d1, cond_true, wk, i1, i0, Option.bind_some, decide_eq_true hlt]
      rw [step_succ (by omega)]
    · have d1 : decide ((k : Int) < ((sT n G A C).Conts.length : Int)) = false := by rw [decide_eq_false_iff_not]; show ¬ (k : Int) < (C.length : Int); omega
      unfold dispatchref19_orders_l3
      simp only [d1, cond_false]
  have e4 : loop (dispatchref19_orders_l4 (sT n G A C)) (true, 1) = some true := loop_out rfl
  have e5 : loop (dispatchref19_orders_l5 (sT n G A C)) (true, 1) = some true := loop_out rfl
  unfold dispatchref19_orders
  have q1 : decide (((sT n G A C).Nodes.length : Int) > 12) = false := rfl
  have q2 : decide (((sT n G A C).Apps.length : Int) > 16) = false := by rw [decide_eq_false_iff_not]; show ¬ (A.length : Int) > 16; omega
  have q3 : decide (((sT n G A C).Conts.length : Int) > 200) = false := by rw [decide_eq_false_iff_not]; show ¬ (C.length : Int) > 200; omega
  have q4 : decide (((sT n G A C).Plans.length : Int) > 12) = false := rfl
  simp only [q1, q2, q3, q4, cond_false, Option.bind_some, e1, e2, e3, e4, e5]

theorem plus_ok {a : Int} (h0 : 0 ≤ a) (h1 : a ≤ 1000) : dispatchref1_Plus ⟨a, a⟩ ⟨1, 1⟩ = some ⟨a + 1, a + 1⟩ := by
  unfold dispatchref1_Plus
  dsimp only
  rw [w64_id (x := a + 1) (by omega) (by omega)]

theorem nused_ok (h : Ac n U A C) : dispatchref8_Used (sT n G A C) 1 = some ⟨C.length, C.length⟩ := by
  have hlc := h.lc
  obtain ⟨v, e1, e2⟩ := loop_inv (fun (v : Vec) k => (v, k)) (dispatchref8_Used_l1 (sT n G A C) 1) C.length (fun k v => v = ⟨(k : Int), (k : Int)⟩) id
    (by
      intro k hk v hv
      obtain ⟨j, id_, m, _, _, hc⟩ := h.conts _ (List.getElem_mem hk)
      have d1 : decide ((k : Int) < ((sT n G A C).Conts.length : Int)) = true := by rw [decide_eq_true_iff]; show (k : Int) < (C.length : Int); omega
      have i1 : idx (sT n G A C).Conts (k : Int) = some C[k] := idx_lt hk
      have hs : C[k].Size = ⟨1, 1⟩ := by rw [hc]; rfl
      have hn : (C[k].Node == 1) = true := by rw [hc]; rfl
      refine ⟨⟨(k : Int) + 1, (k : Int) + 1⟩, ?_, by simp⟩
      unfold dispatchref8_Used_l1
      simp only [d1, cond_true, i1, Option.bind_some, hs, hn, hv, plus_ok (a := (k : Int)) (by omega) (by omega)]
      rw [step_succ (by omega)])
    (by
      intro v hv
      have d1 : decide ((C.length : Int) < ((sT n G A C).Conts.length : Int)) = false := by rw [decide_eq_false_iff_not]; show ¬ (C.length : Int) < (C.length : Int); omega
      unfold dispatchref8_Used_l1
      simp only [d1, cond_false, id]) (s := (⟨0, 0⟩ : Vec)) rfl
  unfold dispatchref8_Used
  rw [e1, e2]
  rfl
end
end Go.Fx.D

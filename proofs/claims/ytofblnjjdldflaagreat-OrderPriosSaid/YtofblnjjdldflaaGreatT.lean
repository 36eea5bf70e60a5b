/-
  Laws over plain data: true at all inputs. Conditions: none.
-/
import Derived.Test.YtofblnjjdldflaaGreatS
namespace Go.Fx.D
open Go Go.Fx
set_option linter.unusedVariables false
set_option linter.unusedSimpArgs false
set_option maxRecDepth 100000

/-- two rows in strict order with the same elements are one -/
theorem eq_of_mem {α : Type} {R : α → α → Prop} (irr : ∀ a, ¬ R a a) (asy : ∀ a b, R a b → ¬ R b a) : ∀ {l m : List α}, l.Pairwise R → m.Pairwise R → (∀ x, x ∈ l ↔ x ∈ m) → l = m
  | [], [], _, _, _ => rfl
  | [], b :: m, _, _, h => by have := (h b).2 (by simp); simp at this
  | a :: l, [], _, _, h => by have := (h a).1 (by simp); simp at this
  | a :: l, b :: m, h1, h2, h => by
    obtain ⟨a1, a2⟩ := List.pairwise_cons.1 h1
    obtain ⟨b1, b2⟩ := List.pairwise_cons.1 h2
    have hab : a = b := by
      rcases List.mem_cons.1 ((h a).1 (by simp)) with e | e
      · exact e
      · rcases List.mem_cons.1 ((h b).2 (by simp)) with e' | e'
        · exact e'.symm
        · exact absurd (a1 b e') (asy _ _ (b1 a e))
    subst hab
    have : l = m := by
      refine eq_of_mem irr asy a2 b2 fun x => ?_
      constructor
      · intro hx
        rcases List.mem_cons.1 ((h x).1 (List.mem_cons_of_mem _ hx)) with e | e
        · subst e; exact absurd (a1 x hx) (irr x)
        · exact e
      · intro hx
        rcases List.mem_cons.1 ((h x).2 (List.mem_cons_of_mem _ hx)) with e | e
        · subst e; exact absurd (b1 x hx) (irr x)
        · exact e
    rw [this]

/-! ## the program's order -/
theorem apps_ok (L : List App) (hn : L.length ≤ 12) (hL : ∀ x ∈ L, ∃ k p, x = mkA k p) (hd : L.Pairwise (fun a b => a.Id ≠ b.Id)) :
    ∃ r : List App, order_Apps (stA L) rootT = some (r.map (·.Id)) ∧ r.Perm L ∧ r.Pairwise LtA := by
  obtain ⟨r, r1, r2, r3⟩ := sortA_ok L hn hd
  refine ⟨r, ?_, r2, r3⟩
  have h1 : loop (order_Apps_l1 (stA L) rootT) ([], 0) = some L := by
    obtain ⟨v, e1, e2⟩ := loop_inv (fun (v : List App) k => (v, k)) (order_Apps_l1 (stA L) rootT) L.length (fun k v => v = L.take k) id
      (by
        intro k hk v hv
        subst hv
        have d1 : decide ((k : Int) < ((stA L).Apps.length : Int)) = true := by rw [decide_eq_true_iff]; show (k : Int) < (L.length : Int); omega
        have i1 : idx (stA L).Apps (k : Int) = some L[k] := idx_lt hk
        refine ⟨L.take (k + 1), ?_, rfl⟩
        obtain ⟨q, p, hq⟩ := hL _ (List.getElem_mem hk)
        have l1 : apps_Live L[k] = some true := by rw [hq]; rfl
        have l2 : (L[k].Queue == rootT) = true := by rw [hq]; simp [mkA]
        have a1 : app 200 (L.take k) [L[k]] = some (L.take (k + 1)) := by
          rw [app_ok (by simp; omega) (by omega), ← List.take_append_getElem hk]
        unfold order_Apps_l1
        simp only [d1, cond_true, i1, Option.bind_some, l1, l2, a1]
        rw [step_succ (by omega)])
      (by
        intro v hv
        have : decide ((L.length : Int) < ((stA L).Apps.length : Int)) = false := by rw [decide_eq_false_iff_not]; show ¬ (L.length : Int) < (L.length : Int); omega
        unfold order_Apps_l1
        simp only [this, cond_false, id]) (s := ([] : List App)) (by simp)
    rw [e1, e2]; simp
  have hrl : r.length = L.length := r2.length_eq
  have h2 : mkl 8 (r.length : Int) (r.length : Int) (0 : Int) = some (List.replicate r.length 0) := by
    unfold mkl
    have : r.length ≤ 12 := by omega
    rw [if_pos ⟨by omega, by omega, by unfold maxLen; simp; omega, by simp; omega⟩]
    simp
  have h3 : loop (order_Apps_l2 r) (List.replicate r.length 0, 0) = some (r.map (·.Id)) := by
    obtain ⟨v, e1, e2⟩ := loop_inv (fun (v : List Int) k => (v, k)) (order_Apps_l2 r) r.length (fun k v => v = (r.take k).map (·.Id) ++ List.replicate (r.length - k) 0) id
      (by
        intro k hk v hv
        have d1 : decide ((k : Int) < (r.length : Int)) = true := by rw [decide_eq_true_iff]; omega
        have hvl : v.length = r.length := by rw [hv]; simp; omega
        refine ⟨(r.take (k + 1)).map (·.Id) ++ List.replicate (r.length - (k + 1)) 0, ?_, rfl⟩
        have hs : List.set v k r[k].Id = (r.take (k + 1)).map (·.Id) ++ List.replicate (r.length - (k + 1)) 0 := by
          rw [hv, List.set_append_right _ _ (by simp; omega)]
          have hz : k - ((r.take k).map (·.Id)).length = 0 := by simp; omega
          rw [hz]
          have hr : r.length - k = (r.length - (k + 1)) + 1 := by omega
          rw [hr, List.replicate_succ, List.set_cons_zero, List.take_succ_eq_append_getElem hk, List.map_append, List.append_assoc]
          rfl
        unfold order_Apps_l2
        have g0 : v[k]? = some v[k] := List.getElem?_eq_getElem (by omega)
        have g1 : r[k]? = some r[k] := List.getElem?_eq_getElem hk
        simp only [d1, cond_true, inb_lt hk, Option.bind_some, g1, inb_lt (show k < v.length by omega), g0, hs]
        rw [step_succ (by omega)])
      (by
        intro v hv
        have : decide ((r.length : Int) < (r.length : Int)) = false := by rw [decide_eq_false_iff_not]; omega
        unfold order_Apps_l2
        simp only [this, cond_false, id]) (s := List.replicate r.length (0 : Int)) (by simp)
    rw [e1, e2]; simp
  unfold order_Apps
  rw [h1]
  simp only [Option.bind_some]
  have r1' : api_App__22 L (fun a' => order_Apps_1 a'.1 a'.2.1) = some r := r1
  rw [r1']
  simp only [Option.bind_some, h2, h3]

/-! ## what the statement wants -/
def F (b : List Int) (p : Int) : List Int := ((List.range 20).filter fun k : Nat => b.getD k 0 == p).map (fun k : Nat => (k : Int))
theorem F_len (b : List Int) (p : Int) : (F b p).length ≤ 20 := by
  unfold F
  rw [List.length_map]
  exact Nat.le_trans (List.length_filter_le _ _) (by simp)
theorem want1 (q2 : State × List Int) (hb : q2.2.length = 20) (w : List Int) (hw : w.length ≤ 100) (p : Int) : loop (dispatchlaw12_OrderPrios_l3 q2 (w, p)) (w, 0) = some (w ++ F q2.2 p) := by
  obtain ⟨v, e1, e2⟩ := loop_inv (fun (v : List Int) k => (v, k)) (dispatchlaw12_OrderPrios_l3 q2 (w, p)) 20 (fun k v => v = w ++ ((List.range k).filter fun k : Nat => q2.2.getD k 0 == p).map (fun k : Nat => (k : Int))) id
    (by
      intro k hk v hv
      have d1 : decide ((k : Int) < 20) = true := by rw [decide_eq_true_iff]; omega
      refine ⟨_, ?_, rfl⟩
      have g0 : q2.2[k]? = some (q2.2.getD k 0) := by rw [List.getD_eq_getElem?_getD, List.getElem?_eq_getElem (by omega)]; rfl
      have hl : v.length ≤ 120 := by
        rw [hv, List.length_append, List.length_map]
        have := List.length_filter_le (fun k : Nat => q2.2.getD k 0 == p) (List.range k)
        rw [List.length_range] at this
        omega
      unfold dispatchlaw12_OrderPrios_l3
      have i1 : inb (k : Int) 20 = some k := inb_lt hk
      rw [List.range_succ, List.filter_append, List.map_append, ← List.append_assoc, ← hv]
      cases hc : (q2.2.getD k 0 == p) with
      | true =>
        have a1 : app 8 v [(k : Int)] = some (v ++ [(k : Int)]) := app_ok (by simp; omega) (by omega)
        have hfl : List.filter (fun k : Nat => q2.2.getD k 0 == p) [k] = [k] := List.filter_cons_of_pos (p := fun k : Nat => q2.2.getD k 0 == p) hc
        rw [hfl]
        simp only [d1, cond_true, i1, Option.bind_some, g0, hc, a1]
        rw [step_succ (by omega)]
        rfl
      | false =>
        have hfl : List.filter (fun k : Nat => q2.2.getD k 0 == p) [k] = [] := List.filter_cons_of_neg (p := fun k : Nat => q2.2.getD k 0 == p) (by rw [hc]; simp)
        rw [hfl]
        simp only [d1, cond_true, i1, Option.bind_some, g0, hc, cond_false]
        rw [step_succ (by omega)]
        simp)
    (by
      intro v hv
      have : decide (((20 : Nat) : Int) < 20) = false := by decide
      unfold dispatchlaw12_OrderPrios_l3
      simp only [this, cond_false, id]) (s := w) (by simp)
  rw [e1, e2]; rfl
theorem want_all (q2 : State × List Int) (hb : q2.2.length = 20) : loop (dispatchlaw12_OrderPrios_l2 q2) ([], 4) = some (F q2.2 4 ++ F q2.2 3 ++ F q2.2 2 ++ F q2.2 1) := by
  have f4 := F_len q2.2 4
  have f3 := F_len q2.2 3
  have f2 := F_len q2.2 2
  have stp : ∀ (w : List Int) (p : Int), 1 ≤ p → p ≤ 4 → w.length ≤ 100 → dispatchlaw12_OrderPrios_l2 q2 (w, p) = some (.inl (w ++ F q2.2 p, p - 1)) := by
    intro w p h1 h2 h3
    unfold dispatchlaw12_OrderPrios_l2
    have d1 : decide (p ≥ 1) = true := by rw [decide_eq_true_iff]; omega
    simp only [d1, cond_true]
    rw [want1 q2 hb w h3 p]
    simp only [Option.bind_some]
    rw [w64_id (by omega) (by omega)]
  rw [loop_next (stp [] 4 (by omega) (by omega) (by simp)), show (4 : Int) - 1 = 3 by omega, List.nil_append]
  rw [loop_next (stp _ 3 (by omega) (by omega) (by omega)), show (3 : Int) - 1 = 2 by omega]
  rw [loop_next (stp _ 2 (by omega) (by omega) (by simp; omega)), show (2 : Int) - 1 = 1 by omega]
  rw [loop_next (stp _ 1 (by omega) (by omega) (by simp; omega)), show (1 : Int) - 1 = 0 by omega]
  refine loop_out ?_
  unfold dispatchlaw12_OrderPrios_l2
  rfl
end Go.Fx.D

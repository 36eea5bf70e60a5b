/-
  Laws over plain data: true at all inputs. Conditions: none.
-/
import Derived.Test.YtofblnjjdldflaaW
namespace Go.Fx.D
open Go Go.Fx
set_option linter.unusedVariables false
set_option linter.unusedSimpArgs false
set_option maxRecDepth 100000

def QL (n : Nat) (G : Nat → Int) : List Queue := qR :: (List.range n).map fun i => (⟨P i, [⟨G i, 10000⟩], 1⟩ : Queue)
def nod : Node := ⟨1, 0, 0, ⟨100, 100⟩, 0, 0, true⟩
def sT (n : Nat) (G : Nat → Int) (A : List App) (C : List Cont) : State := ⟨⟨[[]], QL n G⟩, [⟨1, 0, 0, ⟨100, 100⟩, 0, 0, true⟩], A, C, [], [], 0, 0, 0⟩
def mkB (i : Nat) : App := ⟨i, 2, P i, 0, 0, ⟨1, 1⟩, [], 0, 0, [], [], [], []⟩
def mkC (id_ : Int) (i : Nat) (m : Bool) : Cont := ⟨id_, i, 1, ⟨1, 1⟩, 0, 0, m, 0⟩

structure Ac (n : Nat) (U : Nat → Int) (A : List App) (C : List Cont) : Prop where
  apps : ∀ x ∈ A, ∃ i, i < n ∧ U i ≠ 0 ∧ x = mkB i
  has : ∀ i, i < n → U i ≠ 0 → mkB i ∈ A
  asc : A.Pairwise (fun a b => a.Id < b.Id)
  la : A.length ≤ 4
  conts : ∀ c ∈ C, ∃ (i : Nat) (id_ : Int) (m : Bool), i < n ∧ U i ≠ 0 ∧ c = mkC id_ i m
  casc : C.Pairwise (fun a b => a.Id < b.Id)
  lc : C.length ≤ 80
  cnt : ∀ i, i < n → ((C.filter fun c => c.App == (i : Int)).length : Int) = U i
  mas : ∀ i, i < n → ((C.filter fun c => c.App == (i : Int) && c.Master).length : Int) = if U i = 0 then 0 else 1

/-- rounds that look for an application -/
theorem find_gen {l : List App} {k0 : Int} {step : App × Int → Option ((App × Int) ⊕ ((App × Bool) ⊕ App))} (hn : l.length ≤ 1000)
    (h1 : ∀ (a0 : App) (k : Nat) (h : k < l.length), step (a0, (k : Int)) = if l[k].Id = k0 then some (.inr (.inl (l[k], true))) else some (.inl (a0, ((k + 1 : Nat) : Int))))
    (h2 : ∀ a0 : App, step (a0, (l.length : Int)) = some (.inr (.inr a0))) (a0 : App) (hx : ∃ x ∈ l, x.Id = k0) : ∃ a ∈ l, a.Id = k0 ∧ loop step (a0, 0) = some (.inl (a, true)) := by
  have key : ∀ (m k : Nat), m + k = l.length → (∀ i (h : i < k) (h' : i < l.length), l[i].Id ≠ k0) → ∃ a ∈ l, a.Id = k0 ∧ loop step (a0, (k : Int)) = some (.inl (a, true)) := by
    intro m
    induction m with
    | zero =>
      intro k hk hb
      obtain ⟨x, hx, he⟩ := hx
      obtain ⟨i, hi, rfl⟩ := List.mem_iff_getElem.1 hx
      exact absurd he (hb i (by omega) hi)
    | succ m ih =>
      intro k hk hb
      have hk' : k < l.length := by omega
      by_cases he : l[k].Id = k0
      · exact ⟨l[k], List.getElem_mem hk', he, loop_out (by rw [h1 a0 k hk', if_pos he])⟩
      · have hst := h1 a0 k hk'
        rw [if_neg he] at hst
        rw [loop_next hst]
        refine ih (k + 1) (by omega) ?_
        intro i hi h'
        by_cases hik : i = k
        · subst hik; exact he
        · exact hb i (by omega) h'
  exact key l.length 0 (by omega) (fun i h => by omega)

section
variable {n : Nat} {U G : Nat → Int} {A : List App} {C : List Cont}

theorem ac_find (h : Ac n U A C) {i : Nat} (hi : i < n) (hu : U i ≠ 0) : dispatchref10_Find (sT n G A C) (i : Int) = some (mkB i, true) := by
  obtain ⟨a, ha, he, hl⟩ := find_gen (l := A) (k0 := (i : Int)) (step := dispatchref10_Find_l1 (sT n G A C) (i : Int)) (by have := h.la; omega)
    (by
      intro a0 k hk
      have d1 : decide ((k : Int) < ((sT n G A C).Apps.length : Int)) = true := by rw [decide_eq_true_iff]; show (k : Int) < (A.length : Int); omega
      have i1 : idx (sT n G A C).Apps (k : Int) = some A[k] := idx_lt hk
      unfold dispatchref10_Find_l1
      simp only [d1, cond_true, i1, Option.bind_some]
      by_cases e : A[k].Id = (i : Int)
      · rw [if_pos e, beq_iff_eq.2 e]; rfl
      · rw [if_neg e, beq_eq_false_iff_ne.2 e, step_succ (by have := h.la; omega)]; rfl)
    (by
      intro a0
      have d1 : decide ((A.length : Int) < ((sT n G A C).Apps.length : Int)) = false := by rw [decide_eq_false_iff_not]; show ¬ (A.length : Int) < (A.length : Int); omega
      unfold dispatchref10_Find_l1
      simp only [d1, cond_false])
    ⟨0, 0, [], 0, 0, ⟨0, 0⟩, [], 0, 0, [], [], [], []⟩ ⟨mkB i, h.has i hi hu, rfl⟩
  obtain ⟨j, _, _, rfl⟩ := h.apps a ha
  have : j = i := by have he : (j : Int) = (i : Int) := he; omega
  subst this
  unfold dispatchref10_Find
  rw [hl]
  rfl

theorem ac_owner (h : Ac n U A C) {i : Nat} (hi : i < n) (hu : U i ≠ 0) {p : List UInt8} {id_ : Int} {m : Bool} : qtree_view_owner ⟨sT n G A C, p, 0, -1⟩ (mkC id_ i m) = some (mkB i, true) := by
  obtain ⟨a, ha, he, hl⟩ := find_gen (l := A) (k0 := (i : Int)) (step := qtree_view_owner_l1 ⟨sT n G A C, p, 0, -1⟩ (mkC id_ i m)) (by have := h.la; omega)
    (by
      intro a0 k hk
      have d1 : decide ((k : Int) < ((⟨sT n G A C, p, 0, -1⟩ : View).s.Apps.length : Int)) = true := by rw [decide_eq_true_iff]; show (k : Int) < (A.length : Int); omega
      have i1 : idx (⟨sT n G A C, p, 0, -1⟩ : View).s.Apps (k : Int) = some A[k] := idx_lt hk
      have i2 : (mkC id_ i m).App = (i : Int) := rfl
      unfold qtree_view_owner_l1
      simp only [d1, cond_true, i1, Option.bind_some, i2]
      by_cases e : A[k].Id = (i : Int)
      · rw [if_pos e, beq_iff_eq.2 e]; rfl
      · rw [if_neg e, beq_eq_false_iff_ne.2 e, step_succ (by have := h.la; omega)]; rfl)
    (by
      intro a0
      have d1 : decide ((A.length : Int) < ((⟨sT n G A C, p, 0, -1⟩ : View).s.Apps.length : Int)) = false := by rw [decide_eq_false_iff_not]; show ¬ (A.length : Int) < (A.length : Int); omega
      unfold qtree_view_owner_l1
      simp only [d1, cond_false])
    ⟨0, 0, [], 0, 0, ⟨0, 0⟩, [], 0, 0, [], [], [], []⟩ ⟨mkB i, h.has i hi hu, rfl⟩
  obtain ⟨j, _, _, rfl⟩ := h.apps a ha
  have : j = i := by have he : (j : Int) = (i : Int) := he; omega
  subst this
  unfold qtree_view_owner
  rw [hl]
  rfl

theorem has_all {s : State} {i j : Nat} (hi : i < 4) (hj : j < 4) : qtree_view_has ⟨s, P i, 0, -1⟩ (mkB j) = some (decide (j = i)) := by
  have key : ∀ i, i < 4 → ∀ j, j < 4 → c_qtree_view_has ⟨s, P i, 0, -1⟩ (mkB j) = some (decide (j = i)) := by
    intro i hi j hj
    match i, hi, j, hj with
    | 0, _, 0, _ => exact (by kernel_rfl : c_qtree_view_has ⟨s, P 0, 0, -1⟩ (mkB 0) = some (decide (0 = 0)))
    | 0, _, 1, _ => exact (by kernel_rfl : c_qtree_view_has ⟨s, P 0, 0, -1⟩ (mkB 1) = some (decide (1 = 0)))
    | 0, _, 2, _ => exact (by kernel_rfl : c_qtree_view_has ⟨s, P 0, 0, -1⟩ (mkB 2) = some (decide (2 = 0)))
    | 0, _, 3, _ => exact (by kernel_rfl : c_qtree_view_has ⟨s, P 0, 0, -1⟩ (mkB 3) = some (decide (3 = 0)))
    | 1, _, 0, _ => exact (by kernel_rfl : c_qtree_view_has ⟨s, P 1, 0, -1⟩ (mkB 0) = some (decide (0 = 1)))
    | 1, _, 1, _ => exact (by kernel_rfl : c_qtree_view_has ⟨s, P 1, 0, -1⟩ (mkB 1) = some (decide (1 = 1)))
    | 1, _, 2, _ => exact (by kernel_rfl : c_qtree_view_has ⟨s, P 1, 0, -1⟩ (mkB 2) = some (decide (2 = 1)))
    | 1, _, 3, _ => exact (by kernel_rfl : c_qtree_view_has ⟨s, P 1, 0, -1⟩ (mkB 3) = some (decide (3 = 1)))
    | 2, _, 0, _ => exact (by kernel_rfl : c_qtree_view_has ⟨s, P 2, 0, -1⟩ (mkB 0) = some (decide (0 = 2)))
    | 2, _, 1, _ => exact (by kernel_rfl : c_qtree_view_has ⟨s, P 2, 0, -1⟩ (mkB 1) = some (decide (1 = 2)))
    | 2, _, 2, _ => exact (by kernel_rfl : c_qtree_view_has ⟨s, P 2, 0, -1⟩ (mkB 2) = some (decide (2 = 2)))
    | 2, _, 3, _ => exact (by kernel_rfl : c_qtree_view_has ⟨s, P 2, 0, -1⟩ (mkB 3) = some (decide (3 = 2)))
    | 3, _, 0, _ => exact (by kernel_rfl : c_qtree_view_has ⟨s, P 3, 0, -1⟩ (mkB 0) = some (decide (0 = 3)))
    | 3, _, 1, _ => exact (by kernel_rfl : c_qtree_view_has ⟨s, P 3, 0, -1⟩ (mkB 1) = some (decide (1 = 3)))
    | 3, _, 2, _ => exact (by kernel_rfl : c_qtree_view_has ⟨s, P 3, 0, -1⟩ (mkB 2) = some (decide (2 = 3)))
    | 3, _, 3, _ => exact (by kernel_rfl : c_qtree_view_has ⟨s, P 3, 0, -1⟩ (mkB 3) = some (decide (3 = 3)))
    | i + 4, hi, _, _ => omega
    | _, _, j + 4, hj => omega
  exact (le_qtree_view_has _ _).ok _ (key i hi j hj)

theorem filter_take {α : Type} (p : α → Bool) (l : List α) (k : Nat) (h : k < l.length) : (l.take (k + 1)).filter p = (l.take k).filter p ++ (if p l[k] then [l[k]] else []) := by
  rw [List.take_succ_eq_append_getElem h, List.filter_append]
  congr 1
  cases hp : p l[k] <;> simp [hp]

theorem used_ok (hn : n ≤ 4) (h : Ac n U A C) {i : Nat} (hi : i < n) : qtree_Used (sT n G A C) (P i) 0 = some ⟨U i, U i⟩ := by
  have hlc := h.lc
  have e : loop (qtree_view_used_l1 ⟨sT n G A C, P i, 0, -1⟩) ((⟨0, 0⟩ : Vec), 0) = some ⟨U i, U i⟩ := by
    obtain ⟨v, e1, e2⟩ := loop_inv (fun (v : Vec) k => (v, k)) (qtree_view_used_l1 ⟨sT n G A C, P i, 0, -1⟩) C.length
      (fun k v => v = ⟨(((C.take k).filter fun c => c.App == (i : Int)).length : Int), (((C.take k).filter fun c => c.App == (i : Int)).length : Int)⟩) id
      (by
        intro k hk v hv
        refine ⟨_, ?_, rfl⟩
        have d1 : decide ((k : Int) < ((⟨sT n G A C, P i, 0, -1⟩ : View).s.Conts.length : Int)) = true := by rw [decide_eq_true_iff]; show (k : Int) < (C.length : Int); omega
        have i1 : idx (⟨sT n G A C, P i, 0, -1⟩ : View).s.Conts (k : Int) = some C[k] := idx_lt hk
        obtain ⟨j, id_, m, hj, hu, hc⟩ := h.conts _ (List.getElem_mem hk)
        rw [filter_take _ _ _ hk]
        have hb : (((C.take k).filter fun c => c.App == (i : Int)).length : Int) ≤ 80 := by
          have h1 := List.length_filter_le (fun c : Cont => c.App == (i : Int)) (C.take k)
          rw [List.length_take] at h1
          omega
        have ho := ac_owner (G := G) h hj hu (p := P i) (id_ := id_) (m := m)
        have hh := has_all (s := sT n G A C) (i := i) (j := j) (by omega) (by omega)
        have hcc : (C[k].App == (i : Int)) = decide (j = i) := by
          rw [hc]
          show ((j : Int) == (i : Int)) = decide (j = i)
          by_cases e : j = i
          · subst e; simp
          · rw [decide_eq_false e]; exact beq_eq_false_iff_ne.2 (by omega)
        unfold qtree_view_used_l1
        simp only [d1, cond_true, i1, Option.bind_some, hcc]
        rw [hc, ho]
        simp only [Option.bind_some, cond_true]
        have hl : ((mkC id_ j m).Label == (⟨sT n G A C, P i, 0, -1⟩ : View).label) = true := rfl
        rw [hl, hh]
        simp only [Option.bind_some, cond_true]
        by_cases e : j = i
        · rw [decide_eq_true e]
          have ha : rvec_Add v ⟨1, 1⟩ = some (⟨v.Mem + 1, v.Cores + 1⟩, 0) := by
            have := add_few (a := v) (b := ⟨1, 1⟩) (by rw [hv]; dsimp only; omega) (by rw [hv]; dsimp only; omega) (by rw [hv]; dsimp only; omega) (by rw [hv]; dsimp only; omega) (by unfold Few; decide)
            exact this
          have hsz : (mkC id_ j m).Size = ⟨1, 1⟩ := rfl
          rw [hsz]
          simp only [cond_true, ha, Option.bind_some]
          rw [step_succ (by omega), hv]
          simp
        · rw [decide_eq_false e]
          simp only [cond_false, Option.bind_some]
          rw [step_succ (by omega), hv]
          simp)
      (by
        intro v hv
        have d1 : decide ((C.length : Int) < ((⟨sT n G A C, P i, 0, -1⟩ : View).s.Conts.length : Int)) = false := by rw [decide_eq_false_iff_not]; show ¬ (C.length : Int) < (C.length : Int); omega
        unfold qtree_view_used_l1
        simp only [d1, cond_false, id]) (s := (⟨0, 0⟩ : Vec)) (by simp)
    rw [e1, e2, List.take_length, h.cnt i hi]
    rfl
  unfold qtree_Used qtree_view_used
  have e' : loop (qtree_view_used_l1 ⟨⟨⟨(sT n G A C).Conf.Labels, (sT n G A C).Conf.Queues⟩, (sT n G A C).Nodes, (sT n G A C).Apps, (sT n G A C).Conts, (sT n G A C).Slots, (sT n G A C).Plans, (sT n G A C).Now, (sT n G A C).Epoch, (sT n G A C).Seq⟩, P i, 0, -1⟩) ((⟨0, 0⟩ : Vec), 0) = some ⟨U i, U i⟩ := e
  rw [e']
  rfl
end
end Go.Fx.D

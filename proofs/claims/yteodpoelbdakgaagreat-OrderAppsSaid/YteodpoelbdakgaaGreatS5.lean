/-
  The reference manager: what holds of its state after every script. Conditions: none.
-/
import Derived.Test.YteodpoelbdakgaaGreatS4
/-
  Chapters 8 and 10: nodes, applications, containers: what the functions give, as plain lists.
-/
namespace Go.Fx.D
open Go Go.Fx
set_option linter.unusedVariables false
set_option linter.unusedSimpArgs false

/-- lists of bounded size -/
structure SSmall (s : State) : Prop where
  n : s.Nodes.length ≤ 100000
  a : s.Apps.length ≤ 100000
  c : s.Conts.length ≤ 100000
  l : s.Slots.length ≤ 100000
  p : s.Plans.length ≤ 100000

def noN : Node := ⟨0, 0, 0, ⟨0, 0⟩, 0, 0, false⟩
def noA : App := ⟨0, 0, [], 0, 0, ⟨0, 0⟩, [], 0, 0, [], [], [], []⟩
def noC : Cont := ⟨0, 0, 0, ⟨0, 0⟩, 0, 0, false, 0⟩
def nodeAt (s : State) (i : Int) : Option Node := s.Nodes.find? fun x => x.Id == i
def appAt (s : State) (i : Int) : Option App := s.Apps.find? fun x => x.Id == i
def contAt (s : State) (i : Int) : Option Cont := s.Conts.find? fun x => x.Id == i

theorem nodeFind_eq {s : State} (h : SSmall s) (i : Int) : dispatchref8_Find s i = some ((nodeAt s i).elim (noN, false) fun x => (x, true)) := by
  unfold dispatchref8_Find
  have e := loop_find (fun i => (noN, i)) s.Nodes (fun q => q.Id == i) (fun q => .inl (q, true)) (.inr noN) (step := dispatchref8_Find_l1 s i) (by have := h.n; omega) ?_ ?_ ?_
  · unfold noN at e
    rw [e]
    unfold nodeAt noN
    cases s.Nodes.find? fun q => q.Id == i <;> rfl
  · intro k hk hp
    unfold dispatchref8_Find_l1
    rw [dlt_t hk, idx_at hk]
    simp only [cond_true, Option.bind_some, hp, cond_false]
  · intro k hk hp
    unfold dispatchref8_Find_l1
    rw [dlt_t hk, idx_at hk]
    simp only [cond_true, Option.bind_some, hp]
  · unfold dispatchref8_Find_l1
    rw [dlt_f]
    rfl
theorem appFind_eq {s : State} (h : SSmall s) (i : Int) : dispatchref10_Find s i = some ((appAt s i).elim (noA, false) fun x => (x, true)) := by
  unfold dispatchref10_Find
  have e := loop_find (fun i => (noA, i)) s.Apps (fun q => q.Id == i) (fun q => .inl (q, true)) (.inr noA) (step := dispatchref10_Find_l1 s i) (by have := h.a; omega) ?_ ?_ ?_
  · unfold noA at e
    rw [e]
    unfold appAt noA
    cases s.Apps.find? fun q => q.Id == i <;> rfl
  · intro k hk hp
    unfold dispatchref10_Find_l1
    rw [dlt_t hk, idx_at hk]
    simp only [cond_true, Option.bind_some, hp, cond_false]
  · intro k hk hp
    unfold dispatchref10_Find_l1
    rw [dlt_t hk, idx_at hk]
    simp only [cond_true, Option.bind_some, hp]
  · unfold dispatchref10_Find_l1
    rw [dlt_f]
    rfl
theorem contFind_eq {s : State} (h : SSmall s) (i : Int) : dispatchref10_Cont s i = some ((contAt s i).elim (noC, false) fun x => (x, true)) := by
  unfold dispatchref10_Cont
  have e := loop_find (fun i => (noC, i)) s.Conts (fun q => q.Id == i) (fun q => .inl (q, true)) (.inr noC) (step := dispatchref10_Cont_l1 s i) (by have := h.c; omega) ?_ ?_ ?_
  · unfold noC at e
    rw [e]
    unfold contAt noC
    cases s.Conts.find? fun q => q.Id == i <;> rfl
  · intro k hk hp
    unfold dispatchref10_Cont_l1
    rw [dlt_t hk, idx_at hk]
    simp only [cond_true, Option.bind_some, hp, cond_false]
  · intro k hk hp
    unfold dispatchref10_Cont_l1
    rw [dlt_t hk, idx_at hk]
    simp only [cond_true, Option.bind_some, hp]
  · unfold dispatchref10_Cont_l1
    rw [dlt_f]
    rfl

theorem on_eq {s : State} (h : SSmall s) (i : Int) : dispatchref19_on s i = some ((s.Conts.filter fun c => c.Node == i).map (·.Id)) := by
  unfold dispatchref19_on
  have hc := h.c
  have e := loop_filter (fun (l : List Int) i => (l, i)) s.Conts (fun c => c.Node == i) (·.Id) (step := dispatchref19_on_l1 s i) (by omega) ?_ ?_
  · rw [e]; rfl
  · intro k hk l hl
    unfold dispatchref19_on_l1
    rw [dlt_t hk, idx_at hk]
    simp only [cond_true, Option.bind_some]
    cases hp : (s.Conts[k].Node == i) <;> simp only [cond_true, cond_false, Option.bind_some, if_true]
    · rfl
    · rw [app_some (by simp; omega) (by omega)]; rfl
  · intro l
    unfold dispatchref19_on_l1
    rw [dlt_f]
    rfl

def pAway (s : State) (i : Int) : State := ⟨s.Conf, s.Nodes, s.Apps, s.Conts.filter fun c => c.Id != i, s.Slots, s.Plans, s.Now, s.Epoch, s.Seq⟩
theorem away_eq {s : State} (h : SSmall s) (i : Int) : dispatchref10_Away s i = some (pAway s i) := by
  unfold dispatchref10_Away
  have hc := h.c
  have e := loop_filter (fun (l : List Cont) i => (l, i)) s.Conts (fun c => c.Id != i) id (step := dispatchref10_Away_l1 s i) (by omega) ?_ ?_
  · rw [e, List.map_id]; rfl
  · intro k hk l hl
    unfold dispatchref10_Away_l1
    rw [dlt_t hk, idx_at hk]
    simp only [cond_true, Option.bind_some]
    cases hp : (s.Conts[k].Id != i) <;> simp only [cond_true, cond_false, Option.bind_some, if_true]
    · rfl
    · rw [app_some (by simp; omega) (by omega)]; rfl
  · intro l
    unfold dispatchref10_Away_l1
    rw [dlt_f]
    rfl
theorem without_eq {l : List Int} (h : l.length ≤ 10000000) (i : Int) : dispatchref10_Without l i = some (l.filter fun x => x != i, decide ((l.filter fun x => x != i).length < l.length)) := by
  unfold dispatchref10_Without
  have e := loop_filter (fun (l : List Int) i => (l, i)) l (fun c => c != i) id (step := dispatchref10_Without_l1 l i) (by omega) ?_ ?_
  · rw [e, List.map_id]
    simp only [Option.bind_some]
    congr 2
    rw [decide_eq_decide]; omega
  · intro k hk z hz
    unfold dispatchref10_Without_l1
    rw [dlt_t hk, idx_at hk]
    simp only [cond_true, Option.bind_some]
    cases hp : (l[k] != i) <;> simp only [cond_true, cond_false, Option.bind_some, if_true]
    · rfl
    · rw [app_some (by simp; omega) (by omega)]; rfl
  · intro z
    unfold dispatchref10_Without_l1
    rw [dlt_f]
    rfl

def pShed (s : State) (i : Int) : State := ⟨s.Conf, s.Nodes, s.Apps, s.Conts.filter fun c => !(c.App == i), s.Slots.filter fun x => x.App != i, s.Plans, s.Now, s.Epoch, s.Seq⟩
theorem shed_eq {s : State} (h : SSmall s) (i : Int) : dispatchref10_shed s i = some (pShed s i, (s.Conts.filter fun c => c.App == i).map (·.Id)) := by
  unfold dispatchref10_shed
  have hc := h.c
  have hl := h.l
  have e1 := (loop_fold (σ := List Cont × List Int) (fun t i => (t.1, t.2, i)) s.Conts (fun t c => (if !(c.App == i) then t.1 ++ [c] else t.1, if c.App == i then t.2 ++ [c.Id] else t.2)) (fun k t => t.1.length ≤ k ∧ t.2.length ≤ k) (fun t => t) (step := dispatchref10_shed_l1 s i) (by omega) ?_ ?_ (s := ([], [])) (by simp)).1
  · have e2 := loop_filter (fun (l : List Slot) i => (l, i)) s.Slots (fun x => x.App != i) id (step := dispatchref10_shed_l2 s i) (by omega) ?_ ?_
    · rw [e1, e2, List.map_id]
      have hf : ∀ (l : List Cont) (a : List Cont) (b : List Int), l.foldl (fun (t : List Cont × List Int) c => (if !(c.App == i) then t.1 ++ [c] else t.1, if c.App == i then t.2 ++ [c.Id] else t.2)) (a, b) = (a ++ l.filter fun c => !(c.App == i), b ++ (l.filter fun c => c.App == i).map (·.Id)) := by
        intro l
        induction l with
        | nil => simp
        | cons c l ih =>
          intro a b
          rw [List.foldl_cons, ih]
          cases hh : (c.App == i) <;> simp [hh]
      rw [hf]
      rfl
    · intro k hk z hz
      unfold dispatchref10_shed_l2
      rw [dlt_t hk, idx_at hk]
      simp only [cond_true, Option.bind_some]
      cases hp : (s.Slots[k].App != i) <;> simp only [cond_true, cond_false, Option.bind_some, if_true]
      · rfl
      · rw [app_some (by simp; omega) (by omega)]; rfl
    · intro z
      unfold dispatchref10_shed_l2
      rw [dlt_f]
      rfl
  · rintro k hk ⟨a, b⟩ ⟨h1, h2⟩
    dsimp only at h1 h2
    unfold dispatchref10_shed_l1
    dsimp only
    rw [dlt_t hk, idx_at hk]
    simp only [cond_true, Option.bind_some]
    cases hp : (s.Conts[k].App == i) <;> simp only [cond_true, cond_false, Option.bind_some, if_true, Bool.not_false, Bool.not_true]
    · rw [app_some (by simp; omega) (by omega)]
      exact ⟨rfl, by simp; omega, by simp; omega⟩
    · rw [app_some (by simp; omega) (by omega)]
      exact ⟨rfl, by simp; omega, by simp; omega⟩
  · rintro ⟨a, b⟩ _
    unfold dispatchref10_shed_l1
    dsimp only
    rw [dlt_f]
    rfl

theorem takeWhile_at {α : Type} (p : α → Bool) (l : List α) : l.take (l.takeWhile p).length = l.takeWhile p ∧ l.drop (l.takeWhile p).length = l.dropWhile p := by
  induction l with
  | nil => simp
  | cons a l ih =>
    by_cases h : p a = true
    · rw [List.takeWhile_cons_of_pos h, List.dropWhile_cons_of_pos h]; simp [ih.1, ih.2]
    · rw [List.takeWhile_cons_of_neg h, List.dropWhile_cons_of_neg h]; simp
theorem takeWhile_le {α : Type} (p : α → Bool) (l : List α) : (l.takeWhile p).length ≤ l.length := (List.takeWhile_sublist p).length_le

/-- the four steps of laying an element at its place -/
theorem put_gen {α : Type} {id : α → Int} {b : Nat} (hb : b ≤ 1000) {l : List α} (hn : l.length ≤ 1000000) {a : α} {k1 : Int} (hk : k1 = ((l.takeWhile fun x => decide (id x < id a)).length : Int)) {β : Type} (f : List α → Option β) :
    ((slc l 0 k1).bind fun x => (app b [] x).bind fun l1 => (app b l1 [a]).bind fun l2 =>
      ((bif decide (k1 < (l.length : Int)) then (idx l k1).bind fun x1 => some (id x1 == id a) else some false).bind fun q1 => bif q1 then some (w64 (k1 + 1)) else some k1).bind fun k2 =>
      (slc l k2 (l.length : Int)).bind fun l3 => (app b l2 l3).bind f) = f (putG id l a) := by
  have hle := takeWhile_le (fun x => decide (id x < id a)) l
  have ht := takeWhile_at (fun x => decide (id x < id a)) l
  subst hk
  unfold putG
  generalize hA : l.takeWhile (fun x => decide (id x < id a)) = A at hle ht ⊢
  have s1 : slc l 0 (A.length : Int) = some A := by
    unfold slc
    rw [if_pos ⟨by omega, by omega, by omega⟩, Int.toNat_natCast, ht.1]; rfl
  rw [s1, Option.bind_some, app_some (by simp; omega) hb, Option.bind_some, List.nil_append, app_some (by simp; omega) hb, Option.bind_some]
  have s2 : ∀ k : Nat, k ≤ l.length → slc l (k : Int) (l.length : Int) = some (l.drop k) := by
    intro k hk
    unfold slc
    rw [if_pos ⟨by omega, by omega, by omega⟩, Int.toNat_natCast, Int.toNat_natCast, List.take_length]
  by_cases hlt : A.length < l.length
  · rw [decide_eq_true (by omega), idx_at hlt]
    simp only [cond_true, Option.bind_some]
    have hd : l.dropWhile (fun x => decide (id x < id a)) = l[A.length] :: l.drop (A.length + 1) := by rw [← ht.2, List.drop_eq_getElem_cons hlt]
    rw [hd]
    dsimp only
    by_cases he : id l[A.length] = id a
    · rw [if_pos he, show (id l[A.length] == id a) = true by simpa using he]
      simp only [cond_true, Option.bind_some]
      rw [step_up (by omega), s2 _ hlt, Option.bind_some, app_some (by simp; omega) hb, Option.bind_some]
      simp
    · rw [if_neg he, show (id l[A.length] == id a) = false by simpa using he]
      simp only [cond_false, Option.bind_some]
      rw [s2 _ (by omega), Option.bind_some, app_some (by simp; omega) hb, Option.bind_some, List.drop_eq_getElem_cons hlt]
      simp
  · have hA2 : A.length = l.length := by omega
    rw [decide_eq_false (by omega)]
    simp only [cond_false, Option.bind_some]
    have hd : l.dropWhile (fun x => decide (id x < id a)) = [] := by rw [← ht.2, hA2, List.drop_length]
    rw [hd, s2 _ hle, Option.bind_some, hA2, List.drop_length, app_some (by simp; omega) hb, Option.bind_some]
    simp

def pPutN (s : State) (n : Node) : State := ⟨s.Conf, putG (·.Id) s.Nodes n, s.Apps, s.Conts, s.Slots, s.Plans, s.Now, s.Epoch, s.Seq⟩
def pPutA (s : State) (a : App) : State := ⟨s.Conf, s.Nodes, putG (·.Id) s.Apps a, s.Conts, s.Slots, s.Plans, s.Now, s.Epoch, s.Seq⟩
theorem putN_eq {s : State} (h : SSmall s) (n : Node) : dispatchref8_put s n = some (pPutN s n) := by
  unfold dispatchref8_put
  have hn := h.n
  have e := loop_while s.Nodes (fun x => decide (x.Id < n.Id)) (step := dispatchref8_put_l1 s n) (by omega) ?_ ?_
  · rw [e, Option.bind_some]
    exact put_gen (id := fun x : Node => x.Id) (by omega) (by omega) rfl (fun l4 => some (⟨s.Conf, l4, s.Apps, s.Conts, s.Slots, s.Plans, s.Now, s.Epoch, s.Seq⟩ : State))
  · intro k hk
    unfold dispatchref8_put_l1
    rw [dlt_t hk, idx_at hk]
    simp only [cond_true, Option.bind_some]
    cases decide (s.Nodes[k].Id < n.Id) <;> rfl
  · unfold dispatchref8_put_l1
    rw [dlt_f]
    rfl
theorem putA_eq0 {s : State} (hn : s.Apps.length ≤ 100000) (a : App) : dispatchref10_Put s a = some (pPutA s a) := by
  unfold dispatchref10_Put
  have e := loop_while s.Apps (fun x => decide (x.Id < a.Id)) (step := dispatchref10_Put_l1 s a) (by omega) ?_ ?_
  · rw [e, Option.bind_some]
    exact put_gen (id := fun x : App => x.Id) (by omega) (by omega) rfl (fun l4 => some (⟨s.Conf, s.Nodes, l4, s.Conts, s.Slots, s.Plans, s.Now, s.Epoch, s.Seq⟩ : State))
  · intro k hk
    unfold dispatchref10_Put_l1
    rw [dlt_t hk, idx_at hk]
    simp only [cond_true, Option.bind_some]
    cases decide (s.Apps[k].Id < a.Id) <;> rfl
  · unfold dispatchref10_Put_l1
    rw [dlt_f]
    rfl
theorem putA_eq {s : State} (h : SSmall s) (a : App) : dispatchref10_Put s a = some (pPutA s a) := putA_eq0 h.a a
end Go.Fx.D

/-
  The reference manager: what holds of its state after every script. Conditions: none.
-/
import Derived.Test.YteodpoelbdakgaaGreatS4
namespace Go.Fx.D
open Go Go.Fx
set_option linter.unusedVariables false
set_option linter.unusedSimpArgs false
structure SSmall (s : State) : Prop where
 n : s.Nodes.length ≤ 100000
 a : s.Apps.length ≤ 100000
 c : s.Conts.length ≤ 100000
 l : s.Slots.length ≤ 100000
 p : s.Plans.length ≤ 100000
def noN : Node := ⟨0, 0, 0, ⟨0, 0⟩, 0, 0, false⟩
def noA : App := ⟨0, 0, [], 0, 0, ⟨0, 0⟩, [], 0, 0, [], [], [], []⟩
def noC : Cont := ⟨0, 0, 0, ⟨0, 0⟩, 0, 0, false, 0⟩
def cQ (s : State) (i : Int) : Option Node := s.Nodes.find? fun x => x.Id == i
def appAt (s : State) (i : Int) : Option App := s.Apps.find? fun x => x.Id == i
theorem eC {s : State} (h : SSmall s) (i : Int) : ce s i = some ((cQ s i).elim (noN, false) fun x => (x, true)) := by
 unfold ce
 have e := cT (fun i => (noN, i)) s.Nodes (fun q => q.Id == i) (fun q => .inl (q, true)) (.inr noN) (step := bV s i) (by have := h.n; omega) ?_ ?_ ?_
 ·unfold noN at e
  rw [e]
  unfold cQ noN
  cases s.Nodes.find? fun q => q.Id == i <;> rfl
 ·intro k hk hp
  unfold bV
  rw [au hk, ax hk]
  simp only [cond_true, Ba, hp, cond_false]
 ·intro k hk hp
  unfold bV
  rw [au hk, ax hk]
  simp only [cond_true, Ba, hp]
 ·unfold bV
  rw [aD]
  rfl
theorem bb {s : State} (h : SSmall s) (i : Int) : aG s i = some ((appAt s i).elim (noA, false) fun x => (x, true)) := by
 unfold aG
 have e := cT (fun i => (noA, i)) s.Apps (fun q => q.Id == i) (fun q => .inl (q, true)) (.inr noA) (step := bD s i) (by have := h.a; omega) ?_ ?_ ?_
 ·unfold noA at e
  rw [e]
  unfold appAt noA
  cases s.Apps.find? fun q => q.Id == i <;> rfl
 ·intro k hk hp
  unfold bD
  rw [au hk, ax hk]
  simp only [cond_true, Ba, hp, cond_false]
 ·intro k hk hp
  unfold bD
  rw [au hk, ax hk]
  simp only [cond_true, Ba, hp]
 ·unfold bD
  rw [aD]
  rfl
theorem gc {α : Type} (p : α → Bool) (l : List α) : l.take (l.takeWhile p).length = l.takeWhile p ∧ l.drop (l.takeWhile p).length = l.dropWhile p := by
 induction l with
 | nil => simp
 | cons a l ih =>
  by_cases h : p a = true
  ·rw [List.takeWhile_cons_of_pos h, List.dropWhile_cons_of_pos h]; simp [ih.1, ih.2]
  ·rw [List.takeWhile_cons_of_neg h, List.dropWhile_cons_of_neg h]; simp
theorem gk {α : Type} (p : α → Bool) (l : List α) : (l.takeWhile p).length ≤ l.length := (List.takeWhile_sublist p).length_le
theorem uY {α : Type} {id : α → Int} {b : Nat} (hb : b ≤ 1000) {l : List α} (hn : l.length ≤ 1000000) {a : α} {k1 : Int} (hk : k1 = ((l.takeWhile fun x => decide (id x < id a)).length : Int)) {β : Type} (f : List α → Option β) :
  ((slc l 0 k1).bind fun x => (app b [] x).bind fun l1 => (app b l1 [a]).bind fun l2 =>
   ((bif decide (k1 < (l.length : Int)) then (idx l k1).bind fun x1 => some (id x1 == id a) else some false).bind fun q1 => bif q1 then some (w64 (k1 + 1)) else some k1).bind fun k2 =>
   (slc l k2 (l.length : Int)).bind fun l3 => (app b l2 l3).bind f) = f (putG id l a) := by
 have hle := gk (fun x => decide (id x < id a)) l
 have ht := gc (fun x => decide (id x < id a)) l
 subst hk
 unfold putG
 generalize hA : l.takeWhile (fun x => decide (id x < id a)) = A at hle ht ⊢
 have s1 : slc l 0 (A.length : Int) = some A := by
  unfold slc
  rw [if_pos ⟨by omega, by omega, by omega⟩, Int.toNat_natCast, ht.1]; rfl
 rw [s1, Ba, ay (by simp; omega) hb, Ba, List.nil_append, ay (by simp; omega) hb, Ba]
 have s2 : ∀ k : Nat, k ≤ l.length → slc l (k : Int) (l.length : Int) = some (l.drop k) := by
  intro k hk
  unfold slc
  rw [if_pos ⟨by omega, by omega, by omega⟩, Int.toNat_natCast, Int.toNat_natCast, List.take_length]
 by_cases hlt : A.length < l.length
 ·rw [decide_eq_true (by omega), ax hlt]
  simp only [cond_true, Ba]
  have hd : l.dropWhile (fun x => decide (id x < id a)) = l[A.length] :: l.drop (A.length + 1) := by rw [← ht.2, List.drop_eq_getElem_cons hlt]
  rw [hd]
  dsimp only
  by_cases he : id l[A.length] = id a
  ·rw [if_pos he, show (id l[A.length] == id a) = true by simpa using he]
   simp only [cond_true, Ba]
   rw [p9 (by omega), s2 _ hlt, Ba, ay (by simp; omega) hb, Ba]
   simp
  ·rw [if_neg he, show (id l[A.length] == id a) = false by simpa using he]
   simp only [cond_false, Ba]
   rw [s2 _ (by omega), Ba, ay (by simp; omega) hb, Ba, List.drop_eq_getElem_cons hlt]
   simp
 ·have hA2 : A.length = l.length := by omega
  rw [decide_eq_false (by omega)]
  simp only [cond_false, Ba]
  have hd : l.dropWhile (fun x => decide (id x < id a)) = [] := by rw [← ht.2, hA2, List.drop_length]
  rw [hd, s2 _ hle, Ba, hA2, List.drop_length, ay (by simp; omega) hb, Ba]
  simp
def pPutN (s : State) (n : Node) : State := ⟨s.Conf, putG (·.Id) s.Nodes n, s.Apps, s.Conts, s.Slots, s.Plans, s.Now, s.Epoch, s.Seq⟩
def pPutA (s : State) (a : App) : State := ⟨s.Conf, s.Nodes, putG (·.Id) s.Apps a, s.Conts, s.Slots, s.Plans, s.Now, s.Epoch, s.Seq⟩
theorem zU {α : Type} (l : List α) (k : Int) : idx l k = (inb k l.length).bind fun i => l[i]? := by
 unfold idx inb
 by_cases h : 0 ≤ k
 ·rw [if_pos h]
  by_cases h2 : k.toNat < l.length
  ·rw [if_pos ⟨h, h2⟩, Ba]
  ·rw [if_neg (fun x => h2 x.2), Option.bind_none, List.getElem?_eq_none (by omega)]
 ·rw [if_neg h, if_neg (fun x => h x.1)]; rfl
theorem Ax {α : Type} (l : List α) (a b : Int) : slc l a b = (inS a b l.length).bind fun p => some (sub l p.1 p.2) := by
 unfold slc inS
 by_cases h : 0 ≤ a ∧ a ≤ b ∧ b ≤ l.length
 ·rw [if_pos h, if_pos h, Ba]
  unfold sub
  rw [List.drop_take]
 ·rw [if_neg h, if_neg h]; rfl
theorem nX {s : State} (h : SSmall s) (n : Node) : dQ s n = some (pPutN s n) := by
 have hn := h.n
 have e := d8 s.Nodes (fun x => decide (x.Id < n.Id)) (step := cz s n) (by omega) ?_ ?_
 ·rw [show dQ s n = (loop (cz s n) 0).bind fun k1 =>
   (slc s.Nodes 0 k1).bind fun l =>
   (app 64 [] l).bind fun l1 =>
   (app 64 l1 [n]).bind fun l2 =>
   ((bif decide (k1 < (s.Nodes.length : Int)) then (idx s.Nodes k1).bind fun x1 => some (x1.Id == n.Id) else some false).bind fun q1 => bif q1 then some (w64 (k1 + 1)) else some k1).bind fun k2 =>
   (slc s.Nodes k2 (s.Nodes.length : Int)).bind fun l3 =>
   (app 64 l2 l3).bind fun l4 =>
   some (⟨⟨s.Conf.Labels, s.Conf.Queues⟩, l4, s.Apps, s.Conts, s.Slots, s.Plans, s.Now, s.Epoch, s.Seq⟩ : State) by
    unfold dQ
    first
     | rfl
     | simp only [Ax, zU, Option.bind_assoc, Ba]]
  rw [e, Ba]
  exact uY (id := fun x : Node => x.Id) (by omega) (by omega) rfl (fun l4 => some (⟨s.Conf, l4, s.Apps, s.Conts, s.Slots, s.Plans, s.Now, s.Epoch, s.Seq⟩ : State))
 ·intro k hk
  unfold cz
  simp only [au hk, ax hk, aH hk, Bb hk, cond_true, Ba]
  cases decide (s.Nodes[k].Id < n.Id) <;> rfl
 ·unfold cz
  rw [aD]
  rfl
theorem rQ {s : State} (hn : s.Apps.length ≤ 100000) (a : App) : aX s a = some (pPutA s a) := by
 unfold aX
 have e := d8 s.Apps (fun x => decide (x.Id < a.Id)) (step := dv s a) (by omega) ?_ ?_
 ·rw [e, Ba]
  exact uY (id := fun x : App => x.Id) (by omega) (by omega) rfl (fun l4 => some (⟨s.Conf, s.Nodes, l4, s.Conts, s.Slots, s.Plans, s.Now, s.Epoch, s.Seq⟩ : State))
 ·intro k hk
  unfold dv
  rw [au hk, ax hk]
  simp only [cond_true, Ba]
  cases decide (s.Apps[k].Id < a.Id) <;> rfl
 ·unfold dv
  rw [aD]
  rfl
theorem nI {s : State} (h : SSmall s) (a : App) : aX s a = some (pPutA s a) := rQ h.a a
end Go.Fx.D

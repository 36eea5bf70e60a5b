/-
  The reference manager: what holds of its state after every script. Conditions: none.
-/
import Derived.Test.YteodpoelbdakgaaGreatS9
namespace Go.Fx.D
open Go Go.Fx
set_option linter.unusedVariables false
set_option linter.unusedSimpArgs false
theorem pZ {α : Type} [Inhabited α] {m : Option α} (h : Gv m fun _ => True) (z : α) : m = some (m.getD z) := by
 obtain ⟨a, rfl, _⟩ := h
 rfl
theorem qP (x y : Frac) : Gv (bf x y) fun _ => True := by
 unfold bf
 repeat' (first | exact ⟨_, rfl, trivial⟩ | refine aw (fun _ => ?_) (fun _ => ?_) | refine aT (P := fun _ => True) ?_ (fun _ _ => ?_))
theorem vh (a p : Vec) : Gv (cj a p) fun _ => True := by
 unfold cj
 refine aT (qP _ _) fun _ _ => ?_
 repeat' (first | exact ⟨_, rfl, trivial⟩ | refine aw (fun _ => ?_) (fun _ => ?_))
theorem yU (a p b q : Vec) : Gv (bg a p b q) fun _ => True := by
 unfold bg
 refine aT (P := fun _ => True) ?_ fun _ _ => aw (fun _ => af trivial) (fun _ => ?_)
 ·rw [lu, lu, lu, lu]
  repeat' (first | exact ⟨_, rfl, trivial⟩ | refine aw (fun _ => ?_) (fun _ => ?_) | refine aT (P := fun _ => True) ?_ (fun _ _ => ?_))
 ·exact aT (vh _ _) fun _ _ => aT (vh _ _) fun _ _ => aT (qP _ _) fun _ _ => af trivial
def pOrder (a p b q : Vec) : Int := (bg a p b q).getD 0
theorem rZ (a p b q : Vec) : bg a p b q = some (pOrder a p b q) := pZ (yU a p b q) 0
def bF (s : State) (a b : Str) (label : Int) : Bool :=
 let o := pOrder (pUsed s a label true 0) (pDown s a label true) (pUsed s b label true 0) (pDown s b label true)
 decide (o < 0) || (o == 0 && Op.bytesLess a b)
theorem zd {s : State} (h : SC s) {a b : Str} (ha : a.length ≤ 1000000) (hb : b.length ≤ 1000000) (label : Int) : fT s a b label = some (bF s a b label) := by
 unfold fT bF
 rw [j2 h.b, Ba, me h ha, Ba, j2 h.b, Ba, me h hb, Ba, rZ, Ba]
 dsimp only
 generalize pOrder _ _ _ _ = o
 cases decide (o < 0) <;> cases (o == 0) <;> rfl
def insB {α : Type} (f : α → α → Bool) (out : List α) (x : α) : List α := (out.takeWhile fun y => !f x y) ++ x :: out.dropWhile fun y => !f x y
theorem tz {α : Type} (f : α → α → Bool) (out : List α) (x : α) : (insB f out x).length = out.length + 1 := by
 unfold insB
 have := congrArg List.length (List.takeWhile_append_dropWhile (p := fun y => !f x y) (l := out))
 rw [Bd] at this ⊢
 rw [List.length_cons]
 omega
theorem qx {α : Type} (f : α → α → Bool) (out : List α) (x : α) : (insB f out x).Perm (x :: out) := by
 unfold insB
 refine List.perm_middle.trans ?_
 rw [List.takeWhile_append_dropWhile]
theorem lZ {α : Type} {f : α → α → Bool} {out : List α} {x y : α} : y ∈ insB f out x ↔ y = x ∨ y ∈ out := by
 rw [(qx f out x).mem_iff, List.mem_cons]
def pOKids (s : State) (path : Str) (label : Int) : List Str := (pKids s.Conf path).foldl (insB fun a b => bF s a b label) []
theorem lq {α : Type} (f : α → α → Bool) : ∀ (l out : List α), (l.foldl (insB f) out).Perm (l.reverse ++ out)
 | [], out => .refl _
 | x :: l, out => by
  rw [List.foldl_cons, List.reverse_cons, List.append_assoc]
  exact (lq f l _).trans (List.Perm.append_left _ (qx f out x))
theorem jg {α : Type} (f : α → α → Bool) (l : List α) : (l.foldl (insB f) []).Perm l := by
 have := lq f l []
 rw [List.append_nil] at this
 exact this.trans l.reverse_perm
theorem fI (s : State) (path : Str) (label : Int) : (pOKids s path label).Perm (pKids s.Conf path) := jg _ _
theorem jp {c : Conf} (h : ConfOk c) {q : Queue} (hq : q ∈ c.Queues) : PathOk q.Path := by
 obtain ⟨i, hi, rfl⟩ := List.getElem_of_mem hq
 exact (h.q i hi).path
theorem xh {c : Conf} (h : ConfOk c) {p x : Str} (hx : x ∈ pKids c p) : PathOk x := by
 obtain ⟨_, q, hq, rfl, _⟩ := gv hx
 exact jp h hq
theorem sf {s : State} (h : SC s) (path : Str) (label : Int) : gg s path label = some (pOKids s path label) := by
 unfold gg
 rw [uM h.b.cf, Ba]
 have hkl := kV s.Conf path
 have hq := h.c.qs
 have e := (dN (fun (out : List Str) i => (out, i)) (pKids s.Conf path) (insB fun a b => bF s a b label) (fun k out => out.length = k ∧ ∀ y ∈ out, y.length ≤ 1000000) (fun out => out)
  (step := cX s label (pKids s.Conf path)) (by omega) ?_ ?_ (s := []) ⟨rfl, by simp⟩).1
 ·rw [e, Ba]; rfl
 ·rintro k hk out ⟨hl, hm⟩
  have hx : ((pKids s.Conf path)[k]).length ≤ 1000000 := by
   have := (xh h.c (List.getElem_mem hk)).len
   omega
  refine ⟨?_, by rw [tz, hl], fun y hy => ?_⟩
  ·unfold cX
   rw [au hk, cond_true]
   have ew := d8 out (fun y => !bF s (pKids s.Conf path)[k] y label) (step := cY s label (pKids s.Conf path) (out, (k : Int))) (by omega) ?_ ?_
   ·have htw := gk (fun y => !bF s (pKids s.Conf path)[k] y label) out
    obtain ⟨t1, t2⟩ := gc (fun y => !bF s (pKids s.Conf path)[k] y label) out
    rw [ew, Ba]
    generalize hn : (out.takeWhile fun y => !bF s (pKids s.Conf path)[k] y label).length = n at htw t1 t2 ⊢
    have hdw : (out.dropWhile fun y => !bF s (pKids s.Conf path)[k] y label).length = out.length - n := by rw [← t2, List.length_drop]
    have i1 : inS 0 (n : Int) out.length = some (0, n) := by unfold inS; rw [if_pos ⟨by omega, by omega, by omega⟩]; simp
    have i2 : inS (n : Int) (out.length : Int) out.length = some (n, out.length - n) := by unfold inS; rw [if_pos ⟨by omega, by omega, by omega⟩]; simp
    have s1 : sub out 0 n = out.takeWhile fun y => !bF s (pKids s.Conf path)[k] y label := by unfold sub; rw [List.drop_zero, t1]
    have s2 : sub out n (out.length - n) = out.dropWhile fun y => !bF s (pKids s.Conf path)[k] y label := by unfold sub; rw [List.take_of_length_le (by rw [List.length_drop]; exact Nat.le_refl _), t2]
    simp only [i1, i2, Ba, s1, s2]
    rw [ay (by simp; omega) (by omega), Ba, aH hk, Ba, Bb hk, Ba, ay (by simp; omega) (by omega), Ba,
     ay (by simp; omega) (by omega), Ba]
    simp only [List.nil_append, List.append_assoc, List.singleton_append]
    rfl
   ·intro j hj
    unfold cY
    dsimp only
    rw [au hj, cond_true, aH hk, Ba, Bb hk, Ba, aH hj, Ba, Bb hj, Ba,
     zd h hx (hm _ (List.getElem_mem hj)), Ba, Ba]
    cases bF s (pKids s.Conf path)[k] out[j] label <;> rfl
   ·unfold cY
    dsimp only
    rw [aD]
    rfl
  ·rcases lZ.1 hy with rfl | hy
   ·exact hx
   ·exact hm y hy
 ·rintro out _
  unfold cX
  rw [aD]
  rfl
def pLeavesN : Nat → State → Str → Int → List Str
 | 0, _, path, _ => [path]
 | d + 1, s, path, label => if pKids s.Conf path = [] then [path] else (pOKids s path label).flatMap fun x => pLeavesN d s x label
theorem tc {α : Type} {p : α → Bool} {x : α} : ∀ {l : List α}, x ∈ l.takeWhile p → p x = true
 | [], h => by simp at h
 | y :: l, h => by
  rw [List.takeWhile_cons] at h
  split at h
  ·rename_i hy
   rcases List.mem_cons.1 h with rfl | h
   ·exact hy
   ·exact tc h
  ·simp at h
theorem fK {x p : Str} (hp : p ≠ []) (h : aJ x = p) : x.count 46 = p.count 46 + 1 := by
 subst h
 have hd := List.takeWhile_append_dropWhile (p := fun y : UInt8 => y != 46) (l := x.reverse)
 cases he : x.reverse.dropWhile (· != 46) with
 | nil => exact absurd (by unfold aJ; rw [he]; rfl) hp
 | cons y r =>
  have hy : y = 46 := by
   have := List.head?_dropWhile_not (fun y : UInt8 => y != 46) x.reverse
   rw [he] at this
   simpa using this
  subst hy
  have h1 : (x.reverse.takeWhile fun y => y != 46).count 46 = 0 := by
   rw [List.count_eq_zero]
   intro hm
   have := tc hm
   simp at this
  have h2 : x.count 46 = x.reverse.count 46 := (List.count_reverse).symm
  rw [h2, ← hd, List.count_append, h1, he]
  unfold aJ
  rw [he]
  simp
theorem ma {s : State} (h : SC s) (label : Int) : ∀ (d n : Nat) (path : Str), 3 ≤ path.count 46 + d → d ≤ n → d ≤ 3 →
  a9 (n + 1) s path label = some (pLeavesN d s path label) ∧ (pLeavesN d s path label).length ≤ 16 ^ d := by
 intro d
 induction d with
 | zero =>
  intro n path hc _ _
  have hk : pKids s.Conf path = [] := by
   cases hk : pKids s.Conf path with
   | nil => rfl
   | cons x l =>
    have hx : x ∈ pKids s.Conf path := by rw [hk]; simp
    obtain ⟨hp, q, hq, rfl, ha⟩ := gv hx
    have h1 := fK hp ha
    have h2 := (jp h.c hq).deep
    omega
  refine ⟨?_, by simp [pLeavesN]⟩
  show bC _ s path label = _
  unfold bC
  have hp : pOKids s path label = [] := by have := fI s path label; rw [hk] at this; exact this.eq_nil
  rw [sf h, Ba, hp]
  rfl
 | succ d ih =>
  intro n path hc hn hd3
  obtain ⟨n, rfl⟩ : ∃ m, n = m + 1 := ⟨n - 1, by omega⟩
  have hperm := fI s path label
  have hlen := hperm.length_eq
  have hkl := kV s.Conf path
  have hq := h.c.qs
  have e0 : (pKids s.Conf path = []) ↔ pOKids s path label = [] := ⟨fun e => by rw [e] at hperm; exact hperm.eq_nil, fun e => by rw [e] at hperm; exact hperm.symm.eq_nil⟩
  have hkid : ∀ x ∈ pOKids s path label, a9 (n + 1) s x label = some (pLeavesN d s x label) ∧ (pLeavesN d s x label).length ≤ 16 ^ d := by
   intro x hx
   obtain ⟨hp, q, hq', rfl, ha⟩ := gv (hperm.mem_iff.1 hx)
   have h1 := fK hp ha
   exact ih n q.Path (by omega) (by omega) (by omega)
  have hfl : ∀ (l : List Str), (∀ x ∈ l, (pLeavesN d s x label).length ≤ 16 ^ d) → (l.flatMap fun x => pLeavesN d s x label).length ≤ l.length * 16 ^ d := by
   intro l
   induction l with
   | nil => intro _; simp
   | cons x l ihl =>
    intro hh
    have h1 := hh x (by simp)
    have h2 := ihl (fun y hy => hh y (by simp [hy]))
    rw [List.flatMap_cons, Bd, List.length_cons, Nat.succ_mul]
    omega
  refine ⟨?_, ?_⟩
  ·show bC (a9 (n + 1)) s path label = _
   unfold bC
   rw [sf h, Ba]
   unfold pLeavesN
   by_cases hk : pKids s.Conf path = []
   ·rw [if_pos hk, e0.1 hk]; rfl
   ·rw [if_neg hk]
    have hne : pOKids s path label ≠ [] := fun e => hk (e0.2 e)
    have hpos : 0 < (pOKids s path label).length := List.length_pos_iff.2 hne
    have e1 : (((pOKids s path label).length : Int) == 0) = false := by
     rw [beq_eq_false_iff_ne]; omega
    rw [e1, cond_false]
    have hpow : 16 ^ d ≤ 16 ^ 3 := Nat.pow_le_pow_right (by omega) (by omega)
    have e := (dN (fun (out : List Str) i => (out, i)) (pOKids s path label) (fun out x => out ++ pLeavesN d s x label) (fun k out => out.length ≤ k * 16 ^ d) (fun out => out)
     (step := bO s label (a9 (n + 1)) (pOKids s path label)) (by omega) ?_ ?_ (s := []) (by simp)).1
    ·rw [e, Ba]
     have gen : ∀ (l z : List Str), l.foldl (fun out x => out ++ pLeavesN d s x label) z = z ++ l.flatMap fun x => pLeavesN d s x label := by
      intro l
      induction l with
      | nil => intro z; simp
      | cons x l ihl => intro z; rw [List.foldl_cons, ihl, List.flatMap_cons, List.append_assoc]
     rw [gen]
     rfl
    ·intro k hk out ho
     obtain ⟨k1, k2⟩ := hkid _ (List.getElem_mem hk)
     have hmul : k * 16 ^ d ≤ 16 * 16 ^ 3 := Nat.mul_le_mul (by omega) hpow
     refine ⟨?_, by rw [Bd, Nat.succ_mul]; omega⟩
     unfold bO
     rw [au hk, cond_true]
     dsimp only
     rw [aH hk, Ba, Bb hk, Ba, k1, Ba, ay (by omega) (by omega), Ba]
    ·intro out _
     unfold bO
     rw [aD]
     rfl
  ·unfold pLeavesN
   split
   ·simp; exact Nat.one_le_pow _ _ (by omega)
   ·have := hfl _ (fun x hx => (hkid x hx).2)
    have h2 : (pOKids s path label).length * 16 ^ d ≤ 16 * 16 ^ d := Nat.mul_le_mul_right _ (by omega)
    rw [Nat.pow_succ, Nat.mul_comm (16 ^ d)]
    omega
def bc (s : State) (label : Int) : List Str := pLeavesN 3 s root label
theorem kQ {s : State} (h : SC s) (label : Int) : fj s label = some (bc s label) := by
 unfold fj iT
 rw [(ma h label 3 63 root (by decide) (by omega) (by omega)).1]
 rfl
theorem pB {s : State} (h : SC s) (label : Int) : (bc s label).length ≤ 4096 := (ma h label 3 63 root (by decide) (by omega) (by omega)).2
theorem rq {s : State} (h : SC s) (label : Int) : ∀ (d : Nat) (path : Str), 3 ≤ path.count 46 + d → (pFind s.Conf path).isSome = true → ∀ x ∈ pLeavesN d s path label, pLeaf s.Conf x = true := by
 intro d
 induction d with
 | zero =>
  intro path hc hf x hx
  have hx : x = path := by simpa [pLeavesN] using hx
  subst hx
  have hk : pKids s.Conf x = [] := by
   cases hk : pKids s.Conf x with
   | nil => rfl
   | cons y l =>
    have hy : y ∈ pKids s.Conf x := by rw [hk]; simp
    obtain ⟨hp, q, hq, rfl, ha⟩ := gv hy
    have h1 := fK hp ha
    have h2 := (jp h.c hq).deep
    omega
  unfold pLeaf
  rw [hf, hk]
  rfl
 | succ d ih =>
  intro path hc hf x hx
  unfold pLeavesN at hx
  split at hx
  ·rename_i hk
   have hx : x = path := by simpa using hx
   subst hx
   unfold pLeaf
   rw [hf, hk]
   rfl
  ·obtain ⟨y, hy, hx⟩ := List.mem_flatMap.1 hx
   obtain ⟨hp, q, hq, rfl, ha⟩ := gv ((fI s path label).mem_iff.1 hy)
   have h1 := fK hp ha
   obtain ⟨q', e, _⟩ := tQ hq
   exact ih q.Path (by omega) (by rw [e]; rfl) x hx
theorem pE {c : Conf} (h : ConfOk c) : (pFind c root).isSome = true := by
 obtain ⟨q, h1, h2, _⟩ := h.root
 have hq : q ∈ c.Queues := List.mem_of_getElem? h1
 obtain ⟨q', e, _⟩ := tQ hq
 rw [← h2, e]; rfl
theorem tW {s : State} (h : SC s) (label : Int) {x : Str} (hx : x ∈ bc s label) : pLeaf s.Conf x = true := rq h label 3 root (by decide) (pE h.c) x hx
theorem qH {c : Conf} (h : ConfOk c) {x : Str} (hx : pLeaf c x = true) : PathOk x := by
 unfold pLeaf at hx
 simp only [Bool.and_eq_true] at hx
 cases hf : pFind c x with
 | none => rw [hf] at hx; simp at hx
 | some q =>
  obtain ⟨h1, h2⟩ := f_ hf
  rw [← h2]
  exact jp h h1
def pLive (a : App) : Bool := a.State == 1 || a.State == 2
def lw (out : List App) (x : App) : List App := insB (fun x y => !decide (y.Prio ≥ x.Prio)) out x
def fa (s : State) (queue : Str) : List App := (s.Apps.filter fun a => pLive a && a.Queue == queue).foldl lw []
def pApps (s : State) (queue : Str) : List Int := (fa s queue).map (·.Id)
theorem lj (s : State) (queue : Str) : (fa s queue).Perm (s.Apps.filter fun a => pLive a && a.Queue == queue) := jg _ _
theorem j3 (a : App) : a6 a = some (pLive a) := by
 unfold a6 pLive
 cases a.State == 1 <;> rfl
theorem mv {α β : Type} (p : α → Bool) (f : β → α → β) : ∀ (l : List α) (z : β), l.foldl (fun s x => if p x = true then f s x else s) z = (l.filter p).foldl f z
 | [], z => rfl
 | x :: l, z => by
  rw [List.foldl_cons, mv p f l, List.filter_cons]
  split <;> rfl
theorem nY {s : State} (h : SSmall s) (queue : Str) : d7 s queue = some (pApps s queue) := by
 unfold d7
 have hn := h.a
 have e := (dN (fun (out : List App) i => (out, i)) s.Apps (fun out x => if (pLive x && x.Queue == queue) = true then lw out x else out) (fun k out => out.length ≤ k) (fun out => out)
  (step := c7 s queue) (by omega) ?_ ?_ (s := []) (by simp))
 ·obtain ⟨e, hl⟩ := e
  rw [mv] at e hl
  rw [e, Ba]
  have e2 := dL (fun (l : List Int) i => (l, i)) (fa s queue) (fun _ => true) (·.Id) (step := bJ (fa s queue)) (by unfold fa; omega) ?_ ?_
  ·show (loop (bJ (fa s queue)) ([], 0)).bind _ = _
   rw [e2]
   rw [List.filter_eq_self.2 (by simp)]
   rfl
  ·intro k hk l hl2
   have : (fa s queue).length ≤ 100000 := by unfold fa; omega
   unfold bJ
   rw [au hk, cond_true]
   dsimp only
   rw [aH hk, Ba, Bb hk, Ba, ay (by simp; omega) (by omega)]
   rfl
  ·intro l
   unfold bJ
   rw [aD]
   rfl
 ·intro k hk out ho
  unfold c7
  rw [au hk, cond_true]
  dsimp only
  rw [ax hk, Ba, j3, Ba]
  generalize hx : s.Apps[k] = x
  have hq : (bif !pLive x then some true else some (!(x.Queue == queue))) = some (!(pLive x && x.Queue == queue)) := by cases pLive x <;> rfl
  rw [hq, Ba]
  cases hp : (pLive x && x.Queue == queue) with
  | false =>
   refine ⟨?_, by simp; omega⟩
   simp
  | true =>
   refine ⟨?_, by simp only [if_true]; unfold lw; rw [tz]; omega⟩
   simp only [Bool.not_true, cond_false, if_true]
   have ew := d8 out (fun y => !(!decide (y.Prio ≥ x.Prio))) (step := cZ (out, (k : Int)) x) (by omega) ?_ ?_
   ·obtain ⟨t1, t2⟩ := gc (fun y : App => !(!decide (y.Prio ≥ x.Prio))) out
    have htw := gk (fun y : App => !(!decide (y.Prio ≥ x.Prio))) out
    rw [ew, Ba]
    generalize hn : (out.takeWhile fun y : App => !(!decide (y.Prio ≥ x.Prio))).length = n at htw t1 t2 ⊢
    have hdw : (out.dropWhile fun y : App => !(!decide (y.Prio ≥ x.Prio))).length = out.length - n := by rw [← t2, List.length_drop]
    have i1 : inS 0 (n : Int) out.length = some (0, n) := by unfold inS; rw [if_pos ⟨by omega, by omega, by omega⟩]; simp
    have i2 : inS (n : Int) (out.length : Int) out.length = some (n, out.length - n) := by unfold inS; rw [if_pos ⟨by omega, by omega, by omega⟩]; simp
    have s1 : sub out 0 n = out.takeWhile fun y : App => !(!decide (y.Prio ≥ x.Prio)) := by unfold sub; rw [List.drop_zero, t1]
    have s2 : sub out n (out.length - n) = out.dropWhile fun y : App => !(!decide (y.Prio ≥ x.Prio)) := by unfold sub; rw [List.take_of_length_le (by rw [List.length_drop]; exact Nat.le_refl _), t2]
    simp only [i1, i2, Ba, s1, s2]
    rw [ay (by simp only [Bd, List.length_nil, List.length_cons, List.nil_append]; omega) (by omega), Ba, ay (by simp only [Bd, List.length_nil, List.length_cons, List.nil_append]; omega) (by omega), Ba, ay (by simp only [Bd, List.length_nil, List.length_cons, List.nil_append]; omega) (by omega), Ba]
    simp only [List.nil_append, List.append_assoc, List.singleton_append]
    rfl
   ·intro j hj
    unfold cZ
    dsimp only
    rw [au hj, cond_true, aH hj, Ba, Bb hj, Ba, Ba]
    cases decide (out[j].Prio ≥ x.Prio) <;> rfl
   ·unfold cZ
    dsimp only
    rw [aD]
    rfl
 ·intro out _
  unfold c7
  rw [aD]
  rfl
theorem sx {s : State} {queue : Str} {i : Int} (h : i ∈ pApps s queue) : ∃ a ∈ s.Apps, a.Id = i ∧ pLive a = true ∧ a.Queue = queue := by
 unfold pApps at h
 obtain ⟨a, ha, rfl⟩ := List.mem_map.1 h
 have := List.mem_filter.1 ((lj s queue).mem_iff.1 ha)
 simp only [Bool.and_eq_true, beq_iff_eq] at this
 exact ⟨a, this.1, rfl, this.2.1, this.2.2⟩
theorem rP {s : State} (queue : Str) : (pApps s queue).length ≤ s.Apps.length := by
 unfold pApps
 rw [List.length_map, (lj s queue).length_eq]
 exact List.length_filter_le _ _
end Go.Fx.D

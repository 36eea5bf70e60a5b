/-
  The reference manager: what holds of its state after every script. Conditions: none.
-/
import Derived.Test.YteodpoelbdakgaaGreatS9
namespace Go.Fx.D
open Go Go.Fx
set_option linter.unusedVariables false
set_option linter.unusedSimpArgs false
theorem uj {α : Type} [Inhabited α] {m : Option α} (h : Gv m fun _ => True) (z : α) : m = some (m.getD z) := by
 obtain ⟨a, rfl, _⟩ := h
 rfl
theorem uQ (x y : Frac) : Gv (bi x y) fun _ => True := by
 unfold bi
 repeat' (first | exact ⟨_, rfl, trivial⟩ | refine ae (fun _ => ?_) (fun _ => ?_) | refine ad (P := fun _ => True) ?_ (fun _ _ => ?_))
theorem yo (a p : Vec) : Gv (bR a p) fun _ => True := by
 unfold bR
 refine ad (uQ _ _) fun _ _ => ?_
 repeat' (first | exact ⟨_, rfl, trivial⟩ | refine ae (fun _ => ?_) (fun _ => ?_))
theorem CJ (a p b q : Vec) : Gv (bk a p b q) fun _ => True := by
 unfold bk
 refine ad (P := fun _ => True) ?_ fun _ _ => ae (fun _ => aa trivial) (fun _ => ?_)
 ·rw [po, po, po, po]
  repeat' (first | exact ⟨_, rfl, trivial⟩ | refine ae (fun _ => ?_) (fun _ => ?_) | refine ad (P := fun _ => True) ?_ (fun _ _ => ?_))
 ·exact ad (yo _ _) fun _ _ => ad (yo _ _) fun _ _ => ad (uQ _ _) fun _ _ => aa trivial
def pOrder (a p b q : Vec) : Int := (bk a p b q).getD 0
theorem xi (a p b q : Vec) : bk a p b q = some (pOrder a p b q) := uj (CJ a p b q) 0
def eQ (s : State) (a b : Str) (label : Int) : Bool :=
 let o := pOrder (pUsed s a label true 0) (pDown s a label true) (pUsed s b label true 0) (pDown s b label true)
 decide (o < 0) || (o == 0 && Op.bytesLess a b)
theorem Dp {s : State} (h : SC s) {a b : Str} (ha : a.length ≤ 1000000) (hb : b.length ≤ 1000000) (label : Int) : ie s a b label = some (eQ s a b label) := by
 unfold ie eQ
 rw [k7 h.b, FX, m7 h ha, FX, k7 h.b, FX, m7 h hb, FX, xi, FX]
 dsimp only
 generalize pOrder _ _ _ _ = o
 cases decide (o < 0) <;> cases (o == 0) <;> rfl
def insB {α : Type} (f : α → α → Bool) (out : List α) (x : α) : List α := (out.takeWhile fun y => !f x y) ++ x :: out.dropWhile fun y => !f x y
theorem wi {α : Type} (f : α → α → Bool) (out : List α) (x : α) : (insB f out x).length = out.length + 1 := by
 unfold insB
 have := congrArg List.length (List.takeWhile_append_dropWhile (p := fun y => !f x y) (l := out))
 rw [F0] at this ⊢
 rw [List.length_cons]
 omega
theorem uP {α : Type} (f : α → α → Bool) (out : List α) (x : α) : (insB f out x).Perm (x :: out) := by
 unfold insB
 refine List.perm_middle.trans ?_
 rw [List.takeWhile_append_dropWhile]
theorem qi {α : Type} {f : α → α → Bool} {out : List α} {x y : α} : y ∈ insB f out x ↔ y = x ∨ y ∈ out := by
 rw [(uP f out x).mem_iff, List.mem_cons]
def pOKids (s : State) (path : Str) (label : Int) : List Str := (pKids s.Conf path).foldl (insB fun a b => eQ s a b label) []
theorem pz {α : Type} (f : α → α → Bool) : ∀ (l out : List α), (l.foldl (insB f) out).Perm (l.reverse ++ out)
 | [], out => .refl _
 | x :: l, out => by
  rw [List.foldl_cons, List.reverse_cons, List.append_assoc]
  exact (pz f l _).trans (List.Perm.append_left _ (uP f out x))
theorem mY {α : Type} (f : α → α → Bool) (l : List α) : (l.foldl (insB f) []).Perm l := by
 have := pz f l []
 rw [List.append_nil] at this
 exact this.trans l.reverse_perm
theorem ke (s : State) (path : Str) (label : Int) : (pOKids s path label).Perm (pKids s.Conf path) := mY _ _
theorem kx {c : Conf} (h : ConfOk c) {q : Queue} (hq : q ∈ c.Queues) : PathOk q.Path := by
 obtain ⟨i, hi, rfl⟩ := List.getElem_of_mem hq
 exact (h.q i hi).path
theorem Bg {c : Conf} (h : ConfOk c) {p x : Str} (hx : x ∈ pKids c p) : PathOk x := by
 obtain ⟨_, q, hq, rfl, _⟩ := eJ hx
 exact kx h hq
theorem wl {s : State} (h : SC s) (path : Str) (label : Int) : iM s path label = some (pOKids s path label) := by
 unfold iM
 rw [nZ h.b.cf, FX]
 have hkl := kG s.Conf path
 have hq := h.c.qs
 have e := (de (fun (out : List Str) i => (out, i)) (pKids s.Conf path) (insB fun a b => eQ s a b label) (fun k out => out.length = k ∧ ∀ y ∈ out, y.length ≤ 1000000) (fun out => out)
  (step := fB s label (pKids s.Conf path)) (by omega) ?_ ?_ (s := []) ⟨rfl, by simp⟩).1
 ·rw [e, FX]; rfl
 ·rintro k hk out ⟨hl, hm⟩
  have hx : ((pKids s.Conf path)[k]).length ≤ 1000000 := by
   have := (Bg h.c (List.getElem_mem hk)).len
   omega
  refine ⟨?_, by rw [wi, hl], fun y hy => ?_⟩
  ·unfold fB
   rw [ah hk, cond_true]
   have ew := gu out (fun y => !eQ s (pKids s.Conf path)[k] y label) (step := ff s label (pKids s.Conf path) (out, (k : Int))) (by omega) ?_ ?_
   ·have htw := jx (fun y => !eQ s (pKids s.Conf path)[k] y label) out
    obtain ⟨t1, t2⟩ := kF (fun y => !eQ s (pKids s.Conf path)[k] y label) out
    rw [ew, FX]
    generalize hn : (out.takeWhile fun y => !eQ s (pKids s.Conf path)[k] y label).length = n at htw t1 t2 ⊢
    have hdw : (out.dropWhile fun y => !eQ s (pKids s.Conf path)[k] y label).length = out.length - n := by rw [← t2, List.length_drop]
    have i1 : inS 0 (n : Int) out.length = some (0, n) := by unfold inS; rw [if_pos ⟨by omega, by omega, by omega⟩]; simp
    have i2 : inS (n : Int) (out.length : Int) out.length = some (n, out.length - n) := by unfold inS; rw [if_pos ⟨by omega, by omega, by omega⟩]; simp
    have s1 : sub out 0 n = out.takeWhile fun y => !eQ s (pKids s.Conf path)[k] y label := by unfold sub; rw [List.drop_zero, t1]
    have s2 : sub out n (out.length - n) = out.dropWhile fun y => !eQ s (pKids s.Conf path)[k] y label := by unfold sub; rw [List.take_of_length_le (by rw [List.length_drop]; exact Nat.le_refl _), t2]
    simp only [i1, i2, FX, s1, s2]
    rw [ai (by simp; omega) (by omega), FX, aA hk, FX, FY hk, FX, ai (by simp; omega) (by omega), FX,
     ai (by simp; omega) (by omega), FX]
    simp only [List.nil_append, List.append_assoc, List.singleton_append]
    rfl
   ·intro j hj
    unfold ff
    dsimp only
    rw [ah hj, cond_true, aA hk, FX, FY hk, FX, aA hj, FX, FY hj, FX,
     Dp h hx (hm _ (List.getElem_mem hj)), FX, FX]
    cases eQ s (pKids s.Conf path)[k] out[j] label <;> rfl
   ·unfold ff
    dsimp only
    rw [ao]
    rfl
  ·rcases qi.1 hy with rfl | hy
   ·exact hx
   ·exact hm y hy
 ·rintro out _
  unfold fB
  rw [ao]
  rfl
def pLeavesN : Nat → State → Str → Int → List Str
 | 0, _, path, _ => [path]
 | d + 1, s, path, label => if pKids s.Conf path = [] then [path] else (pOKids s path label).flatMap fun x => pLeavesN d s x label
theorem wP {α : Type} {p : α → Bool} {x : α} : ∀ {l : List α}, x ∈ l.takeWhile p → p x = true
 | [], h => by simp at h
 | y :: l, h => by
  rw [List.takeWhile_cons] at h
  split at h
  ·rename_i hy
   rcases List.mem_cons.1 h with rfl | h
   ·exact hy
   ·exact wP h
  ·simp at h
theorem gM {x p : Str} (hp : p ≠ []) (h : aN x = p) : x.count 46 = p.count 46 + 1 := by
 subst h
 have hd := List.takeWhile_append_dropWhile (p := fun y : UInt8 => y != 46) (l := x.reverse)
 cases he : x.reverse.dropWhile (· != 46) with
 | nil => exact absurd (by unfold aN; rw [he]; rfl) hp
 | cons y r =>
  have hy : y = 46 := by
   have := List.head?_dropWhile_not (fun y : UInt8 => y != 46) x.reverse
   rw [he] at this
   simpa using this
  subst hy
  have h1 : (x.reverse.takeWhile fun y => y != 46).count 46 = 0 := by
   rw [List.count_eq_zero]
   intro hm
   have := wP hm
   simp at this
  have h2 : x.count 46 = x.reverse.count 46 := (List.count_reverse).symm
  rw [h2, ← hd, List.count_append, h1, he]
  unfold aN
  rw [he]
  simp
theorem qd {s : State} (h : SC s) (label : Int) : ∀ (d n : Nat) (path : Str), 3 ≤ path.count 46 + d → d ≤ n → d ≤ 3 →
  a_ (n + 1) s path label = some (pLeavesN d s path label) ∧ (pLeavesN d s path label).length ≤ 16 ^ d := by
 intro d
 induction d with
 | zero =>
  intro n path hc _ _
  have hk : pKids s.Conf path = [] := by
   cases hk : pKids s.Conf path with
   | nil => rfl
   | cons x l =>
    have hx : x ∈ pKids s.Conf path := by rw [hk]; simp
    obtain ⟨hp, q, hq, rfl, ha⟩ := eJ hx
    have h1 := gM hp ha
    have h2 := (kx h.c hq).deep
    omega
  refine ⟨?_, by simp [pLeavesN]⟩
  show bY _ s path label = _
  unfold bY
  have hp : pOKids s path label = [] := by have := ke s path label; rw [hk] at this; exact this.eq_nil
  rw [wl h, FX, hp]
  rfl
 | succ d ih =>
  intro n path hc hn hd3
  obtain ⟨n, rfl⟩ : ∃ m, n = m + 1 := ⟨n - 1, by omega⟩
  have hperm := ke s path label
  have hlen := hperm.length_eq
  have hkl := kG s.Conf path
  have hq := h.c.qs
  have e0 : (pKids s.Conf path = []) ↔ pOKids s path label = [] := ⟨fun e => by rw [e] at hperm; exact hperm.eq_nil, fun e => by rw [e] at hperm; exact hperm.symm.eq_nil⟩
  have hkid : ∀ x ∈ pOKids s path label, a_ (n + 1) s x label = some (pLeavesN d s x label) ∧ (pLeavesN d s x label).length ≤ 16 ^ d := by
   intro x hx
   obtain ⟨hp, q, hq', rfl, ha⟩ := eJ (hperm.mem_iff.1 hx)
   have h1 := gM hp ha
   exact ih n q.Path (by omega) (by omega) (by omega)
  have hfl : ∀ (l : List Str), (∀ x ∈ l, (pLeavesN d s x label).length ≤ 16 ^ d) → (l.flatMap fun x => pLeavesN d s x label).length ≤ l.length * 16 ^ d := by
   intro l
   induction l with
   | nil => intro _; simp
   | cons x l ihl =>
    intro hh
    have h1 := hh x (by simp)
    have h2 := ihl (fun y hy => hh y (by simp [hy]))
    rw [List.flatMap_cons, F0, List.length_cons, Nat.succ_mul]
    omega
  refine ⟨?_, ?_⟩
  ·show bY (a_ (n + 1)) s path label = _
   unfold bY
   rw [wl h, FX]
   unfold pLeavesN
   by_cases hk : pKids s.Conf path = []
   ·rw [if_pos hk, e0.1 hk]; rfl
   ·rw [if_neg hk]
    have hne : pOKids s path label ≠ [] := fun e => hk (e0.2 e)
    have hpos : 0 < (pOKids s path label).length := List.length_pos_iff.2 hne
    have e1 : (((pOKids s path label).length : Int) == 0) = false := by
     rw [beq_eq_false_iff_ne]; omega
    rw [e1, cond_false]
    have hpow : 16 ^ d ≤ 16 ^ 3 := Nat.pow_le_pow_right (by omega) (by omega)
    have e := (de (fun (out : List Str) i => (out, i)) (pOKids s path label) (fun out x => out ++ pLeavesN d s x label) (fun k out => out.length ≤ k * 16 ^ d) (fun out => out)
     (step := cJ s label (a_ (n + 1)) (pOKids s path label)) (by omega) ?_ ?_ (s := []) (by simp)).1
    ·rw [e, FX]
     have gen : ∀ (l z : List Str), l.foldl (fun out x => out ++ pLeavesN d s x label) z = z ++ l.flatMap fun x => pLeavesN d s x label := by
      intro l
      induction l with
      | nil => intro z; simp
      | cons x l ihl => intro z; rw [List.foldl_cons, ihl, List.flatMap_cons, List.append_assoc]
     rw [gen]
     rfl
    ·intro k hk out ho
     obtain ⟨k1, k2⟩ := hkid _ (List.getElem_mem hk)
     have hmul : k * 16 ^ d ≤ 16 * 16 ^ 3 := Nat.mul_le_mul (by omega) hpow
     refine ⟨?_, by rw [F0, Nat.succ_mul]; omega⟩
     unfold cJ
     rw [ah hk, cond_true]
     dsimp only
     rw [aA hk, FX, FY hk, FX, k1, FX, ai (by omega) (by omega), FX]
    ·intro out _
     unfold cJ
     rw [ao]
     rfl
  ·unfold pLeavesN
   split
   ·simp; exact Nat.one_le_pow _ _ (by omega)
   ·have := hfl _ (fun x hx => (hkid x hx).2)
    have h2 : (pOKids s path label).length * 16 ^ d ≤ 16 * 16 ^ d := Nat.mul_le_mul_right _ (by omega)
    rw [Nat.pow_succ, Nat.mul_comm (16 ^ d)]
    omega
def cy (s : State) (label : Int) : List Str := pLeavesN 3 s root label
theorem qI {s : State} (h : SC s) (label : Int) : gF s label = some (cy s label) := by
 unfold gF jJ
 rw [(qd h label 3 63 root (by decide) (by omega) (by omega)).1]
 rfl
theorem sV {s : State} (h : SC s) (label : Int) : (cy s label).length ≤ 4096 := (qd h label 3 63 root (by decide) (by omega) (by omega)).2
theorem vK {s : State} (h : SC s) (label : Int) : ∀ (d : Nat) (path : Str), 3 ≤ path.count 46 + d → (pFind s.Conf path).isSome = true → ∀ x ∈ pLeavesN d s path label, pLeaf s.Conf x = true := by
 intro d
 induction d with
 | zero =>
  intro path hc hf x hx
  have hx : x = path := by simpa [pLeavesN] using hx
  subst hx
  have hk : pKids s.Conf x = [] := by
   cases hk : pKids s.Conf x with
   | nil => rfl
   | cons y l =>
    have hy : y ∈ pKids s.Conf x := by rw [hk]; simp
    obtain ⟨hp, q, hq, rfl, ha⟩ := eJ hy
    have h1 := gM hp ha
    have h2 := (kx h.c hq).deep
    omega
  unfold pLeaf
  rw [hf, hk]
  rfl
 | succ d ih =>
  intro path hc hf x hx
  unfold pLeavesN at hx
  split at hx
  ·rename_i hk
   have hx : x = path := by simpa using hx
   subst hx
   unfold pLeaf
   rw [hf, hk]
   rfl
  ·obtain ⟨y, hy, hx⟩ := List.mem_flatMap.1 hx
   obtain ⟨hp, q, hq, rfl, ha⟩ := eJ ((ke s path label).mem_iff.1 hy)
   have h1 := gM hp ha
   obtain ⟨q', e, _⟩ := oi hq
   exact ih q.Path (by omega) (by rw [e]; rfl) x hx
theorem p8 {c : Conf} (h : ConfOk c) : (pFind c root).isSome = true := by
 obtain ⟨q, h1, h2, _⟩ := h.root
 have hq : q ∈ c.Queues := List.mem_of_getElem? h1
 obtain ⟨q', e, _⟩ := oi hq
 rw [← h2, e]; rfl
theorem xO {s : State} (h : SC s) (label : Int) {x : Str} (hx : x ∈ cy s label) : pLeaf s.Conf x = true := vK h label 3 root (by decide) (p8 h.c) x hx
theorem qu {c : Conf} (h : ConfOk c) {x : Str} (hx : pLeaf c x = true) : PathOk x := by
 unfold pLeaf at hx
 simp only [Bool.and_eq_true] at hx
 cases hf : pFind c x with
 | none => rw [hf] at hx; simp at hx
 | some q =>
  obtain ⟨h1, h2⟩ := kJ hf
  rw [← h2]
  exact kx h h1
def pLive (a : App) : Bool := a.State == 1 || a.State == 2
def pN (out : List App) (x : App) : List App := insB (fun x y => !decide (y.Prio ≥ x.Prio)) out x
def kC (s : State) (queue : Str) : List App := (s.Apps.filter fun a => pLive a && a.Queue == queue).foldl pN []
def pApps (s : State) (queue : Str) : List Int := (kC s queue).map (·.Id)
theorem pd (s : State) (queue : Str) : (kC s queue).Perm (s.Apps.filter fun a => pLive a && a.Queue == queue) := mY _ _
theorem kc (a : App) : aP a = some (pLive a) := by
 unfold aP pLive
 cases a.State == 1 <;> rfl
theorem qr {α β : Type} (p : α → Bool) (f : β → α → β) : ∀ (l : List α) (z : β), l.foldl (fun s x => if p x = true then f s x else s) z = (l.filter p).foldl f z
 | [], z => rfl
 | x :: l, z => by
  rw [List.foldl_cons, qr p f l, List.filter_cons]
  split <;> rfl
theorem ug {s : State} (h : SSmall s) (queue : Str) : eR s queue = some (pApps s queue) := by
 unfold eR
 have hn := h.a
 have e := (de (fun (out : List App) i => (out, i)) s.Apps (fun out x => if (pLive x && x.Queue == queue) = true then pN out x else out) (fun k out => out.length ≤ k) (fun out => out)
  (step := eS s queue) (by omega) ?_ ?_ (s := []) (by simp))
 ·obtain ⟨e, hl⟩ := e
  rw [qr] at e hl
  rw [e, FX]
  have e2 := aZ (fun (l : List Int) i => (l, i)) (kC s queue) (fun _ => true) (·.Id) (step := cE (kC s queue)) (by unfold kC; omega) ?_ ?_
  ·show (loop (cE (kC s queue)) ([], 0)).bind _ = _
   rw [e2]
   rw [List.filter_eq_self.2 (by simp)]
   rfl
  ·intro k hk l hl2
   have : (kC s queue).length ≤ 100000 := by unfold kC; omega
   unfold cE
   rw [ah hk, cond_true]
   dsimp only
   rw [aA hk, FX, FY hk, FX, ai (by simp; omega) (by omega)]
   rfl
  ·intro l
   unfold cE
   rw [ao]
   rfl
 ·intro k hk out ho
  unfold eS
  rw [ah hk, cond_true]
  dsimp only
  rw [aj hk, FX, kc, FX]
  generalize hx : s.Apps[k] = x
  have hq : (bif !pLive x then some true else some (!(x.Queue == queue))) = some (!(pLive x && x.Queue == queue)) := by cases pLive x <;> rfl
  rw [hq, FX]
  cases hp : (pLive x && x.Queue == queue) with
  | false =>
   refine ⟨?_, by simp; omega⟩
   simp
  | true =>
   refine ⟨?_, by simp only [if_true]; unfold pN; rw [wi]; omega⟩
   simp only [Bool.not_true, cond_false, if_true]
   have ew := gu out (fun y => !(!decide (y.Prio ≥ x.Prio))) (step := fC (out, (k : Int)) x) (by omega) ?_ ?_
   ·obtain ⟨t1, t2⟩ := kF (fun y : App => !(!decide (y.Prio ≥ x.Prio))) out
    have htw := jx (fun y : App => !(!decide (y.Prio ≥ x.Prio))) out
    rw [ew, FX]
    generalize hn : (out.takeWhile fun y : App => !(!decide (y.Prio ≥ x.Prio))).length = n at htw t1 t2 ⊢
    have hdw : (out.dropWhile fun y : App => !(!decide (y.Prio ≥ x.Prio))).length = out.length - n := by rw [← t2, List.length_drop]
    have i1 : inS 0 (n : Int) out.length = some (0, n) := by unfold inS; rw [if_pos ⟨by omega, by omega, by omega⟩]; simp
    have i2 : inS (n : Int) (out.length : Int) out.length = some (n, out.length - n) := by unfold inS; rw [if_pos ⟨by omega, by omega, by omega⟩]; simp
    have s1 : sub out 0 n = out.takeWhile fun y : App => !(!decide (y.Prio ≥ x.Prio)) := by unfold sub; rw [List.drop_zero, t1]
    have s2 : sub out n (out.length - n) = out.dropWhile fun y : App => !(!decide (y.Prio ≥ x.Prio)) := by unfold sub; rw [List.take_of_length_le (by rw [List.length_drop]; exact Nat.le_refl _), t2]
    simp only [i1, i2, FX, s1, s2]
    rw [ai (by simp only [F0, List.length_nil, List.length_cons, List.nil_append]; omega) (by omega), FX, ai (by simp only [F0, List.length_nil, List.length_cons, List.nil_append]; omega) (by omega), FX, ai (by simp only [F0, List.length_nil, List.length_cons, List.nil_append]; omega) (by omega), FX]
    simp only [List.nil_append, List.append_assoc, List.singleton_append]
    rfl
   ·intro j hj
    unfold fC
    dsimp only
    rw [ah hj, cond_true, aA hj, FX, FY hj, FX, FX]
    cases decide (out[j].Prio ≥ x.Prio) <;> rfl
   ·unfold fC
    dsimp only
    rw [ao]
    rfl
 ·intro out _
  unfold eS
  rw [ao]
  rfl
theorem wL {s : State} {queue : Str} {i : Int} (h : i ∈ pApps s queue) : ∃ a ∈ s.Apps, a.Id = i ∧ pLive a = true ∧ a.Queue = queue := by
 unfold pApps at h
 obtain ⟨a, ha, rfl⟩ := List.mem_map.1 h
 have := List.mem_filter.1 ((pd s queue).mem_iff.1 ha)
 simp only [Bool.and_eq_true, beq_iff_eq] at this
 exact ⟨a, this.1, rfl, this.2.1, this.2.2⟩
theorem wR {s : State} (queue : Str) : (pApps s queue).length ≤ s.Apps.length := by
 unfold pApps
 rw [List.length_map, (pd s queue).length_eq]
 exact List.length_filter_le _ _
end Go.Fx.D

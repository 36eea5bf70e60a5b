/-
  The reference manager: what holds of its state after every script. Conditions: none.
-/
import Derived.Test.YteodpoelbdakgaaGreatS9
/-
  Chapter 12: the order of queues and applications, as plain functions.
-/
namespace Go.Fx.D
open Go Go.Fx
set_option linter.unusedVariables false
set_option linter.unusedSimpArgs false

theorem gv_get0 {α : Type} [Inhabited α] {m : Option α} (h : Gv m fun _ => True) (z : α) : m = some (m.getD z) := by
  obtain ⟨a, rfl, _⟩ := h
  rfl

theorem order1_gv (x y : Frac) : Gv (dispatchref1_order x y) fun _ => True := by
  unfold dispatchref1_order
  repeat' (first | exact ⟨_, rfl, trivial⟩ | refine gv_cond (fun _ => ?_) (fun _ => ?_) | refine gv_bind (P := fun _ => True) ?_ (fun _ _ => ?_))
theorem load_gv (a p : Vec) : Gv (dispatchref1_load a p) fun _ => True := by
  unfold dispatchref1_load
  refine gv_bind (order1_gv _ _) fun _ _ => ?_
  repeat' (first | exact ⟨_, rfl, trivial⟩ | refine gv_cond (fun _ => ?_) (fun _ => ?_))
theorem Order_gv (a p b q : Vec) : Gv (dispatchref1_Order a p b q) fun _ => True := by
  unfold dispatchref1_Order
  refine gv_bind (P := fun _ => True) ?_ fun _ _ => gv_cond (fun _ => gv_some trivial) (fun _ => ?_)
  · rw [may_eq, may_eq, may_eq, may_eq]
    repeat' (first | exact ⟨_, rfl, trivial⟩ | refine gv_cond (fun _ => ?_) (fun _ => ?_) | refine gv_bind (P := fun _ => True) ?_ (fun _ _ => ?_))
  · exact gv_bind (load_gv _ _) fun _ _ => gv_bind (load_gv _ _) fun _ _ => gv_bind (order1_gv _ _) fun _ _ => gv_some trivial
def pOrder (a p b q : Vec) : Int := (dispatchref1_Order a p b q).getD 0
theorem Order_eq (a p b q : Vec) : dispatchref1_Order a p b q = some (pOrder a p b q) := gv_get0 (Order_gv a p b q) 0

def pAhead (s : State) (a b : Str) (label : Int) : Bool :=
  let o := pOrder (pUsed s a label true 0) (pDown s a label true) (pUsed s b label true 0) (pDown s b label true)
  decide (o < 0) || (o == 0 && Op.bytesLess a b)
theorem ahead_eq {s : State} (h : SC s) {a b : Str} (ha : a.length ≤ 1000000) (hb : b.length ≤ 1000000) (label : Int) : dispatchref12_ahead s a b label = some (pAhead s a b label) := by
  unfold dispatchref12_ahead pAhead
  rw [Used_eq h.b, Option.bind_some, Least_eq h ha, Option.bind_some, Used_eq h.b, Option.bind_some, Least_eq h hb, Option.bind_some, Order_eq, Option.bind_some]
  dsimp only
  generalize pOrder _ _ _ _ = o
  cases decide (o < 0) <;> cases (o == 0) <;> rfl

/-- an element ahead of the first that it is ahead of -/
def insB {α : Type} (f : α → α → Bool) (out : List α) (x : α) : List α := (out.takeWhile fun y => !f x y) ++ x :: out.dropWhile fun y => !f x y
theorem insB_len {α : Type} (f : α → α → Bool) (out : List α) (x : α) : (insB f out x).length = out.length + 1 := by
  unfold insB
  have := congrArg List.length (List.takeWhile_append_dropWhile (p := fun y => !f x y) (l := out))
  rw [List.length_append] at this ⊢
  rw [List.length_cons]
  omega
theorem insB_perm {α : Type} (f : α → α → Bool) (out : List α) (x : α) : (insB f out x).Perm (x :: out) := by
  unfold insB
  refine List.perm_middle.trans ?_
  rw [List.takeWhile_append_dropWhile]
theorem insB_mem {α : Type} {f : α → α → Bool} {out : List α} {x y : α} : y ∈ insB f out x ↔ y = x ∨ y ∈ out := by
  rw [(insB_perm f out x).mem_iff, List.mem_cons]

def pOKids (s : State) (path : Str) (label : Int) : List Str := (pKids s.Conf path).foldl (insB fun a b => pAhead s a b label) []
theorem insB_fold_perm {α : Type} (f : α → α → Bool) : ∀ (l out : List α), (l.foldl (insB f) out).Perm (l.reverse ++ out)
  | [], out => .refl _
  | x :: l, out => by
    rw [List.foldl_cons, List.reverse_cons, List.append_assoc]
    exact (insB_fold_perm f l _).trans (List.Perm.append_left _ (insB_perm f out x))
theorem insB_sort_perm {α : Type} (f : α → α → Bool) (l : List α) : (l.foldl (insB f) []).Perm l := by
  have := insB_fold_perm f l []
  rw [List.append_nil] at this
  exact this.trans l.reverse_perm
theorem pOKids_perm (s : State) (path : Str) (label : Int) : (pOKids s path label).Perm (pKids s.Conf path) := insB_sort_perm _ _

theorem path_len {c : Conf} (h : ConfOk c) {q : Queue} (hq : q ∈ c.Queues) : PathOk q.Path := by
  obtain ⟨i, hi, rfl⟩ := List.getElem_of_mem hq
  exact (h.q i hi).path
theorem kid_ok {c : Conf} (h : ConfOk c) {p x : Str} (hx : x ∈ pKids c p) : PathOk x := by
  obtain ⟨_, q, hq, rfl, _⟩ := pKids_mem hx
  exact path_len h hq

theorem okids_eq {s : State} (h : SC s) (path : Str) (label : Int) : dispatchref12_Kids s path label = some (pOKids s path label) := by
  unfold dispatchref12_Kids
  rw [kids_eq h.b.cf, Option.bind_some]
  have hkl := pKids_len s.Conf path
  have hq := h.c.qs
  have e := (loop_fold (fun (out : List Str) i => (out, i)) (pKids s.Conf path) (insB fun a b => pAhead s a b label) (fun k out => out.length = k ∧ ∀ y ∈ out, y.length ≤ 1000000) (fun out => out)
    (step := dispatchref12_Kids_l1 s label (pKids s.Conf path)) (by omega) ?_ ?_ (s := []) ⟨rfl, by simp⟩).1
  · rw [e, Option.bind_some]; rfl
  · rintro k hk out ⟨hl, hm⟩
    have hx : ((pKids s.Conf path)[k]).length ≤ 1000000 := by
      have := (kid_ok h.c (List.getElem_mem hk)).len
      omega
    refine ⟨?_, by rw [insB_len, hl], fun y hy => ?_⟩
    · unfold dispatchref12_Kids_l1
      rw [dlt_t hk, cond_true]
      have ew := loop_while out (fun y => !pAhead s (pKids s.Conf path)[k] y label) (step := dispatchref12_Kids_l2 s label (pKids s.Conf path) (out, (k : Int))) (by omega) ?_ ?_
      · have htw := takeWhile_le (fun y => !pAhead s (pKids s.Conf path)[k] y label) out
        obtain ⟨t1, t2⟩ := takeWhile_at (fun y => !pAhead s (pKids s.Conf path)[k] y label) out
        rw [ew, Option.bind_some]
        generalize hn : (out.takeWhile fun y => !pAhead s (pKids s.Conf path)[k] y label).length = n at htw t1 t2 ⊢
        have hdw : (out.dropWhile fun y => !pAhead s (pKids s.Conf path)[k] y label).length = out.length - n := by rw [← t2, List.length_drop]
        have i1 : inS 0 (n : Int) out.length = some (0, n) := by unfold inS; rw [if_pos ⟨by omega, by omega, by omega⟩]; simp
        have i2 : inS (n : Int) (out.length : Int) out.length = some (n, out.length - n) := by unfold inS; rw [if_pos ⟨by omega, by omega, by omega⟩]; simp
        have s1 : sub out 0 n = out.takeWhile fun y => !pAhead s (pKids s.Conf path)[k] y label := by unfold sub; rw [List.drop_zero, t1]
        have s2 : sub out n (out.length - n) = out.dropWhile fun y => !pAhead s (pKids s.Conf path)[k] y label := by unfold sub; rw [List.take_of_length_le (by rw [List.length_drop]; exact Nat.le_refl _), t2]
        simp only [i1, i2, Option.bind_some, s1, s2]
        rw [app_some (by simp; omega) (by omega), Option.bind_some, inb_at hk, Option.bind_some, List.getElem?_eq_getElem hk, Option.bind_some, app_some (by simp; omega) (by omega), Option.bind_some,
          app_some (by simp; omega) (by omega), Option.bind_some]
        simp only [List.nil_append, List.append_assoc, List.singleton_append]
        rfl
      · intro j hj
        unfold dispatchref12_Kids_l2
        dsimp only
        rw [dlt_t hj, cond_true, inb_at hk, Option.bind_some, List.getElem?_eq_getElem hk, Option.bind_some, inb_at hj, Option.bind_some, List.getElem?_eq_getElem hj, Option.bind_some,
          ahead_eq h hx (hm _ (List.getElem_mem hj)), Option.bind_some, Option.bind_some]
        cases pAhead s (pKids s.Conf path)[k] out[j] label <;> rfl
      · unfold dispatchref12_Kids_l2
        dsimp only
        rw [dlt_f]
        rfl
    · rcases insB_mem.1 hy with rfl | hy
      · exact hx
      · exact hm y hy
  · rintro out _
    unfold dispatchref12_Kids_l1
    rw [dlt_f]
    rfl

/-! leaves -/
def pLeavesN : Nat → State → Str → Int → List Str
  | 0, _, path, _ => [path]
  | d + 1, s, path, label => if pKids s.Conf path = [] then [path] else (pOKids s path label).flatMap fun x => pLeavesN d s x label
theorem tw_imp {α : Type} {p : α → Bool} {x : α} : ∀ {l : List α}, x ∈ l.takeWhile p → p x = true
  | [], h => by simp at h
  | y :: l, h => by
    rw [List.takeWhile_cons] at h
    split at h
    · rename_i hy
      rcases List.mem_cons.1 h with rfl | h
      · exact hy
      · exact tw_imp h
    · simp at h
theorem above_count {x p : Str} (hp : p ≠ []) (h : pAbove x = p) : x.count 46 = p.count 46 + 1 := by
  subst h
  have hd := List.takeWhile_append_dropWhile (p := fun y : UInt8 => y != 46) (l := x.reverse)
  cases he : x.reverse.dropWhile (· != 46) with
  | nil => exact absurd (by unfold pAbove; rw [he]; rfl) hp
  | cons y r =>
    have hy : y = 46 := by
      have := List.head?_dropWhile_not (fun y : UInt8 => y != 46) x.reverse
      rw [he] at this
      simpa using this
    subst hy
    have h1 : (x.reverse.takeWhile fun y => y != 46).count 46 = 0 := by
      rw [List.count_eq_zero]
      intro hm
      have := tw_imp hm
      simp at this
    have h2 : x.count 46 = x.reverse.count 46 := (List.count_reverse).symm
    rw [h2, ← hd, List.count_append, h1, he]
    unfold pAbove
    rw [he]
    simp
theorem leaves_eqN {s : State} (h : SC s) (label : Int) : ∀ (d n : Nat) (path : Str), 3 ≤ path.count 46 + d → d ≤ n → d ≤ 3 →
    dispatchref12_leaves_r (n + 1) s path label = some (pLeavesN d s path label) ∧ (pLeavesN d s path label).length ≤ 16 ^ d := by
  intro d
  induction d with
  | zero =>
    intro n path hc _ _
    have hk : pKids s.Conf path = [] := by
      cases hk : pKids s.Conf path with
      | nil => rfl
      | cons x l =>
        have hx : x ∈ pKids s.Conf path := by rw [hk]; simp
        obtain ⟨hp, q, hq, rfl, ha⟩ := pKids_mem hx
        have h1 := above_count hp ha
        have h2 := (path_len h.c hq).deep
        omega
    refine ⟨?_, by simp [pLeavesN]⟩
    show dispatchref12_leaves_s _ s path label = _
    unfold dispatchref12_leaves_s
    have hp : pOKids s path label = [] := by have := pOKids_perm s path label; rw [hk] at this; exact this.eq_nil
    rw [okids_eq h, Option.bind_some, hp]
    rfl
  | succ d ih =>
    intro n path hc hn hd3
    obtain ⟨n, rfl⟩ : ∃ m, n = m + 1 := ⟨n - 1, by omega⟩
    have hperm := pOKids_perm s path label
    have hlen := hperm.length_eq
    have hkl := pKids_len s.Conf path
    have hq := h.c.qs
    have e0 : (pKids s.Conf path = []) ↔ pOKids s path label = [] := ⟨fun e => by rw [e] at hperm; exact hperm.eq_nil, fun e => by rw [e] at hperm; exact hperm.symm.eq_nil⟩
    have hkid : ∀ x ∈ pOKids s path label, dispatchref12_leaves_r (n + 1) s x label = some (pLeavesN d s x label) ∧ (pLeavesN d s x label).length ≤ 16 ^ d := by
      intro x hx
      obtain ⟨hp, q, hq', rfl, ha⟩ := pKids_mem (hperm.mem_iff.1 hx)
      have h1 := above_count hp ha
      exact ih n q.Path (by omega) (by omega) (by omega)
    have hfl : ∀ (l : List Str), (∀ x ∈ l, (pLeavesN d s x label).length ≤ 16 ^ d) → (l.flatMap fun x => pLeavesN d s x label).length ≤ l.length * 16 ^ d := by
      intro l
      induction l with
      | nil => intro _; simp
      | cons x l ihl =>
        intro hh
        have h1 := hh x (by simp)
        have h2 := ihl (fun y hy => hh y (by simp [hy]))
        rw [List.flatMap_cons, List.length_append, List.length_cons, Nat.succ_mul]
        omega
    refine ⟨?_, ?_⟩
    · show dispatchref12_leaves_s (dispatchref12_leaves_r (n + 1)) s path label = _
      unfold dispatchref12_leaves_s
      rw [okids_eq h, Option.bind_some]
      unfold pLeavesN
      by_cases hk : pKids s.Conf path = []
      · rw [if_pos hk, e0.1 hk]; rfl
      · rw [if_neg hk]
        have hne : pOKids s path label ≠ [] := fun e => hk (e0.2 e)
        have hpos : 0 < (pOKids s path label).length := List.length_pos_iff.2 hne
        have e1 : (((pOKids s path label).length : Int) == 0) = false := by
          rw [beq_eq_false_iff_ne]; omega
        rw [e1, cond_false]
        have hpow : 16 ^ d ≤ 16 ^ 3 := Nat.pow_le_pow_right (by omega) (by omega)
        have e := (loop_fold (fun (out : List Str) i => (out, i)) (pOKids s path label) (fun out x => out ++ pLeavesN d s x label) (fun k out => out.length ≤ k * 16 ^ d) (fun out => out)
          (step := dispatchref12_leaves_s_l1 s label (dispatchref12_leaves_r (n + 1)) (pOKids s path label)) (by omega) ?_ ?_ (s := []) (by simp)).1
        · rw [e, Option.bind_some]
          have gen : ∀ (l z : List Str), l.foldl (fun out x => out ++ pLeavesN d s x label) z = z ++ l.flatMap fun x => pLeavesN d s x label := by
            intro l
            induction l with
            | nil => intro z; simp
            | cons x l ihl => intro z; rw [List.foldl_cons, ihl, List.flatMap_cons, List.append_assoc]
          rw [gen]
          rfl
        · intro k hk out ho
          obtain ⟨k1, k2⟩ := hkid _ (List.getElem_mem hk)
          have hmul : k * 16 ^ d ≤ 16 * 16 ^ 3 := Nat.mul_le_mul (by omega) hpow
          refine ⟨?_, by rw [List.length_append, Nat.succ_mul]; omega⟩
          unfold dispatchref12_leaves_s_l1
          rw [dlt_t hk, cond_true]
          dsimp only
          rw [inb_at hk, Option.bind_some, List.getElem?_eq_getElem hk, Option.bind_some, k1, Option.bind_some, app_some (by omega) (by omega), Option.bind_some]
        · intro out _
          unfold dispatchref12_leaves_s_l1
          rw [dlt_f]
          rfl
    · unfold pLeavesN
      split
      · simp; exact Nat.one_le_pow _ _ (by omega)
      · have := hfl _ (fun x hx => (hkid x hx).2)
        have h2 : (pOKids s path label).length * 16 ^ d ≤ 16 * 16 ^ d := Nat.mul_le_mul_right _ (by omega)
        rw [Nat.pow_succ, Nat.mul_comm (16 ^ d)]
        omega

def pLeaves (s : State) (label : Int) : List Str := pLeavesN 3 s root label
theorem Leaves_eq {s : State} (h : SC s) (label : Int) : dispatchref12_Leaves s label = some (pLeaves s label) := by
  unfold dispatchref12_Leaves dispatchref12_leaves
  rw [(leaves_eqN h label 3 63 root (by decide) (by omega) (by omega)).1]
  rfl
theorem Leaves_len {s : State} (h : SC s) (label : Int) : (pLeaves s label).length ≤ 4096 := (leaves_eqN h label 3 63 root (by decide) (by omega) (by omega)).2

theorem pLeavesN_leaf {s : State} (h : SC s) (label : Int) : ∀ (d : Nat) (path : Str), 3 ≤ path.count 46 + d → (pFind s.Conf path).isSome = true → ∀ x ∈ pLeavesN d s path label, pLeaf s.Conf x = true := by
  intro d
  induction d with
  | zero =>
    intro path hc hf x hx
    have hx : x = path := by simpa [pLeavesN] using hx
    subst hx
    have hk : pKids s.Conf x = [] := by
      cases hk : pKids s.Conf x with
      | nil => rfl
      | cons y l =>
        have hy : y ∈ pKids s.Conf x := by rw [hk]; simp
        obtain ⟨hp, q, hq, rfl, ha⟩ := pKids_mem hy
        have h1 := above_count hp ha
        have h2 := (path_len h.c hq).deep
        omega
    unfold pLeaf
    rw [hf, hk]
    rfl
  | succ d ih =>
    intro path hc hf x hx
    unfold pLeavesN at hx
    split at hx
    · rename_i hk
      have hx : x = path := by simpa using hx
      subst hx
      unfold pLeaf
      rw [hf, hk]
      rfl
    · obtain ⟨y, hy, hx⟩ := List.mem_flatMap.1 hx
      obtain ⟨hp, q, hq, rfl, ha⟩ := pKids_mem ((pOKids_perm s path label).mem_iff.1 hy)
      have h1 := above_count hp ha
      obtain ⟨q', e, _⟩ := pFind_of hq
      exact ih q.Path (by omega) (by rw [e]; rfl) x hx
theorem root_found {c : Conf} (h : ConfOk c) : (pFind c root).isSome = true := by
  obtain ⟨q, h1, h2, _⟩ := h.root
  have hq : q ∈ c.Queues := List.mem_of_getElem? h1
  obtain ⟨q', e, _⟩ := pFind_of hq
  rw [← h2, e]; rfl
theorem Leaves_leaf {s : State} (h : SC s) (label : Int) {x : Str} (hx : x ∈ pLeaves s label) : pLeaf s.Conf x = true := pLeavesN_leaf h label 3 root (by decide) (root_found h.c) x hx
theorem leaf_path {c : Conf} (h : ConfOk c) {x : Str} (hx : pLeaf c x = true) : PathOk x := by
  unfold pLeaf at hx
  simp only [Bool.and_eq_true] at hx
  cases hf : pFind c x with
  | none => rw [hf] at hx; simp at hx
  | some q =>
    obtain ⟨h1, h2⟩ := pFind_mem hf
    rw [← h2]
    exact path_len h h1

/-! applications -/
def pLive (a : App) : Bool := a.State == 1 || a.State == 2
def appPut (out : List App) (x : App) : List App := insB (fun x y => !decide (y.Prio ≥ x.Prio)) out x
def pAppsA (s : State) (queue : Str) : List App := (s.Apps.filter fun a => pLive a && a.Queue == queue).foldl appPut []
def pApps (s : State) (queue : Str) : List Int := (pAppsA s queue).map (·.Id)
theorem pAppsA_perm (s : State) (queue : Str) : (pAppsA s queue).Perm (s.Apps.filter fun a => pLive a && a.Queue == queue) := insB_sort_perm _ _
theorem Live_eq (a : App) : dispatchref10_Live a = some (pLive a) := by
  unfold dispatchref10_Live pLive
  cases a.State == 1 <;> rfl
theorem foldl_filter2 {α β : Type} (p : α → Bool) (f : β → α → β) : ∀ (l : List α) (z : β), l.foldl (fun s x => if p x = true then f s x else s) z = (l.filter p).foldl f z
  | [], z => rfl
  | x :: l, z => by
    rw [List.foldl_cons, foldl_filter2 p f l, List.filter_cons]
    split <;> rfl
theorem Apps_eq {s : State} (h : SSmall s) (queue : Str) : dispatchref12_Apps s queue = some (pApps s queue) := by
  unfold dispatchref12_Apps
  have hn := h.a
  have e := (loop_fold (fun (out : List App) i => (out, i)) s.Apps (fun out x => if (pLive x && x.Queue == queue) = true then appPut out x else out) (fun k out => out.length ≤ k) (fun out => out)
    (step := dispatchref12_Apps_l1 s queue) (by omega) ?_ ?_ (s := []) (by simp))
  · obtain ⟨e, hl⟩ := e
    rw [foldl_filter2] at e hl
    rw [e, Option.bind_some]
    have e2 := loop_filter (fun (l : List Int) i => (l, i)) (pAppsA s queue) (fun _ => true) (·.Id) (step := dispatchref12_Apps_l3 (pAppsA s queue)) (by unfold pAppsA; omega) ?_ ?_
    · show (loop (dispatchref12_Apps_l3 (pAppsA s queue)) ([], 0)).bind _ = _
      rw [e2]
      rw [List.filter_eq_self.2 (by simp)]
      rfl
    · intro k hk l hl2
      have : (pAppsA s queue).length ≤ 100000 := by unfold pAppsA; omega
      unfold dispatchref12_Apps_l3
      rw [dlt_t hk, cond_true]
      dsimp only
      rw [inb_at hk, Option.bind_some, List.getElem?_eq_getElem hk, Option.bind_some, app_some (by simp; omega) (by omega)]
      rfl
    · intro l
      unfold dispatchref12_Apps_l3
      rw [dlt_f]
      rfl
  · intro k hk out ho
    unfold dispatchref12_Apps_l1
    rw [dlt_t hk, cond_true]
    dsimp only
    rw [idx_at hk, Option.bind_some, Live_eq, Option.bind_some]
    generalize hx : s.Apps[k] = x
    have hq : (bif !pLive x then some true else some (!(x.Queue == queue))) = some (!(pLive x && x.Queue == queue)) := by cases pLive x <;> rfl
    rw [hq, Option.bind_some]
    cases hp : (pLive x && x.Queue == queue) with
    | false =>
      refine ⟨?_, by simp; omega⟩
      simp
    | true =>
      refine ⟨?_, by simp only [if_true]; unfold appPut; rw [insB_len]; omega⟩
      simp only [Bool.not_true, cond_false, if_true]
      have ew := loop_while out (fun y => !(!decide (y.Prio ≥ x.Prio))) (step := dispatchref12_Apps_l2 (out, (k : Int)) x) (by omega) ?_ ?_
      · obtain ⟨t1, t2⟩ := takeWhile_at (fun y : App => !(!decide (y.Prio ≥ x.Prio))) out
        have htw := takeWhile_le (fun y : App => !(!decide (y.Prio ≥ x.Prio))) out
        rw [ew, Option.bind_some]
        generalize hn : (out.takeWhile fun y : App => !(!decide (y.Prio ≥ x.Prio))).length = n at htw t1 t2 ⊢
        have hdw : (out.dropWhile fun y : App => !(!decide (y.Prio ≥ x.Prio))).length = out.length - n := by rw [← t2, List.length_drop]
        have i1 : inS 0 (n : Int) out.length = some (0, n) := by unfold inS; rw [if_pos ⟨by omega, by omega, by omega⟩]; simp
        have i2 : inS (n : Int) (out.length : Int) out.length = some (n, out.length - n) := by unfold inS; rw [if_pos ⟨by omega, by omega, by omega⟩]; simp
        have s1 : sub out 0 n = out.takeWhile fun y : App => !(!decide (y.Prio ≥ x.Prio)) := by unfold sub; rw [List.drop_zero, t1]
        have s2 : sub out n (out.length - n) = out.dropWhile fun y : App => !(!decide (y.Prio ≥ x.Prio)) := by unfold sub; rw [List.take_of_length_le (by rw [List.length_drop]; exact Nat.le_refl _), t2]
        simp only [i1, i2, Option.bind_some, s1, s2]
        rw [app_some (by simp only [List.length_append, List.length_nil, List.length_cons, List.nil_append]; omega) (by omega), Option.bind_some, app_some (by simp only [List.length_append, List.length_nil, List.length_cons, List.nil_append]; omega) (by omega), Option.bind_some, app_some (by simp only [List.length_append, List.length_nil, List.length_cons, List.nil_append]; omega) (by omega), Option.bind_some]
        simp only [List.nil_append, List.append_assoc, List.singleton_append]
        rfl
      · intro j hj
        unfold dispatchref12_Apps_l2
        dsimp only
        rw [dlt_t hj, cond_true, inb_at hj, Option.bind_some, List.getElem?_eq_getElem hj, Option.bind_some, Option.bind_some]
        cases decide (out[j].Prio ≥ x.Prio) <;> rfl
      · unfold dispatchref12_Apps_l2
        dsimp only
        rw [dlt_f]
        rfl
  · intro out _
    unfold dispatchref12_Apps_l1
    rw [dlt_f]
    rfl
theorem Apps_mem {s : State} {queue : Str} {i : Int} (h : i ∈ pApps s queue) : ∃ a ∈ s.Apps, a.Id = i ∧ pLive a = true ∧ a.Queue = queue := by
  unfold pApps at h
  obtain ⟨a, ha, rfl⟩ := List.mem_map.1 h
  have := List.mem_filter.1 ((pAppsA_perm s queue).mem_iff.1 ha)
  simp only [Bool.and_eq_true, beq_iff_eq] at this
  exact ⟨a, this.1, rfl, this.2.1, this.2.2⟩
theorem Apps_len {s : State} (queue : Str) : (pApps s queue).length ≤ s.Apps.length := by
  unfold pApps
  rw [List.length_map, (pAppsA_perm s queue).length_eq]
  exact List.length_filter_le _ _
end Go.Fx.D

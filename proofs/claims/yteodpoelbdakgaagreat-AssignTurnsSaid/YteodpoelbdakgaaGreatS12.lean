/-
  The reference manager: what holds of its state after every script. Conditions: none.
-/
import Derived.Test.YteodpoelbdakgaaGreatS11
namespace Go.Fx.D
open Go Go.Fx
set_option linter.unusedVariables false
set_option linter.unusedSimpArgs false
def mz (a : App) : Ask := ⟨0, 0, ⟨a.Master.Mem, a.Master.Cores⟩, 1, -1, -1, 0⟩
theorem wK {c : Conf} (hc : ConfOk c) {a : App} (h : SzOk a.Master) : AskOk c (mz a) := ⟨by have := hc.lab; show 0 ≤ (0 : Int) ∧ (0 : Int) < c.Labels.length; omega, h, by show 1 ≤ (1 : Int) ∧ (1 : Int) ≤ 50; omega⟩
theorem pj {s : State} {i : Int} {n : Node} (h : cQ s i = some n) : n ∈ s.Nodes ∧ n.Id = i := fh h
theorem oM (n : Int) : di n = some (decide (0 ≤ n) && decide (n ≤ 1073741824)) := by
 unfold di
 by_cases h : n ≥ 0
 ·rw [decide_eq_true h]; rfl
 ·rw [decide_eq_false h]; rfl
theorem tY {N : Nat} {s : State} (h : Inv N s) (n : Node) : Gv (aI s n) fun r => Inv N r.1 := by
 unfold aI
 refine aT (P := fun b => b = false → VB 1073741824 n.Cap ∧ 0 ≤ n.Label ∧ n.Label < s.Conf.Labels.length) ?_ ?_
 ·refine aw (fun _ => af (by simp)) fun _ => aw (fun _ => af (by simp)) fun _ => aw (fun _ => af (by simp)) fun h1 => aw (fun _ => af (by simp)) fun h2 =>
   aw (fun _ => af (by simp)) fun _ => aw (fun _ => af (by simp)) fun _ => ?_
  rw [oM, Ba]
  refine aw (fun _ => af (by simp)) fun h3 => ?_
  rw [oM, Ba]
  refine af fun h4 => ?_
  simp only [decide_eq_false_iff_not, Bool.not_eq_false', Bool.and_eq_true, decide_eq_true_eq] at h1 h2 h3 h4
  exact ⟨⟨h3, h4⟩, by omega, by omega⟩
 ·intro b hb
  refine aw (fun _ => af h) fun hbf => ?_
  have hb := hb hbf
  rw [eC h.z, Ba]
  cases hn : cQ s n.Id with
  | none =>
   simp only [Option.elim, cond_false, Ba, Bool.not_false, cond_true]
   refine aw (fun _ => af h) fun hlen => ?_
   rw [nX h.z, Ba]
   simp only [decide_eq_false_iff_not] at hlen
   exact af (h.putN (.inr (by omega)) hb)
  | some m =>
   obtain ⟨hm, hid⟩ := pj hn
   simp only [Option.elim, cond_true, Ba, Bool.not_true, cond_false]
   refine aw (fun _ => af h) fun _ => ?_
   rw [nX h.z, Ba]
   exact af (h.putN (.inl ⟨m, hm, hid⟩) hb)
theorem js (p : App → Bool) : ∀ (l z : List App) (d : Bool), l.foldl (fun (t : List App × Bool) x => if (!t.2 && p x) = true then (t.1, true) else (t.1 ++ [x], t.2)) (z, d) = (z ++ (if d = true then l else l.eraseP p), d || l.any p)
 | [], z, d => by cases d <;> simp
 | x :: l, z, d => by
  rw [List.foldl_cons]
  cases d with
  | true =>
   rw [if_neg (by simp), js p l]
   simp
  | false =>
   cases hp : p x with
   | true =>
    rw [if_pos (by simp), js p l]
    simp [hp]
   | false =>
    rw [if_neg (by simp), js p l]
    simp [hp]
theorem qw {s : State} (h : SSmall s) : dA s = some ⟨s.Conf, s.Nodes, s.Apps.eraseP fun a => !pLive a, s.Conts, s.Slots, s.Plans, s.Now, s.Epoch, s.Seq⟩ := by
 unfold dA
 have hn := h.a
 have e := (dN (fun (t : List App × Bool) i => (t.1, t.2, i)) s.Apps (fun (t : List App × Bool) x => if (!t.2 && !pLive x) = true then (t.1, true) else (t.1 ++ [x], t.2)) (fun k t => t.1.length ≤ k) (fun t => t.1)
  (step := cp s) (by omega) ?_ ?_ (s := ([], false)) (by simp)).1
 ·rw [e, js (fun a => !pLive a), Ba]
  simp
 ·rintro k hk ⟨l, d⟩ hl
  dsimp only at hl ⊢
  refine ⟨?_, by split <;> (try simp) <;> omega⟩
  unfold cp
  dsimp only
  rw [au hk, cond_true, ax hk, Ba, j3, Ba]
  cases d <;> cases pLive s.Apps[k] <;>
   simp [ay (b := 200) (l := l) (m := [s.Apps[k]]) (by simp; omega) (by omega)]
 ·rintro ⟨l, d⟩ _
  unfold cp
  dsimp only
  rw [aD]
  rfl
theorem Inv.forget {N : Nat} {s : State} (h : Inv N s) : Inv N ⟨s.Conf, s.Nodes, s.Apps.eraseP fun a => !pLive a, s.Conts, s.Slots, s.Plans, s.Now, s.Epoch, s.Seq⟩ := by
 have hs : (s.Apps.eraseP fun a => !pLive a).Sublist s.Apps := List.eraseP_sublist
 refine ⟨h.cf, h.nl, h.ns, h.nk, Nat.le_trans hs.length_le h.al, h.asr.sublist hs, fun a ha => h.ak a (hs.subset ha), h.cl, h.cs, fun c hc => ?_, h.ss, h.sk, h.pl, h.ps, h.pk, h.now, h.ep, h.sq, h.en⟩
 have := h.ck c hc
 refine ⟨this.size, ?_, this.label, this.id⟩
 obtain ⟨a, ha, e1, e2⟩ := this.app
 refine ⟨a, ?_, e1, e2⟩
 exact (List.mem_eraseP_of_neg (by unfold pLive; simp [e2])).2 ha
theorem qT (n : Int) : cN n = some (decide (1 ≤ n) && decide (n ≤ 1073741824)) := by
 unfold cN
 by_cases h : n ≥ 1
 ·rw [decide_eq_true h]; rfl
 ·rw [decide_eq_false h]; rfl
theorem oq {s : State} (h : SSmall s) : loop (bo s) (0, 0) = some ((s.Apps.filter pLive).length : Int) := by
 have hn := h.a
 have e := (dN (fun (t : Int) i => (t, i)) s.Apps (fun t x => if pLive x = true then t + 1 else t) (fun k t => 0 ≤ t ∧ t ≤ k) (fun t => t) (step := bo s) (by omega) ?_ ?_ (s := 0) (by simp)).1
 ·rw [e]
  have gen : ∀ (l : List App) (z : Int), l.foldl (fun t x => if pLive x = true then t + 1 else t) z = z + ((l.filter pLive).length : Int) := by
   intro l
   induction l with
   | nil => intro z; simp
   | cons x l ih =>
    intro z
    rw [List.foldl_cons, ih, List.filter_cons]
    split
    ·simp; omega
    ·rfl
  rw [gen, Int.zero_add]
 ·intro k hk t ht
  refine ⟨?_, by split <;> omega⟩
  unfold bo
  dsimp only
  rw [au hk, cond_true, ax hk, Ba, j3, Ba]
  cases pLive s.Apps[k]
  ·rfl
  ·simp only [cond_true, Ba, if_true]
   rw [aB (x := t + 1) (by omega) (by omega)]
 ·intro t _
  unfold bo
  rw [aD]
  rfl
theorem w7 {N : Nat} {s : State} (h : Inv N s) (a : App) (hu : 0 ≤ a.User ∧ a.User ≤ 2) : Gv (bm s a) fun r => Inv N r.1 := by
 unfold bm
 refine aT (P := fun b => b = false → SzOk a.Master) ?_ ?_
 ·refine aw (fun _ => af (by simp)) fun _ => aw (fun _ => af (by simp)) fun _ => aw (fun _ => af (by simp)) fun h1 => aw (fun _ => af (by simp)) fun h2 =>
   aw (fun _ => af (by simp)) fun _ => aw (fun _ => af (by simp)) fun _ => ?_
  rw [qT, Ba]
  refine aw (fun _ => af (by simp)) fun h3 => ?_
  rw [qT, Ba]
  refine af fun h4 => ?_
  simp only [Bool.not_eq_false', Bool.and_eq_true, decide_eq_true_eq] at h3 h4
  exact ⟨h3, h4⟩
 ·intro b hb
  refine aw (fun _ => af h) fun hbf => ?_
  have hb := hb hbf
  rw [bb h.z, Ba]
  cases hn : appAt s a.Id with
  | some m => exact af h
  | none =>
   have hno := oK hn
   simp only [Option.elim, cond_false]
   rw [oq h.z, Ba]
   refine aw (fun _ => af h) fun hlv => ?_
   rw [uU h.cf.small, Ba]
   refine aw (fun _ => af h) fun hleaf => ?_
   have hleaf : pLeaf s.Conf a.Queue = true := by simpa using hleaf
   simp only [decide_eq_false_iff_not] at hlv
   refine aT (P := fun t => Inv N t ∧ t.Apps.length < 16 ∧ (∀ x ∈ t.Apps, x ∈ s.Apps) ∧ t.Conf = s.Conf) ?_ ?_
   ·refine aw (fun hge => ?_) fun hlt => ?_
    ·rw [qw h.z, Ba]
     refine af ⟨h.forget, ?_, fun x hx => List.eraseP_sublist.subset hx, rfl⟩
     have hex : ∃ x ∈ s.Apps, (!pLive x) = true := by
      apply Classical.byContradiction
      intro hne
      have : s.Apps.filter pLive = s.Apps := List.filter_eq_self.2 fun x hx => by
       cases hp : pLive x with
       | true => rfl
       | false => exact absurd ⟨x, hx, by rw [hp]; rfl⟩ hne
      rw [this] at hlv
      simp only [decide_eq_true_eq] at hge
      omega
     obtain ⟨x, hx, hp⟩ := hex
     have hl := List.length_eraseP_of_mem (p := fun a => !pLive a) hx hp
     have h2 := h.al
     show (s.Apps.eraseP _).length < 16
     have hpos := List.length_pos_of_mem hx
     omega
    ·simp only [decide_eq_false_iff_not] at hlt
     exact af ⟨h, by omega, fun x hx => hx, rfl⟩
   ·rintro t ⟨ht, htl, hts, htc⟩
    show Gv ((some [mz a]).bind _) _
    rw [Ba, nI ht.z, Ba]
    refine af ?_
    have hno' : ∀ x ∈ t.Apps, x.Id ≠ a.Id := fun x hx => hno x (hts x hx)
    have hok : AppOk N t.Conf ⟨a.Id, 1, a.Queue, a.User, a.Prio, ⟨a.Master.Mem, a.Master.Cores⟩, [mz a], t.Now, 0, [], [], [], []⟩ :=
     ⟨by dsimp only; omega, hu, qH h.cf hleaf, fun _ => by rw [htc]; exact hleaf, hb, by simp, fun x hx => by
      have : x = mz a := by simpa using hx
      subst this
      exact wK ht.cf hb, by simp, by simp, by simp, by simp, by simp⟩
    refine ⟨ht.cf, ht.nl, ht.ns, ht.nk, ?_, fQ ht.asr, ?_, ht.cl, ht.cs, ?_, ht.ss, ht.sk, ht.pl, ht.ps, ht.pk, ht.now, ht.ep, ht.sq, ht.en⟩
    ·have := (kz (id := fun x : App => x.Id) (l := t.Apps) (a := ⟨a.Id, 1, a.Queue, a.User, a.Prio, ⟨a.Master.Mem, a.Master.Cores⟩, [mz a], t.Now, 0, [], [], [], []⟩)).1
     show (putG _ _ _).length ≤ 16
     omega
    ·intro x hx
     rcases (bd ht.asr).1 hx with rfl | ⟨hx, _⟩
     ·exact hok
     ·exact ht.ak x hx
    ·intro c hc
     have := ht.ck c hc
     refine ⟨this.size, ?_, this.label, this.id⟩
     obtain ⟨b, hb, e1, e2⟩ := this.app
     exact ⟨b, (bd ht.asr).2 (.inr ⟨hb, hno' b hb⟩), e1, e2⟩
end Go.Fx.D

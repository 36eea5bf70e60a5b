/-
  The reference manager: what holds of its state after every script. Conditions: none.
-/
import Derived.Test.YteodpoelbdakgaaGreatS11
namespace Go.Fx.D
open Go Go.Fx
set_option linter.unusedVariables false
set_option linter.unusedSimpArgs false
def jX (a : App) : Ask := ⟨0, 0, ⟨a.Master.Mem, a.Master.Cores⟩, 1, -1, -1, 0⟩
theorem u4 {c : Conf} (hc : ConfOk c) {a : App} (h : SzOk a.Master) : AskOk c (jX a) := ⟨by have := hc.lab; show 0 ≤ (0 : Int) ∧ (0 : Int) < c.Labels.length; omega, h, by show 1 ≤ (1 : Int) ∧ (1 : Int) ≤ 50; omega⟩
theorem Inv.reset {N : Nat} {s : State} (h : Inv N s) {a b : App} (ha : a ∈ s.Apps) (hid : b.Id = a.Id) (hb : AppOk N s.Conf b) : Inv N (pShed (pPutA s b) a.Id) := by
 have h1 := h.shed a.Id
 have h2 : Inv N (pPutA (pShed s a.Id) b) := h1.putA ⟨a, ha, hid.symm⟩ hb (.inr fun c hc e => by
  have := (List.mem_filter.1 hc).2
  rw [hid] at e
  simp [e] at this)
 exact h2
theorem Ab {s : State} {i : Int} {c : Cont} (h : qT s i = some c) : c ∈ s.Conts ∧ c.Id = i := iS h
theorem Dg {N : Nat} (hN : N ≤ 1000000) {s : State} (h : Inv N s) (i : Int) : Gv ((aW s i).bind fun x1 =>
   bif ! x1.2 then
    some s
   else
    (aC s x1.1.App).bind fun x2 =>
    bif x1.1.Master then
     (hC x2.1).bind fun x3 =>
     (aL s (⟨x2.1.Id, 1, x2.1.Queue, x2.1.User, x2.1.Prio, ⟨x2.1.Master.Mem, x2.1.Master.Cores⟩, x3, s.Now, 0, [], [], [], []⟩ : App)).bind fun x4 =>
     (cj x4 x1.1.App).bind fun x5 =>
     some x5.1
    else
     (cH s x1.1.Id).bind fun x6 =>
     (bA x2.1.Grants x1.1.Id).bind fun x7 =>
     (
      bif ! x7.2 then
       (app 8 [] x2.1.Kills).bind fun l =>
       (app 8 l [x1.1.Id]).bind fun l1 =>
       some (⟨x2.1.Id, x2.1.State, x2.1.Queue, x2.1.User, x2.1.Prio, ⟨x2.1.Master.Mem, x2.1.Master.Cores⟩, x2.1.Asks, x2.1.Seen, x2.1.Beat, x7.1, l1, x2.1.Told, x2.1.Lost⟩ : App)
      else
       some (⟨x2.1.Id, x2.1.State, x2.1.Queue, x2.1.User, x2.1.Prio, ⟨x2.1.Master.Mem, x2.1.Master.Cores⟩, x2.1.Asks, x2.1.Seen, x2.1.Beat, x7.1, x2.1.Kills, x2.1.Told, x2.1.Lost⟩ : App)).bind fun a =>
     (aL x6 a).bind fun x8 =>
     some x8) (Inv (N + 1)) := by
 rw [j9 h.z, FZ]
 cases hc : qT s i with
 | none => exact aa (h.mono (by omega))
 | some c =>
  obtain ⟨hcm, _⟩ := Ab hc
  obtain ⟨a, ha, e1, e2⟩ := (h.ck c hcm).app
  have hak := h.ak a ha
  simp only [Option.elim, Bool.not_true, cond_false]
  rw [a9 h.z, ← e1, h.appAt ha, FZ]
  simp only [Option.elim]
  refine ae (fun _ => ?_) fun _ => ?_
  ·show Gv ((some [jX a]).bind _) _
   rw [FZ]
   refine ad (P := fun t => t = pPutA s ⟨a.Id, 1, a.Queue, a.User, a.Prio, ⟨a.Master.Mem, a.Master.Cores⟩, [jX a], s.Now, 0, [], [], [], []⟩) (jc (l9 h.z _) rfl) ?_
   rintro t rfl
   have hok : AppOk N s.Conf ⟨a.Id, 1, a.Queue, a.User, a.Prio, ⟨a.Master.Mem, a.Master.Cores⟩, [jX a], s.Now, 0, [], [], [], []⟩ :=
    ⟨by dsimp only; omega, hak.user, hak.path, fun _ => hak.leaf (.inr e2), hak.mas, by simp, fun x hx => by
     have : x = jX a := by simpa using hx
     subst this
     exact u4 h.cf hak.mas, by simp, by simp, by simp, by simp, by simp⟩
   have hz : SSmall (pPutA s ⟨a.Id, 1, a.Queue, a.User, a.Prio, ⟨a.Master.Mem, a.Master.Cores⟩, [jX a], s.Now, 0, [], [], [], []⟩) := by
    refine ⟨h.z.n, ?_, h.z.c, h.z.l, h.z.p⟩
    have := (lM (id := fun x : App => x.Id) (l := s.Apps) (a := ⟨a.Id, 1, a.Queue, a.User, a.Prio, ⟨a.Master.Mem, a.Master.Cores⟩, [jX a], s.Now, 0, [], [], [], []⟩)).1
    have h2 := h.al
    show (putG _ _ _).length ≤ 100000
    omega
   rw [yy hz, FZ]
   have hr := h.reset (b := ⟨a.Id, 1, a.Queue, a.User, a.Prio, ⟨a.Master.Mem, a.Master.Cores⟩, [jX a], s.Now, 0, [], [], [], []⟩) ha rfl hok
   exact aa (hr.mono (by omega))
  ·rw [zo h.z, FZ, tN (by have := hak.gr; omega), FZ]
   have hA := h.away c.Id
   have hgl : (a.Grants.filter fun x => x != c.Id).length ≤ a.Grants.length := List.length_filter_le _ _
   refine ad (P := fun b => b.Id = a.Id ∧ b.State = 2 ∧ AppOk (N + 1) s.Conf b) ?_ ?_
   ·refine ae (fun _ => ?_) fun _ => ?_
    ·rw [ai (by have := hak.ki; simp; omega) (by omega), FZ, ai (by have := hak.ki; simp; omega) (by omega), FZ]
     refine aa ⟨rfl, e2, hak.st, hak.user, hak.path, hak.leaf, hak.mas, hak.al, hak.ask, by have := hak.gr; dsimp only; omega, by have := hak.ki; simp; omega, Nat.le_succ_of_le hak.to, Nat.le_succ_of_le hak.lo, hak.ap⟩
    ·exact aa ⟨rfl, e2, hak.st, hak.user, hak.path, hak.leaf, hak.mas, hak.al, hak.ask, by have := hak.gr; dsimp only; omega, Nat.le_succ_of_le hak.ki, Nat.le_succ_of_le hak.to, Nat.le_succ_of_le hak.lo, hak.ap⟩
   ·rintro b ⟨b1, b2, b3⟩
    rw [l9 hA.z, FZ]
    exact aa ((hA.mono (Nat.le_succ N)).putA ⟨a, ha, b1.symm⟩ b3 (.inl b2))
theorem rF {N : Nat} {s : State} (h : Inv N s) {ids : List Int} (hN : N + ids.length ≤ 1000000) : Gv (bG s ids) (Inv (N + ids.length)) := by
 unfold bG
 refine ad (P := Inv (N + ids.length)) ?_ fun t ht => aa ht
 refine av (fun (p : State) i => (p, i)) ids.length (fun k p => Inv (N + k) p) (step := eU ids) (by omega) ?_ ?_ (s := s) h
 ·intro k hk t ht
  unfold eU
  rw [ah hk, cond_true]
  dsimp only
  rw [aj hk, FZ]
  refine ad (Dg (by omega) ht ids[k]) fun u hu => aa (.inl ⟨u, rfl, hu⟩)
 ·intro t ht
  unfold eU
  rw [ao]
  exact aa ⟨t, rfl, ht⟩
theorem my {s : State} {i : Int} {n : Node} (h : eI s i = some n) : n ∈ s.Nodes ∧ n.Id = i := iS h
theorem C8 {N : Nat} {s : State} (h : Inv N s) (i b : Int) : Gv (ji s i b) fun r => Inv N r.1 := by
 unfold ji
 rw [cO h.z, FZ]
 cases hn : eI s i with
 | none => exact aa h
 | some n =>
  obtain ⟨hm, _⟩ := my hn
  simp only [Option.elim, Bool.not_true, cond_false]
  refine ae (fun _ => aa h) fun _ => ae (fun _ => aa h) fun _ => ae (fun _ => aa h) fun _ => ae (fun _ => aa h) fun _ => ?_
  rw [pP h.z, FZ]
  exact aa (h.putN (.inl ⟨n, hm, rfl⟩) (h.nk n hm))
theorem EE {N : Nat} {s : State} (h : Inv N s) (i : Int) : Gv (iZ s i) (Inv N) := by
 unfold iZ
 rw [cO h.z, FZ]
 cases hn : eI s i with
 | none => exact aa h
 | some n =>
  obtain ⟨hm, _⟩ := my hn
  simp only [Option.elim, Bool.not_true, cond_false]
  rw [pP h.z, FZ]
  exact aa (h.putN (.inl ⟨n, hm, rfl⟩) (h.nk n hm))
theorem sD (n : Int) : fT n = some (decide (0 ≤ n) && decide (n ≤ 1073741824)) := by
 unfold fT
 by_cases h : n ≥ 0
 ·rw [decide_eq_true h]; rfl
 ·rw [decide_eq_false h]; rfl
theorem su {N : Nat} {s : State} (h : Inv N s) (n : Node) : Gv (bg s n) fun r => Inv N r.1 := by
 unfold bg
 refine ad (P := fun b => b = false → VB 1073741824 n.Cap ∧ 0 ≤ n.Label ∧ n.Label < s.Conf.Labels.length) ?_ ?_
 ·refine ae (fun _ => aa (by simp)) fun _ => ae (fun _ => aa (by simp)) fun _ => ae (fun _ => aa (by simp)) fun h1 => ae (fun _ => aa (by simp)) fun h2 =>
   ae (fun _ => aa (by simp)) fun _ => ae (fun _ => aa (by simp)) fun _ => ?_
  rw [sD, FZ]
  refine ae (fun _ => aa (by simp)) fun h3 => ?_
  rw [sD, FZ]
  refine aa fun h4 => ?_
  simp only [decide_eq_false_iff_not, Bool.not_eq_false', Bool.and_eq_true, decide_eq_true_eq] at h1 h2 h3 h4
  exact ⟨⟨h3, h4⟩, by omega, by omega⟩
 ·intro b hb
  refine ae (fun _ => aa h) fun hbf => ?_
  have hb := hb hbf
  rw [cO h.z, FZ]
  cases hn : eI s n.Id with
  | none =>
   simp only [Option.elim, cond_false, FZ, Bool.not_false, cond_true]
   refine ae (fun _ => aa h) fun hlen => ?_
   rw [pP h.z, FZ]
   simp only [decide_eq_false_iff_not] at hlen
   exact aa (h.putN (.inr (by omega)) hb)
  | some m =>
   obtain ⟨hm, hid⟩ := my hn
   simp only [Option.elim, cond_true, FZ, Bool.not_true, cond_false]
   refine ae (fun _ => aa h) fun _ => ?_
   rw [pP h.z, FZ]
   exact aa (h.putN (.inl ⟨m, hm, hid⟩) hb)
theorem ng (p : App → Bool) : ∀ (l z : List App) (d : Bool), l.foldl (fun (t : List App × Bool) x => if (!t.2 && p x) = true then (t.1, true) else (t.1 ++ [x], t.2)) (z, d) = (z ++ (if d = true then l else l.eraseP p), d || l.any p)
 | [], z, d => by cases d <;> simp
 | x :: l, z, d => by
  rw [List.foldl_cons]
  cases d with
  | true =>
   rw [if_neg (by simp), ng p l]
   simp
  | false =>
   cases hp : p x with
   | true =>
    rw [if_pos (by simp), ng p l]
    simp [hp]
   | false =>
    rw [if_neg (by simp), ng p l]
    simp [hp]
theorem u3 {s : State} (h : SSmall s) : gx s = some ⟨s.Conf, s.Nodes, s.Apps.eraseP fun a => !pLive a, s.Conts, s.Slots, s.Plans, s.Now, s.Epoch, s.Seq⟩ := by
 unfold gx
 have hn := h.a
 have e := (dh (fun (t : List App × Bool) i => (t.1, t.2, i)) s.Apps (fun (t : List App × Bool) x => if (!t.2 && !pLive x) = true then (t.1, true) else (t.1 ++ [x], t.2)) (fun k t => t.1.length ≤ k) (fun t => t.1)
  (step := du s) (by omega) ?_ ?_ (s := ([], false)) (by simp)).1
 ·rw [e, ng (fun a => !pLive a), FZ]
  simp
 ·rintro k hk ⟨l, d⟩ hl
  dsimp only at hl ⊢
  refine ⟨?_, by split <;> (try simp) <;> omega⟩
  unfold du
  dsimp only
  rw [ah hk, cond_true, aj hk, FZ, kb, FZ]
  cases d <;> cases pLive s.Apps[k] <;>
   simp [ai (b := 200) (l := l) (m := [s.Apps[k]]) (by simp; omega) (by omega)]
 ·rintro ⟨l, d⟩ _
  unfold du
  dsimp only
  rw [ao]
  rfl
theorem Inv.forget {N : Nat} {s : State} (h : Inv N s) : Inv N ⟨s.Conf, s.Nodes, s.Apps.eraseP fun a => !pLive a, s.Conts, s.Slots, s.Plans, s.Now, s.Epoch, s.Seq⟩ := by
 have hs : (s.Apps.eraseP fun a => !pLive a).Sublist s.Apps := List.eraseP_sublist
 refine ⟨h.cf, h.nl, h.ns, h.nk, Nat.le_trans hs.length_le h.al, h.asr.sublist hs, fun a ha => h.ak a (hs.subset ha), h.cl, h.cs, fun c hc => ?_, h.ss, h.sk, h.pl, h.ps, h.pk, h.now, h.ep, h.sq, h.en⟩
 have := h.ck c hc
 refine ⟨this.size, ?_, this.label, this.id⟩
 obtain ⟨a, ha, e1, e2⟩ := this.app
 refine ⟨a, ?_, e1, e2⟩
 exact (List.mem_eraseP_of_neg (by unfold pLive; simp [e2])).2 ha
theorem rz (n : Int) : eL n = some (decide (1 ≤ n) && decide (n ≤ 1073741824)) := by
 unfold eL
 by_cases h : n ≥ 1
 ·rw [decide_eq_true h]; rfl
 ·rw [decide_eq_false h]; rfl
theorem sg {s : State} (h : SSmall s) : loop (bQ s) (0, 0) = some ((s.Apps.filter pLive).length : Int) := by
 have hn := h.a
 have e := (dh (fun (t : Int) i => (t, i)) s.Apps (fun t x => if pLive x = true then t + 1 else t) (fun k t => 0 ≤ t ∧ t ≤ k) (fun t => t) (step := bQ s) (by omega) ?_ ?_ (s := 0) (by simp)).1
 ·rw [e]
  have gen : ∀ (l : List App) (z : Int), l.foldl (fun t x => if pLive x = true then t + 1 else t) z = z + ((l.filter pLive).length : Int) := by
   intro l
   induction l with
   | nil => intro z; simp
   | cons x l ih =>
    intro z
    rw [List.foldl_cons, ih, List.filter_cons]
    split
    ·simp; omega
    ·rfl
  rw [gen, Int.zero_add]
 ·intro k hk t ht
  refine ⟨?_, by split <;> omega⟩
  unfold bQ
  dsimp only
  rw [ah hk, cond_true, aj hk, FZ, kb, FZ]
  cases pLive s.Apps[k]
  ·rfl
  ·simp only [cond_true, FZ, if_true]
   rw [ar (x := t + 1) (by omega) (by omega)]
 ·intro t _
  unfold bQ
  rw [ao]
  rfl
theorem uN {N : Nat} {s : State} (h : Inv N s) (a : App) (hu : 0 ≤ a.User ∧ a.User ≤ 2) : Gv (bn s a) fun r => Inv N r.1 := by
 unfold bn
 refine ad (P := fun b => b = false → SzOk a.Master) ?_ ?_
 ·refine ae (fun _ => aa (by simp)) fun _ => ae (fun _ => aa (by simp)) fun _ => ae (fun _ => aa (by simp)) fun h1 => ae (fun _ => aa (by simp)) fun h2 =>
   ae (fun _ => aa (by simp)) fun _ => ae (fun _ => aa (by simp)) fun _ => ?_
  rw [rz, FZ]
  refine ae (fun _ => aa (by simp)) fun h3 => ?_
  rw [rz, FZ]
  refine aa fun h4 => ?_
  simp only [Bool.not_eq_false', Bool.and_eq_true, decide_eq_true_eq] at h3 h4
  exact ⟨h3, h4⟩
 ·intro b hb
  refine ae (fun _ => aa h) fun hbf => ?_
  have hb := hb hbf
  rw [a9 h.z, FZ]
  cases hn : appAt s a.Id with
  | some m => exact aa h
  | none =>
   have hno := pT hn
   simp only [Option.elim, cond_false]
   rw [sg h.z, FZ]
   refine ae (fun _ => aa h) fun hlv => ?_
   rw [rK h.cf.small, FZ]
   refine ae (fun _ => aa h) fun hleaf => ?_
   have hleaf : pLeaf s.Conf a.Queue = true := by simpa using hleaf
   simp only [decide_eq_false_iff_not] at hlv
   refine ad (P := fun t => Inv N t ∧ t.Apps.length < 16 ∧ (∀ x ∈ t.Apps, x ∈ s.Apps) ∧ t.Conf = s.Conf) ?_ ?_
   ·refine ae (fun hge => ?_) fun hlt => ?_
    ·rw [u3 h.z, FZ]
     refine aa ⟨h.forget, ?_, fun x hx => List.eraseP_sublist.subset hx, rfl⟩
     have hex : ∃ x ∈ s.Apps, (!pLive x) = true := by
      apply Classical.byContradiction
      intro hne
      have : s.Apps.filter pLive = s.Apps := List.filter_eq_self.2 fun x hx => by
       cases hp : pLive x with
       | true => rfl
       | false => exact absurd ⟨x, hx, by rw [hp]; rfl⟩ hne
      rw [this] at hlv
      simp only [decide_eq_true_eq] at hge
      omega
     obtain ⟨x, hx, hp⟩ := hex
     have hl := List.length_eraseP_of_mem (p := fun a => !pLive a) hx hp
     have h2 := h.al
     show (s.Apps.eraseP _).length < 16
     have hpos := List.length_pos_of_mem hx
     omega
    ·simp only [decide_eq_false_iff_not] at hlt
     exact aa ⟨h, by omega, fun x hx => hx, rfl⟩
   ·rintro t ⟨ht, htl, hts, htc⟩
    show Gv ((some [jX a]).bind _) _
    rw [FZ, l9 ht.z, FZ]
    refine aa ?_
    have hno' : ∀ x ∈ t.Apps, x.Id ≠ a.Id := fun x hx => hno x (hts x hx)
    have hok : AppOk N t.Conf ⟨a.Id, 1, a.Queue, a.User, a.Prio, ⟨a.Master.Mem, a.Master.Cores⟩, [jX a], t.Now, 0, [], [], [], []⟩ :=
     ⟨by dsimp only; omega, hu, qr h.cf hleaf, fun _ => by rw [htc]; exact hleaf, hb, by simp, fun x hx => by
      have : x = jX a := by simpa using hx
      subst this
      exact u4 ht.cf hb, by simp, by simp, by simp, by simp, by simp⟩
    refine ⟨ht.cf, ht.nl, ht.ns, ht.nk, ?_, j7 ht.asr, ?_, ht.cl, ht.cs, ?_, ht.ss, ht.sk, ht.pl, ht.ps, ht.pk, ht.now, ht.ep, ht.sq, ht.en⟩
    ·have := (lM (id := fun x : App => x.Id) (l := t.Apps) (a := ⟨a.Id, 1, a.Queue, a.User, a.Prio, ⟨a.Master.Mem, a.Master.Cores⟩, [jX a], t.Now, 0, [], [], [], []⟩)).1
     show (putG _ _ _).length ≤ 16
     omega
    ·intro x hx
     rcases (bD ht.asr).1 hx with rfl | ⟨hx, _⟩
     ·exact hok
     ·exact ht.ak x hx
    ·intro c hc
     have := ht.ck c hc
     refine ⟨this.size, ?_, this.label, this.id⟩
     obtain ⟨b, hb, e1, e2⟩ := this.app
     exact ⟨b, (bD ht.asr).2 (.inr ⟨hb, hno' b hb⟩), e1, e2⟩
theorem Fz {N : Nat} {s : State} (h : Inv N s) (i st : Int) (hst : st = 3 ∨ st = 4) : Gv (je s i st) fun r => Inv N r.1 := by
 unfold je
 rw [a9 h.z, FZ]
 cases hn : appAt s i with
 | none => exact aa h
 | some a =>
  obtain ⟨ha, rfl⟩ := o8 hn
  have hak := h.ak a ha
  simp only [Option.elim, Bool.not_true, cond_false]
  rw [kb, FZ, FZ]
  refine ae (fun _ => aa h) fun _ => ?_
  have hz : ∀ b : App, SSmall (pPutA s b) := by
   intro b
   refine ⟨h.z.n, ?_, h.z.c, h.z.l, h.z.p⟩
   have := (lM (id := fun x : App => x.Id) (l := s.Apps) (a := b)).1
   have h2 := h.al
   show (putG _ _ _).length ≤ 100000
   omega
  rw [l9 h.z, FZ, yy (hz _), FZ]
  refine aa (h.reset ha rfl ⟨by dsimp only; omega, hak.user, hak.path, fun e => by dsimp only at e; omega, hak.mas, by simp, by simp, by simp, by simp, by simp, by simp, by simp⟩)
theorem Az {N : Nat} {s : State} (h : Inv N s) (i st : Int) (hst : st = 3 ∨ st = 4) : Gv (fS s i st) fun r => Inv N r.1 := by
 unfold fS
 rw [a9 h.z, FZ]
 refine ae (fun _ => aa h) fun _ => ?_
 rw [kb, FZ]
 refine ae (fun _ => aa h) fun _ => ?_
 exact ad (Fz h i st hst) fun r hr => aa hr
end Go.Fx.D

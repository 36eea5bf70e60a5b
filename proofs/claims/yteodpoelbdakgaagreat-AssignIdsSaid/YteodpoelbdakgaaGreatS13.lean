/-
  The reference manager: what holds of its state after every script. Conditions: none.
-/
import Derived.Test.YteodpoelbdakgaaGreatS12
namespace Go.Fx.D
open Go Go.Fx
set_option linter.unusedVariables false
set_option linter.unusedSimpArgs false
theorem oU {l : List Ask} {p : Int} {x : Ask} (h : askAt l p = some x) : x ∈ l ∧ x.Prio = p := iS h
theorem u7 {N : Nat} (hN : N ≤ 1000000) {s : State} (h : Inv N s) {n : Node} (hn : n ∈ s.Nodes) (hc : s.Conts.length < 200) (hq : s.Seq < 1048575) (x : Slot) :
  Gv (cF s n x) fun r => if r.2.2.2 = true then Inv (N + 1) r.1 else Inv N r.1 ∧ (∀ y ∈ r.1.Slots, y.Node ≠ n.Id) ∧ r.1.Nodes = s.Nodes ∧ r.1.Conts = s.Conts ∧ r.1.Seq = s.Seq := by
 have hrel : ∀ c : Cont, (fun r : State × Int × Cont × Bool => if r.2.2.2 = true then Inv (N + 1) r.1 else Inv N r.1 ∧ (∀ y ∈ r.1.Slots, y.Node ≠ n.Id) ∧ r.1.Nodes = s.Nodes ∧ r.1.Conts = s.Conts ∧ r.1.Seq = s.Seq) (pNoSlot s n.Id, 0, c, false) := by
  intro c
  dsimp only
  rw [if_neg (by simp)]
  exact ⟨h.noSlot _, fun y hy => by have := (List.mem_filter.1 hy).2; simpa using this, rfl, rfl, rfl⟩
 unfold cF
 rw [a9 h.z, FZ]
 cases ha0 : appAt s x.App with
 | none =>
  simp only [Option.elim]
  rw [tk (by simp [noA]), FZ]
  simp only [Bool.not_false, cond_true, FZ]
  rw [nD h.z, FZ]
  exact aa (hrel _)
 | some a =>
  obtain ⟨ha, _⟩ := o8 ha0
  have hak := h.ak a ha
  simp only [Option.elim]
  rw [tk (by have := hak.al; omega), FZ]
  refine ad (P := fun b => b = false → pLive a = true ∧ ∃ k ∈ a.Asks, askAt a.Asks x.Prio = some k) ?_ ?_
  ·refine ae (fun _ => aa (by simp)) fun _ => ?_
   rw [kb, FZ]
   refine ae (fun _ => aa (by simp)) fun hl => ?_
   have hl : pLive a = true := by simpa using hl
   cases hk : askAt a.Asks x.Prio with
   | none => exact aa (by simp)
   | some k =>
    have hkm := (oU hk).1
    have hkk := hak.ask k hkm
    simp only [Option.elim, Bool.not_true, cond_false]
    rw [pI, FZ]
    refine ae (fun _ => aa (by simp)) fun _ => ?_
    rw [gS, FZ]
    refine ae (fun _ => aa (by simp)) fun _ => ?_
    rw [tH h.sc (h.leafLen ha) hkk.size.vb, FZ]
    refine ae (fun _ => aa (by simp)) fun _ => ?_
    rw [pM h.sc (h.leafLen ha), FZ]
    exact aa fun _ => ⟨hl, k, hkm, rfl⟩
  ·intro b hb
   refine ae (fun _ => ?_) fun hbf => ?_
   ·rw [nD h.z, FZ]
    exact aa (hrel _)
   ·obtain ⟨hl, k, hkm, hk⟩ := hb hbf
    have hkk := hak.ask k hkm
    rw [hk]
    simp only [Option.elim]
    refine ad (P := fun _ => True) ?_ fun q _ => ?_
    ·rw [rG h.sb, FZ, gS, FZ, rR h.sc (h.leafLen ha) n.Label hkk.size.vb]
     repeat' (first | exact ⟨_, rfl, trivial⟩ | refine ae (fun _ => ?_) (fun _ => ?_))
    ·refine ae (fun _ => aa ?_) fun _ => ?_
     ·dsimp only
      rw [if_pos rfl]
      exact h.mono (by omega)
     ·rw [nD h.z, FZ]
      have hN' := h.noSlot n.Id
      rw [qc hN'.z hN'.sq n (by have := hak.al; omega) (fun y hy => by have := (hak.ask y hy).count; omega) (by have := hak.gr; omega) k, FZ]
      refine aa ?_
      dsimp only
      rw [if_pos rfl]
      exact hN'.grant hn ha hl hkk hc hq
theorem FL {N : Nat} (hN : N ≤ 1000000) {s : State} (h : Inv N s) (i : Int) : Gv (a6 s i) fun r => Inv (N + 1) r.1 := by
 unfold a6
 rw [cO h.z, FZ]
 cases hn0 : eI s i with
 | none => exact aa (h.mono (by omega))
 | some n =>
  obtain ⟨hn, hid⟩ := my hn0
  simp only [Option.elim, Bool.not_true, cond_false]
  refine ad (P := fun b => b = false → s.Conts.length < 200 ∧ s.Seq < 1048575) ?_ ?_
  ·refine ae (fun _ => aa (by simp)) fun _ => ae (fun _ => aa (by simp)) fun h1 => aa fun h2 => ?_
   simp only [decide_eq_false_iff_not] at h1 h2
   omega
  ·intro b hb
   refine ae (fun _ => aa (h.mono (by omega))) fun hbf => ?_
   obtain ⟨hc, hq⟩ := hb hbf
   rw [uj h.z, FZ]
   refine ad (P := fun r => match r with
    | .inl p => Inv N p.1 ∧ (∀ y ∈ p.1.Slots, y.Node ≠ n.Id) ∧ n ∈ p.1.Nodes ∧ p.1.Conts.length < 200 ∧ p.1.Seq < 1048575
    | .inr q => Inv (N + 1) q.1) ?_ ?_
   ·cases hs : oG s i with
    | none =>
     simp only [Option.elim, cond_false]
     refine aa ⟨h, fun y hy e => ?_, hn, hc, hq⟩
     have := pT (id := fun x : Slot => x.Node) hs y hy
     omega
    | some x =>
     simp only [Option.elim, cond_true]
     refine ad (u7 hN h hn hc hq x) ?_
     rintro r hr
     refine ae (fun hb => aa ?_) fun hb => aa ?_
     ·rw [if_pos hb] at hr
      exact hr
     ·rw [if_neg (by simp [hb])] at hr
      exact ⟨hr.1, hr.2.1, by rw [hr.2.2.1]; exact hn, by rw [hr.2.2.2.1]; exact hc, by rw [hr.2.2.2.2]; exact hq⟩
   ·rintro (p | q) hr
    ·obtain ⟨r1, r2, r3, r4, r5⟩ := hr
     refine ad (pV hN r1 r3 r2 r4 r5 true) ?_
     rintro ⟨t, k, c⟩ ⟨q0, q1⟩
     dsimp only at q0 q1 ⊢
     refine ae (fun hz => aa (q1 (by simpa using hz)).1) fun hz => ?_
     obtain ⟨u1, u2⟩ := q0 (by simpa using hz)
     refine ad (pV hN u1 (by rw [u2.nd]; exact r3) (by rw [u2.sl]; exact r2) (by rw [u2.cs]; exact r4) (by rw [u2.sq]; exact r5) false) ?_
     rintro ⟨t', k', c'⟩ ⟨w0, w1⟩
     refine aa ?_
     dsimp only at w0 w1 ⊢
     by_cases hk : k' = 0
     ·exact (w0 hk).1.mono (by omega)
     ·exact (w1 hk).1
    ·exact aa hr
theorem Bi {N : Nat} (hN : N ≤ 900000) {s : State} (h : Inv N s) (i : Int) : Gv (cw s i) fun r => Inv (N + 3) r.1 ∧ r.2.length ≤ 3 := by
 unfold cw
 refine ad (P := fun r => Inv (N + 3) r.1 ∧ r.2.length ≤ 3) ?_ fun r hr => aa hr
 refine av (fun (p : State × List Cont) i => (p.1, p.2, i)) 3 (fun k p => Inv (N + k) p.1 ∧ p.2.length ≤ k) (step := bh i) (by omega) ?_ ?_ (s := (s, [])) ⟨h, by simp⟩
 ·rintro k hk p ⟨hp, hl⟩
  unfold bh
  dsimp only
  rw [show decide ((k : Int) < 3) = true from decide_eq_true (by omega), cond_true]
  refine ad (FL (by omega) hp i) ?_
  rintro ⟨t, kd, c⟩ hr
  dsimp only at hr ⊢
  refine ae (fun _ => aa (.inr ⟨_, rfl, hr.mono (by omega), by dsimp only; omega⟩)) fun _ => ?_
  rw [ai (by simp; omega) (by omega), FZ]
  exact aa (.inl ⟨(t, p.2 ++ [c]), rfl, hr, by simp; omega⟩)
 ·rintro p ⟨hp, hl⟩
  unfold bh
  dsimp only
  exact aa ⟨_, rfl, hp, hl⟩
theorem EU {N : Nat} (hN : N ≤ 800000) {s : State} (h : Inv N s) (x : Input) (hx : x.Ids.length ≤ 1000) : Gv (iK s x) fun r => Inv (N + 1003) r.1 := by
 unfold iK
 rw [cO h.z, FZ]
 refine ad (P := fun _ => True) ?_ fun q _ => ?_
 ·repeat' (first | exact ⟨_, rfl, trivial⟩ | refine ae (fun _ => ?_) (fun _ => ?_))
 refine ae (fun _ => ?_) fun _ => ?_
 ·rw [zS h.z, FZ]
  exact aa (h.mono (by omega))
 refine ad (C8 h _ _) fun r hr => ?_
 refine ae (fun _ => aa (h.mono (Nat.le_add_right _ _))) fun _ => ?_
 refine ad (P := fun l => l.length ≤ x.Ids.length) ?_ fun ids hids => ?_
 ·refine av (fun (l : List Int) i => (l, i)) x.Ids.length (fun k l => l.length ≤ k) (step := eY x r) (by omega) ?_ ?_ (s := []) (by simp)
  ·intro k hk l hl
   unfold eY
   dsimp only
   rw [ah hk, cond_true]
   refine ad (P := fun m => m.length ≤ k + 1) ?_ fun m hm => aa (.inl ⟨m, rfl, hm⟩)
   rw [aj hk, FZ, j9 hr.z, FZ]
   refine ad (P := fun _ => True) ?_ fun q _ => ?_
   ·repeat' (first | exact ⟨_, rfl, trivial⟩ | refine ae (fun _ => ?_) (fun _ => ?_))
   refine ae (fun _ => ?_) fun _ => aa (by omega)
   rw [ai (by simp; omega) (by omega), FZ]
   exact aa (by simp; omega)
  ·intro l hl
   unfold eY
   rw [ao]
   exact aa ⟨l, rfl, hl⟩
 refine ad (rF hr (ids := ids) (by omega)) fun t ht => ?_
 refine ad (Bi (by omega) ht x.Id) fun u hu => ?_
 rw [zS hu.1.z, FZ]
 exact aa (hu.1.mono (by omega))
theorem BU (x : Ask) (c : Conf) : Gv (iJ x (c.Labels.length : Int)) fun e => e = 0 → (0 ≤ x.Label ∧ x.Label < c.Labels.length) ∧ SzOk x.Size ∧ 0 ≤ x.Count ∧ x.Count ≤ 50 := by
 have p9 : ∀ n : Int, jk n = some (decide (1 ≤ n) && decide (n ≤ 1073741824)) := fun n => rz n
 unfold iJ
 refine ad (P := fun b => b = false → (0 ≤ x.Label ∧ x.Label < c.Labels.length) ∧ SzOk x.Size) ?_ ?_
 ·refine ae (fun _ => aa (by simp)) fun _ => ae (fun _ => aa (by simp)) fun _ => ae (fun _ => aa (by simp)) fun h1 => ae (fun _ => aa (by simp)) fun h2 => ?_
  rw [p9, FZ]
  refine ae (fun _ => aa (by simp)) fun h3 => ?_
  rw [p9, FZ]
  refine ae (fun _ => aa (by simp)) fun h4 => ?_
  simp only [decide_eq_false_iff_not, Bool.not_eq_false', Bool.and_eq_true, decide_eq_true_eq] at h1 h2 h3 h4
  refine pF (P := fun _ => True) ?_ fun b _ _ => ⟨by omega, h3, h4⟩
  repeat' (first | exact ⟨_, rfl, trivial⟩ | refine ae (fun _ => ?_) (fun _ => ?_))
 ·intro b hb
  refine ae (fun _ => aa (by simp)) fun hbf => ?_
  obtain ⟨h1, h2⟩ := hb hbf
  refine ad (P := fun b => b = false → 0 ≤ x.Count ∧ x.Count ≤ 50) ?_ ?_
  ·refine ae (fun _ => aa (by simp)) fun h3 => aa fun h4 => ?_
   simp only [decide_eq_false_iff_not] at h3 h4
   omega
  ·intro b2 hb2
   refine ae (fun _ => aa (by simp)) fun hf => aa fun _ => ⟨h1, h2, hb2 hf⟩
theorem FW {c : Conf} {l : List Ask} (hl : l.length ≤ 1000) (hk : ∀ x ∈ l, AskOk c x) (hs : l.Pairwise fun x y => x.Prio < y.Prio) {a : Ask} (h1 : 0 ≤ a.Label ∧ a.Label < c.Labels.length) (h2 : SzOk a.Size) (h3 : 0 ≤ a.Count ∧ a.Count ≤ 50) :
  Gv (jM l a) fun r => r.1.length ≤ 8 ∧ (∀ x ∈ r.1, AskOk c x) ∧ r.1.Pairwise fun x y => x.Prio < y.Prio := by
 have hnew : a.Count ≠ 0 → AskOk c ⟨a.Prio, a.Label, ⟨a.Size.Mem, a.Size.Cores⟩, a.Count, a.Node, a.Rack, 0⟩ := fun hc => ⟨h1, h2, by dsimp only; omega⟩
 unfold jM
 refine ad (P := fun t => t.1.length ≤ 2 * l.length ∧ (∀ x ∈ t.1, AskOk c x) ∧ (t.2 = false → a.Count ≠ 0) ∧ t.1.Pairwise (fun x y => x.Prio < y.Prio) ∧ (t.2 = false → ∀ x ∈ t.1, x.Prio < a.Prio)) ?_ ?_
 ·refine av (fun (t : List Ask × Bool) i => (t.1, t.2, i)) l.length (fun k t => t.1.length ≤ 2 * k ∧ (∀ x ∈ t.1, AskOk c x) ∧ (t.2 = false → a.Count ≠ 0) ∧ t.1.Pairwise (fun x y => x.Prio < y.Prio) ∧ (t.2 = false → ∀ x ∈ t.1, x.Prio < a.Prio) ∧ ∀ x ∈ t.1, ∀ y ∈ l.drop k, x.Prio < y.Prio) (step := g_ l a) (by omega) ?_ ?_ (s := ([], a.Count == 0)) ⟨by simp, by simp, by simp, by simp, by simp, by simp⟩
  ·rintro k hkk ⟨m, d⟩ ⟨q1, q2, q3, q4, q5, q6⟩
   dsimp only at q1 q2 q3 q4 q5 q6 ⊢
   have hd := List.drop_eq_getElem_cons hkk
   have hsd : (l[k] :: l.drop (k + 1)).Pairwise fun x y => x.Prio < y.Prio := by rw [← hd]; exact hs.sublist (List.drop_sublist k l)
   have hafter := (List.pairwise_cons.1 hsd).1
   unfold g_
   dsimp only
   rw [ah hkk, cond_true]
   refine ad (P := fun t => t.1.length ≤ 2 * (k + 1) ∧ (∀ x ∈ t.1, AskOk c x) ∧ (t.2 = false → a.Count ≠ 0) ∧ t.1.Pairwise (fun x y => x.Prio < y.Prio) ∧ (t.2 = false → ∀ x ∈ t.1, x.Prio < a.Prio) ∧ ∀ x ∈ t.1, ∀ y ∈ l.drop (k + 1), x.Prio < y.Prio) ?_ fun t ht => aa (.inl ⟨t, rfl, ht⟩)
   refine ad (P := fun t => t.1.length ≤ 2 * k + 1 ∧ (∀ x ∈ t.1, AskOk c x) ∧ (t.2 = false → a.Count ≠ 0) ∧ t.1.Pairwise (fun x y => x.Prio < y.Prio) ∧ (t.2 = false → (∀ x ∈ t.1, x.Prio < a.Prio) ∧ l[k].Prio ≤ a.Prio) ∧ ∀ x ∈ t.1, ∀ y ∈ l.drop k, x.Prio < y.Prio) ?_ ?_
   ·refine ad (P := fun b => (b = true → d = false ∧ a.Prio < l[k].Prio) ∧ (b = false → d = false → l[k].Prio ≤ a.Prio)) ?_ ?_
    ·refine ae (fun hd => ?_) fun hd => aa ⟨by simp, fun _ e => by rw [e] at hd; simp at hd⟩
     rw [aj hkk, FZ]
     refine aa ⟨fun e => ⟨by simpa using hd, by simpa using e⟩, fun e _ => ?_⟩
     simp only [gt_iff_lt, decide_eq_false_iff_not] at e
     omega
    ·intro b hb
     refine ae (fun hbt => ?_) fun hbf => aa ⟨by dsimp only; omega, q2, q3, q4, fun e => ⟨q5 e, hb.2 hbf e⟩, q6⟩
     obtain ⟨hdf, hlt⟩ := hb.1 hbt
     rw [ai (by simp; omega) (by omega), FZ]
     refine aa ⟨by simp; omega, fun x hx => ?_, by simp, ?_, by simp, ?_⟩
     ·rcases List.mem_append.1 hx with hx | hx
      ·exact q2 x hx
      ·rw [F3] at hx
       subst hx
       exact hnew (q3 hdf)
     ·refine List.pairwise_append.2 ⟨q4, by simp, fun x hx y hy => ?_⟩
      rw [F3] at hy
      subst hy
      exact q5 hdf x hx
     ·intro x hx y hy
      rcases List.mem_append.1 hx with hx | hx
      ·exact q6 x hx y hy
      ·rw [F3] at hx
       subst hx
       rw [hd] at hy
       rcases List.mem_cons.1 hy with rfl | hy
       ·exact hlt
       ·exact Int.lt_trans hlt (hafter y hy)
   ·rintro ⟨m2, d2⟩ ⟨p1, p2, p3, p4, p5, p6⟩
    dsimp only at p1 p2 p3 p4 p5 p6 ⊢
    have p6' : ∀ x ∈ m2, ∀ y ∈ l.drop (k + 1), x.Prio < y.Prio := fun x hx y hy => p6 x hx y (by rw [hd]; exact List.mem_cons_of_mem _ hy)
    rw [aj hkk, FZ]
    refine ae (fun hne => ?_) fun _ => aa ⟨by dsimp only; omega, p2, p3, p4, fun e => (p5 e).1, p6'⟩
    have hne : l[k].Prio ≠ a.Prio := by simpa using hne
    rw [FZ, ai (by simp; omega) (by omega), FZ]
    refine aa ⟨by simp; omega, fun x hx => ?_, p3, ?_, ?_, ?_⟩
    ·rcases List.mem_append.1 hx with hx | hx
     ·exact p2 x hx
     ·rw [F3] at hx
      subst hx
      exact hk _ (List.getElem_mem hkk)
    ·refine List.pairwise_append.2 ⟨p4, by simp, fun x hx y hy => ?_⟩
     rw [F3] at hy
     subst hy
     exact p6 x hx _ (by rw [hd]; exact List.mem_cons_self)
    ·intro e x hx
     rcases List.mem_append.1 hx with hx | hx
     ·exact (p5 e).1 x hx
     ·rw [F3] at hx
      subst hx
      have := (p5 e).2
      omega
    ·intro x hx y hy
     rcases List.mem_append.1 hx with hx | hx
     ·exact p6' x hx y hy
     ·rw [F3] at hx
      subst hx
      exact hafter y hy
  ·rintro t ⟨r1, r2, r3, r4, r5, r6⟩
   unfold g_
   dsimp only
   rw [ao, cond_false]
   exact aa ⟨t, rfl, r1, r2, r3, r4, r5⟩
 ·rintro ⟨m, d⟩ ⟨q1, q2, q3, q4, q5⟩
  dsimp only at q1 q2 q3 q4 q5 ⊢
  refine ad (P := fun m => (∀ x ∈ m, AskOk c x) ∧ m.Pairwise fun x y => x.Prio < y.Prio) ?_ ?_
  ·refine ae (fun hd => ?_) fun _ => aa ⟨q2, q4⟩
   have hdf : d = false := by simpa using hd
   rw [ai (by simp; omega) (by omega), FZ]
   refine aa ⟨fun x hx => ?_, ?_⟩
   ·rcases List.mem_append.1 hx with hx | hx
    ·exact q2 x hx
    ·rw [F3] at hx
     subst hx
     exact hnew (q3 hdf)
   ·refine List.pairwise_append.2 ⟨q4, by simp, fun x hx y hy => ?_⟩
    rw [F3] at hy
    subst hy
    exact q5 hdf x hx
  ·intro m2 hm2
   refine ae (fun _ => aa ⟨by simp, by simp, by simp⟩) fun hlen => aa ⟨?_, hm2.1, hm2.2⟩
   simp only [decide_eq_false_iff_not] at hlen
   dsimp only
   omega
theorem DD {s : State} {l : List Ask} (hl : l.length ≤ 8) (hk : ∀ x ∈ l, AskOk s.Conf x) (hs : l.Pairwise fun x y => x.Prio < y.Prio) {more : List Ask} (hm : more.length ≤ 1000) : Gv (gY s l more) fun r => r.1.length ≤ 8 ∧ (∀ x ∈ r.1, AskOk s.Conf x) ∧ r.1.Pairwise fun x y => x.Prio < y.Prio := by
 unfold gY
 refine ad (P := fun r => match r with | .inl q => q.1.length ≤ 8 ∧ (∀ x ∈ q.1, AskOk s.Conf x) ∧ q.1.Pairwise (fun x y => x.Prio < y.Prio) | .inr q => q.length ≤ 8 ∧ (∀ x ∈ q, AskOk s.Conf x) ∧ q.Pairwise fun x y => x.Prio < y.Prio) ?_ ?_
 ·refine av (fun (l : List Ask) i => (l, i)) more.length (fun _ l => l.length ≤ 8 ∧ (∀ x ∈ l, AskOk s.Conf x) ∧ l.Pairwise fun x y => x.Prio < y.Prio) (step := ef s more) (by omega) ?_ ?_ (s := l) ⟨hl, hk, hs⟩
  ·rintro k hkk l ⟨q1, q2, q3⟩
   unfold ef
   dsimp only
   rw [ah hkk, cond_true, aj hkk, FZ]
   refine ad (BU more[k] s.Conf) fun e he => ?_
   refine ae (fun _ => aa (.inr ⟨_, rfl, by simp⟩)) fun he0 => ?_
   obtain ⟨c1, c2, c3⟩ := he (by simpa using he0)
   rw [FZ]
   refine ad (FW (by omega) q2 q3 c1 c2 c3) fun r hr => ?_
   refine ae (fun _ => aa (.inr ⟨_, rfl, by simp⟩)) fun _ => aa (.inl ⟨r.1, rfl, hr⟩)
  ·intro l hl
   unfold ef
   rw [ao]
   exact aa ⟨.inr l, rfl, hl⟩
 ·rintro (q | q) hq
  ·exact aa hq
  ·exact aa hq
theorem xB {s : State} (h : SSmall s) {ids : List Int} (hi : ids.length ≤ 1000000) : Gv (dJ s ids) fun _ => True := by
 unfold dJ
 refine ad (P := fun _ => True) ?_ fun _ _ => aa trivial
 refine av (fun (l : List Cont) i => (l, i)) ids.length (fun k l => l.length ≤ k) (step := eh s ids) (by omega) ?_ ?_ (s := []) (by simp)
 ·intro k hk l hl
  unfold eh
  dsimp only
  rw [ah hk, cond_true, aj hk, FZ, j9 h, FZ]
  refine ad (P := fun m => m.length ≤ k + 1) ?_ fun m hm => aa (.inl ⟨m, rfl, hm⟩)
  refine ae (fun _ => ?_) fun _ => aa (by omega)
  rw [ai (by simp; omega) (by omega), FZ]
  exact aa (by simp; omega)
 ·intro l hl
  unfold eh
  rw [ao]
  exact aa ⟨l, rfl, trivial⟩
theorem tC {s : State} (h : SSmall s) (i : Int) : Gv (cD s i) fun _ => True := by
 have hn := h.c
 unfold cD
 refine ad (P := fun _ => True) ?_ fun _ _ => aa trivial
 refine av (fun (l : List Int) i => (l, i)) s.Conts.length (fun k l => l.length ≤ k) (step := c8 s i) (by omega) ?_ ?_ (s := []) (by simp)
 ·intro k hk l hl
  unfold c8
  dsimp only
  rw [ah hk, cond_true, aj hk, FZ, FZ]
  refine ad (P := fun m => m.length ≤ k + 1) ?_ fun m hm => aa (.inl ⟨m, rfl, hm⟩)
  refine ad (P := fun _ => True) ?_ fun q _ => ?_
  ·repeat' (first | exact ⟨_, rfl, trivial⟩ | refine ae (fun _ => ?_) (fun _ => ?_))
  refine ae (fun _ => ?_) fun _ => aa (by omega)
  rw [FZ, ai (by simp; omega) (by omega), FZ]
  exact aa (by simp; omega)
 ·intro l hl
  unfold c8
  rw [ao]
  exact aa ⟨l, rfl, trivial⟩
theorem BT {N : Nat} (hN : N ≤ 900000) {s : State} (h : Inv N s) (x : Input) (hi : x.Ids.length ≤ 1000) (hx : x.Asks.length ≤ 1000) : Gv (gw s x) fun r => Inv N r.1 := by
 unfold gw
 rw [a9 h.z, FZ]
 cases ha0 : appAt s x.Id with
 | none => exact aa h
 | some a =>
  obtain ⟨ha, _⟩ := o8 ha0
  have hak := h.ak a ha
  simp only [Option.elim, Bool.not_true, cond_false]
  refine ae (fun _ => aa h) fun hst => ae (fun _ => aa h) fun _ => ae (fun _ => ?_) fun _ => ae (fun _ => aa h) fun _ => ?_
  ·refine ad (xB h.z (by have := hak.to; omega)) fun _ _ => ad (tC h.z _) fun _ _ => ?_
   rw [ai (by have := hak.lo; simp; omega) (by omega), FZ]
   exact aa h
  ·have hst : a.State = 2 := by simpa using hst
   refine ad (DD hak.al hak.ask hak.ap hx) fun r hr => ?_
   refine ae (fun _ => aa h) fun _ => ?_
   refine ad (P := fun t => Inv N t.1 ∧ t.1.Conf = s.Conf ∧ t.1.Apps = s.Apps ∧ AppOk N s.Conf t.2 ∧ t.2.Id = a.Id ∧ t.2.State = 2) ?_ ?_
   ·refine av (fun (t : State × App) i => (t.1, t.2, i)) x.Ids.length (fun _ t => Inv N t.1 ∧ t.1.Conf = s.Conf ∧ t.1.Apps = s.Apps ∧ AppOk N s.Conf t.2 ∧ t.2.Id = a.Id ∧ t.2.State = 2) (step := dt x) (by omega) ?_ ?_ (s := (s, a)) ⟨h, rfl, rfl, hak, rfl, hst⟩
    ·rintro k hk ⟨t, b⟩ ⟨q1, q2, q3, q4, q5, q6⟩
     dsimp only at q1 q2 q3 q4 q5 q6 ⊢
     unfold dt
     dsimp only
     rw [ah hk, cond_true]
     refine ad (P := fun t => Inv N t.1 ∧ t.1.Conf = s.Conf ∧ t.1.Apps = s.Apps ∧ AppOk N s.Conf t.2 ∧ t.2.Id = a.Id ∧ t.2.State = 2) ?_ fun t ht => aa (.inl ⟨t, rfl, ht⟩)
     rw [aj hk, FZ, j9 q1.z, FZ]
     refine ad (P := fun _ => True) ?_ fun q _ => ?_
     ·repeat' (first | exact ⟨_, rfl, trivial⟩ | refine ae (fun _ => ?_) (fun _ => ?_))
     refine ae (fun _ => ?_) fun _ => aa ⟨q1, q2, q3, q4, q5, q6⟩
     rw [zo q1.z, FZ, tN (by have := q4.gr; omega), FZ]
     refine aa ⟨q1.away _, q2, q3, ⟨q4.st, q4.user, q4.path, q4.leaf, q4.mas, q4.al, q4.ask, Nat.le_trans (List.length_filter_le _ _) q4.gr, q4.ki, q4.to, q4.lo, q4.ap⟩, q5, q6⟩
    ·intro t ht
     unfold dt
     dsimp only
     rw [ao, cond_false]
     exact aa ⟨t, rfl, ht⟩
   ·rintro ⟨t, b⟩ ⟨q1, q2, q3, q4, q5, q6⟩
    dsimp only at q1 q2 q3 q4 q5 q6 ⊢
    refine ad (xB q1.z (by have := q4.gr; omega)) fun _ _ => ad (tC q1.z _) fun _ _ => ?_
    rw [ai (by have := q4.ki; simp; omega) (by omega), FZ, l9 q1.z, FZ]
    refine aa (q1.putA ⟨a, by rw [q3]; exact ha, q5.symm⟩ ?_ (.inl q6))
    rw [q2]
    exact ⟨q4.st, q4.user, q4.path, q4.leaf, q4.mas, hr.1, hr.2.1, by simp, by simp, q4.gr, q4.ki, hr.2.2⟩
theorem BP {N : Nat} {s : State} (h : Inv N s) (text : Str) : Gv (gH s text) fun r => Inv N r.1 := by
 unfold gH
 refine ad (Ch text) ?_
 rintro ⟨c, e0⟩ ⟨hc, hcl⟩
 dsimp only at hc hcl ⊢
 refine ad (P := fun e => e = 0 → ConfOk c) ?_ ?_
 ·refine ae (fun _ => ?_) fun he => aa fun e => ?_
  ·exact ad (Dt hc hcl) fun e he => aa he
  ·subst e; simp at he
 ·intro e he
  refine ae (fun _ => aa h) fun he0 => ?_
  have hcf := he (by simpa using he0)
  refine ae (fun _ => aa h) fun hlen => ?_
  simp only [decide_eq_false_iff_not] at hlen
  have hlb := h.cf.lab
  refine ad (P := fun r => match r with | .inl q => Inv N q.1 | .inr _ => True) ?_ ?_
  ·refine av (fun (t : State × Output) i => (t.1, t.2, i)) s.Conf.Labels.length (fun _ _ => True) (step := dD s (c, e0)) (by omega) ?_ ?_ (s := ((⟨⟨[], []⟩, [], [], [], [], [], 0, 0, 0⟩ : State), (⟨0, [], [], [], 0⟩ : Output))) trivial
   ·intro k hk t _
    unfold dD
    dsimp only
    have hk2 : k < c.Labels.length := by omega
    rw [ah hk, cond_true, aA hk2, FZ, F0 hk2, FZ, aj hk, FZ]
    refine ae (fun _ => aa (.inr ⟨_, rfl, h⟩)) fun _ => aa (.inl ⟨t, rfl, trivial⟩)
   ·intro t _
    unfold dD
    dsimp only
    rw [ao, cond_false]
    exact aa ⟨_, rfl, trivial⟩
  ·rintro (q | q) hq
   ·exact aa hq
   ·have hal := h.al
    refine ad (P := fun r => match r with | .inl q => Inv N q.1 | .inr _ => ∀ a ∈ s.Apps, pLive a = true → pLeaf c a.Queue = true) ?_ ?_
    ·refine av (fun (t : State × Output) i => (t.1, t.2, i)) s.Apps.length (fun k _ => ∀ j (hj : j < s.Apps.length), j < k → pLive s.Apps[j] = true → pLeaf c s.Apps[j].Queue = true) (step := dz s (c, e0)) (by omega) ?_ ?_ (s := q) (by intro j hj h; omega)
     ·intro k hk t ht
      unfold dz
      dsimp only
      rw [ah hk, cond_true]
      refine ad (P := fun b => b = false → pLive s.Apps[k] = true → pLeaf c s.Apps[k].Queue = true) ?_ ?_
      ·rw [aj hk, FZ, kb, FZ]
       refine ae (fun _ => ?_) fun hf => aa fun _ ht => by rw [hf] at ht; cases ht
       rw [FZ, rK hc, FZ]
       exact aa fun hb _ => by simpa using hb
      ·intro b hb
       refine ae (fun _ => aa (.inr ⟨_, rfl, h⟩)) fun hbf => aa (.inl ⟨t, rfl, fun j hj hjk => ?_⟩)
       by_cases e : j = k
       ·subst e; exact hb hbf
       ·exact ht j hj (by omega)
     ·intro t ht
      unfold dz
      dsimp only
      rw [ao, cond_false]
      refine aa ⟨.inr t, rfl, fun a ha hl => ?_⟩
      obtain ⟨j, hj, rfl⟩ := List.getElem_of_mem ha
      exact ht j hj hj hl
    ·rintro (q2 | q2) hq2
     ·exact aa hq2
     ·refine aa ?_
      have hll : (s.Conf.Labels.length : Int) ≤ c.Labels.length := by omega
      have hask : ∀ x : Ask, AskOk s.Conf x → AskOk c x := fun x hx => ⟨by have := hx.label; omega, hx.size, hx.count⟩
      refine ⟨hcf, h.nl, h.ns, fun n hn => ?_, h.al, h.asr, fun a ha => ?_, h.cl, h.cs, fun k hk => ?_, h.ss, h.sk, h.pl, h.ps, h.pk, h.now, h.ep, h.sq, h.en⟩
      ·have := h.nk n hn
       exact ⟨this.1, this.2.1, by show n.Label < (c.Labels.length : Int); omega⟩
      ·have hak := h.ak a ha
       refine ⟨hak.st, hak.user, hak.path, fun e => hq2 a ha (by unfold pLive; simpa using e), hak.mas, hak.al, fun x hx => hask x (hak.ask x hx), hak.gr, hak.ki, hak.to, hak.lo, hak.ap⟩
      ·have := h.ck k hk
       exact ⟨this.size, this.app, by have := this.label; show 0 ≤ k.Label ∧ k.Label < (c.Labels.length : Int); omega, this.id⟩
end Go.Fx.D

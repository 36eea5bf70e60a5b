/-
  The reference manager: what holds of its state after every script. Conditions: none.
-/
import Derived.Test.YteodpoelbdakgaaGreatS15
/-
  Chapters 17, 19: victims, ticks, steps.
-/
namespace Go.Fx.D
open Go Go.Fx
set_option linter.unusedVariables false
set_option linter.unusedSimpArgs false

def strip (c : Cont) : Cont := ⟨c.Id, c.App, c.Node, c.Size, c.Prio, c.Label, c.Master, 0⟩
theorem Inv.conts {N : Nat} {s : State} (h : Inv N s) {cs : List Cont} (e : cs.map strip = s.Conts.map strip) : Inv N ⟨s.Conf, s.Nodes, s.Apps, cs, s.Slots, s.Plans, s.Now, s.Epoch, s.Seq⟩ := by
  have hl : cs.length = s.Conts.length := by simpa using congrArg List.length e
  refine ⟨h.cf, h.nl, h.ns, h.nk, h.al, h.asr, h.ak, by show cs.length ≤ 200; rw [hl]; exact h.cl, ?_, fun c hc => ?_, h.ss, h.sk, h.pl, h.ps, h.pk, h.now, h.ep, h.sq⟩
  · have h1 : (s.Conts.map strip).Pairwise fun x y => x.Id < y.Id := List.pairwise_map.2 h.cs
    rw [← e] at h1
    exact (List.pairwise_map (f := strip) (R := fun x y : Cont => x.Id < y.Id)).1 h1
  · have hm : strip c ∈ s.Conts.map strip := by rw [← e]; exact List.mem_map_of_mem hc
    obtain ⟨c', hc', ec⟩ := List.mem_map.1 hm
    have := h.ck c' hc'
    unfold strip at ec
    injection ec with e1 e2 e3 e4 e5 e6 e7
    refine ⟨by rw [← e4]; exact this.size, ?_, by rw [← e6]; exact this.label, by rw [← e1]; exact this.id⟩
    rw [← e2]
    exact this.app

theorem note_gv {N : Nat} {s : State} (h : Inv N s) (i t : Int) : Gv (dispatchref17_note s i t) (Inv N) := by
  have hcl := h.cl
  unfold dispatchref17_note
  rw [app_some (by simp; omega) (by omega), Option.bind_some, List.nil_append]
  refine gv_bind (P := fun l => l.map strip = s.Conts.map strip) ?_ fun l hl => gv_some (h.conts hl)
  refine gv_for (fun (l : List Cont) i => (l, i)) s.Conts.length (fun _ l => l.map strip = s.Conts.map strip) (step := dispatchref17_note_l1 i t) (by omega) ?_ ?_ (s := s.Conts) rfl
  · intro k hk l hl
    have hll : l.length = s.Conts.length := by simpa using congrArg List.length hl
    have hkl : k < l.length := by omega
    unfold dispatchref17_note_l1
    dsimp only
    rw [hll, dlt_t hk, cond_true]
    refine gv_bind (P := fun m => m.map strip = s.Conts.map strip) ?_ fun m hm => gv_some (.inl ⟨m, rfl, hm⟩)
    rw [← hll]
    simp only [inb_at hkl, Option.bind_some, List.getElem?_eq_getElem hkl]
    refine gv_cond (fun _ => gv_some ?_) fun _ => gv_some hl
    rw [← hl, List.map_set]
    have e : strip ⟨l[k].Id, l[k].App, l[k].Node, ⟨l[k].Size.Mem, l[k].Size.Cores⟩, l[k].Prio, l[k].Label, l[k].Master, t⟩ = (l.map strip)[k]'(by simpa using hkl) := by simp [strip]
    rw [e, List.set_getElem_self]
  · intro l hl
    have hll : l.length = s.Conts.length := by simpa using congrArg List.length hl
    unfold dispatchref17_note_l1
    dsimp only
    rw [hll, dlt_f]
    exact gv_some ⟨l, rfl, hl⟩

def pLeaf17 (s : State) (c : Cont) : Str := (appAt s c.App).elim [] (·.Queue)
theorem leaf17_eq {s : State} (h : SSmall s) (c : Cont) : dispatchref17_leaf s c = some (pLeaf17 s c) := by
  unfold dispatchref17_leaf pLeaf17
  rw [appFind_eq h, Option.bind_some]
  cases appAt s c.App <;> rfl
theorem leaf17_len {N : Nat} {s : State} (h : Inv N s) (c : Cont) : (pLeaf17 s c).length ≤ 1000000 := by
  unfold pLeaf17
  cases ha : appAt s c.App with
  | none => simp
  | some a => exact h.leafLen (appAt_mem ha).1
theorem others_gv {N : Nat} {s : State} (h : Inv N s) (c : Cont) : Gv (dispatchref17_others s c) fun _ => True := by
  have hcl := h.cl
  unfold dispatchref17_others
  refine gv_bind (P := fun _ => True) ?_ fun _ _ => gv_some trivial
  refine gv_for (fun (n : Int) i => (n, i)) s.Conts.length (fun _ _ => True) (step := dispatchref17_others_l1 s c) (by omega) ?_ ?_ (s := 0) trivial
  · intro k hk n _
    unfold dispatchref17_others_l1
    dsimp only
    rw [dlt_t hk, cond_true, Option.bind_some]
    refine gv_cond (fun _ => ?_) fun _ => gv_some (.inr ⟨_, rfl, trivial⟩)
    refine gv_bind (P := fun _ => True) ?_ fun n _ => gv_some (.inl ⟨n, rfl, trivial⟩)
    simp only [idx_at hk, Option.bind_some]
    refine gv_bind (P := fun _ => True) ?_ fun q _ => ?_
    · repeat' (first | exact ⟨_, rfl, trivial⟩ | refine gv_cond (fun _ => ?_) (fun _ => ?_))
    · repeat' (first | exact ⟨_, rfl, trivial⟩ | refine gv_cond (fun _ => ?_) (fun _ => ?_))
  · intro n _
    unfold dispatchref17_others_l1
    dsimp only
    rw [dlt_f]
    exact gv_some ⟨_, rfl, trivial⟩
def pIn (l : List Int) (n : Int) : Bool := l.contains n
theorem in17_eq {l : List Int} (hl : l.length ≤ 100000) (n : Int) : dispatchref17_in l n = some (pIn l n) := by
  unfold dispatchref17_in
  have e := loop_find (fun i => i) l (fun x => x == n) (fun _ => (.inl true : Bool ⊕ Unit)) (.inr ()) (step := dispatchref17_in_l1 l n) (by omega) ?_ ?_ ?_
  · rw [e]
    unfold pIn
    cases hf : l.find? fun x => x == n with
    | none =>
      have : l.contains n = false := by
        rw [List.contains_eq_any_beq, List.any_eq_false]
        intro x hx
        have := List.find?_eq_none.1 hf x hx
        simp only [beq_iff_eq] at this ⊢
        exact fun e => this e.symm
      rw [this]; rfl
    | some x =>
      have h1 := List.mem_of_find?_eq_some hf
      have h2 := List.find?_some hf
      have : l.contains n = true := by
        rw [List.contains_eq_any_beq, List.any_eq_true]
        simp only [beq_iff_eq] at h2 ⊢
        exact ⟨x, h1, h2.symm⟩
      rw [this]; rfl
  · intro k hk hp
    unfold dispatchref17_in_l1
    rw [dlt_t hk, cond_true, idx_at hk, Option.bind_some, hp]
    rfl
  · intro k hk hp
    unfold dispatchref17_in_l1
    rw [dlt_t hk, cond_true, idx_at hk, Option.bind_some, hp]
    rfl
  · unfold dispatchref17_in_l1
    rw [dlt_f]
    rfl
theorem marked_gv {N : Nat} {s : State} (h : Inv N s) (path : Str) (label : Int) {l : List Int} (hl : l.length ≤ 100000) : Gv (dispatchref17_marked s path label l) fun _ => True := by
  have hcl := h.cl
  unfold dispatchref17_marked
  refine gv_bind (P := fun _ => True) ?_ fun _ _ => gv_some trivial
  refine gv_for (fun (n : Int) i => (n, i)) s.Conts.length (fun _ _ => True) (step := dispatchref17_marked_l1 s path label l) (by omega) ?_ ?_ (s := 0) trivial
  · intro k hk n _
    unfold dispatchref17_marked_l1
    dsimp only
    rw [dlt_t hk, cond_true]
    refine gv_bind (P := fun _ => True) ?_ fun n _ => gv_some (.inl ⟨n, rfl, trivial⟩)
    rw [idx_at hk, Option.bind_some, in17_eq hl, leaf17_eq h.z]
    refine gv_bind (P := fun _ => True) ?_ fun q _ => ?_
    · simp only [Option.bind_some]
      repeat' (first | exact ⟨_, rfl, trivial⟩ | refine gv_cond (fun _ => ?_) (fun _ => ?_))
    · repeat' (first | exact ⟨_, rfl, trivial⟩ | refine gv_cond (fun _ => ?_) (fun _ => ?_))
  · intro n _
    unfold dispatchref17_marked_l1
    dsimp only
    rw [dlt_f]
    exact gv_some ⟨_, rfl, trivial⟩
theorem newest_gv {N : Nat} {s : State} (h : Inv N s) (path : Str) (label : Int) {l : List Int} (hl : l.length ≤ 100000) : Gv (dispatchref17_newest s path label l) fun r => r.2 = true → r.1 ∈ s.Conts ∧ r.1.Id ∉ l := by
  have hcl := h.cl
  unfold dispatchref17_newest
  refine gv_bind (P := fun r => r.2 = true → r.1 ∈ s.Conts ∧ r.1.Id ∉ l) ?_ fun _ hr => gv_some hr
  refine gv_for (fun (t : Cont × Bool) i => (t.1, t.2, i)) s.Conts.length (fun _ r => r.2 = true → r.1 ∈ s.Conts ∧ r.1.Id ∉ l) (step := dispatchref17_newest_l1 s path label l) (by omega) ?_ ?_ (s := ((⟨0, 0, 0, ⟨0, 0⟩, 0, 0, false, 0⟩ : Cont), false)) (by simp)
  · intro k hk t ht
    unfold dispatchref17_newest_l1
    dsimp only
    rw [dlt_t hk, cond_true]
    refine gv_bind (P := fun r => r.2 = true → r.1 ∈ s.Conts ∧ r.1.Id ∉ l) ?_ fun r hr => gv_some (.inl ⟨r, rfl, hr⟩)
    rw [idx_at hk, Option.bind_some, in17_eq hl, leaf17_eq h.z]
    refine gv_bind (P := fun b => b = false → s.Conts[k].Id ∉ l) ?_ fun q hq => ?_
    · simp only [Option.bind_some]
      refine gv_cond (fun _ => gv_some (by simp)) fun _ => gv_cond (fun _ => gv_some (by simp)) fun _ => gv_cond (fun _ => gv_some (by simp)) fun _ => gv_some fun hb => ?_
      unfold pIn at hb
      intro hm
      rw [List.contains_iff_mem.2 hm] at hb
      cases hb
    · refine gv_cond (fun _ => gv_some ht) fun hqf => ?_
      refine gv_bind (P := fun _ => True) ?_ fun q1 _ => ?_
      · repeat' (first | exact ⟨_, rfl, trivial⟩ | refine gv_cond (fun _ => ?_) (fun _ => ?_))
      · exact gv_cond (fun _ => gv_some fun _ => ⟨List.getElem_mem hk, hq hqf⟩) fun _ => gv_some ht
  · intro t ht
    unfold dispatchref17_newest_l1
    dsimp only
    rw [dlt_f, cond_false]
    exact gv_some ⟨_, rfl, ht⟩
theorem needs_gv {N : Nat} {s : State} (h : Inv N s) {path : Str} (hp : path.length ≤ 1000000) (label : Int) : Gv (dispatchref17_needs s path label) fun _ => True := by
  have hal := h.al
  unfold dispatchref17_needs
  rw [Used_eq h.sb, Option.bind_some, Least_eq h.sc hp, Option.bind_some]
  refine gv_bind (P := fun _ => True) ?_ ?_
  · refine gv_for (fun (_ : Unit) i => i) s.Apps.length (fun _ _ => True) (step := dispatchref17_needs_l1 s path label _ _) (by omega) ?_ ?_ (s := ()) trivial
    · intro k hk _ _
      have hak := (h.ak _ (List.getElem_mem hk)).al
      unfold dispatchref17_needs_l1
      rw [dlt_t hk, cond_true, idx_at hk, Option.bind_some]
      refine gv_bind (P := fun _ => True) ?_ ?_
      · refine gv_for (fun (_ : Unit) i => i) s.Apps[k].Asks.length (fun _ _ => True) (step := dispatchref17_needs_l2 s path label _ _ s.Apps[k]) (by omega) ?_ ?_ (s := ()) trivial
        · intro j hj _ _
          unfold dispatchref17_needs_l2
          rw [dlt_t hj, cond_true, Live_eq, Option.bind_some]
          refine gv_bind (P := fun _ => True) ?_ fun q _ => ?_
          · repeat' (first | exact ⟨_, rfl, trivial⟩ | refine gv_cond (fun _ => ?_) (fun _ => ?_))
          refine gv_cond (fun _ => ?_) fun _ => gv_some (.inr ⟨_, rfl, trivial⟩)
          simp only [idx_at hj, Option.bind_some]
          refine gv_bind (P := fun _ => True) ?_ fun q _ => ?_
          · repeat' (first | exact ⟨_, rfl, trivial⟩ | refine gv_cond (fun _ => ?_) (fun _ => ?_))
          refine gv_cond (fun _ => ?_) fun _ => gv_some (.inl ⟨(), rfl, trivial⟩)
          rw [Pending_eq h, Option.bind_some]
          exact gv_some (.inr ⟨_, rfl, trivial⟩)
        · intro _ _
          unfold dispatchref17_needs_l2
          rw [dlt_f]
          exact gv_some ⟨_, rfl, trivial⟩
      · rintro (q | q) _
        · exact gv_some (.inr ⟨_, rfl, trivial⟩)
        · exact gv_some (.inl ⟨(), rfl, trivial⟩)
    · intro _ _
      unfold dispatchref17_needs_l1
      rw [dlt_f]
      exact gv_some ⟨_, rfl, trivial⟩
  · rintro (q | q) _
    · exact gv_some trivial
    · exact gv_some trivial

theorem nodup_len : ∀ (l m : List Int), l.Nodup → (∀ x ∈ l, x ∈ m) → l.length ≤ m.length
  | [], m, _, _ => by simp
  | x :: l, m, hn, hm => by
    have hx := hm x (by simp)
    have h1 := List.nodup_cons.1 hn
    have := nodup_len l (m.erase x) h1.2 fun y hy => (List.mem_erase_of_ne (by rintro rfl; exact h1.1 hy)).2 (hm y (by simp [hy]))
    rw [List.length_erase_of_mem hx] at this
    have hpos := List.length_pos_of_mem hx
    simp only [List.length_cons]
    omega
theorem Pick_gv {N : Nat} {s : State} (h : Inv N s) (label : Int) : Gv (dispatchref17_Pick s label) fun l => l.length ≤ 200 := by
  have hcl := h.cl
  unfold dispatchref17_Pick
  refine gv_bind (Leaves16_gv h label) ?_
  rintro shares ⟨hsl, hsp⟩
  rw [total_eq h.sb, Option.bind_some, Used_eq h.sb, Option.bind_some]
  dsimp only
  have hpath : ∀ x ∈ shares, x.Path.length ≤ 1000000 := fun x hx => by have := (leaf_path h.cf (hsp x hx)).len; omega
  refine gv_bind (P := fun _ => True) ?_ fun need _ => ?_
  · refine gv_for (fun (n : Int) i => (n, i)) shares.length (fun _ _ => True) (step := dispatchref17_Pick_l1 s label shares) (by omega) ?_ ?_ (s := _) trivial
    · intro k hk n _
      unfold dispatchref17_Pick_l1
      dsimp only
      rw [dlt_t hk, cond_true, inb_at hk, Option.bind_some, List.getElem?_eq_getElem hk, Option.bind_some]
      exact gv_bind (needs_gv h (hpath _ (List.getElem_mem hk)) label) fun x _ => gv_some (.inl ⟨_, rfl, trivial⟩)
    · intro n _
      unfold dispatchref17_Pick_l1
      dsimp only
      rw [dlt_f]
      exact gv_some ⟨_, rfl, trivial⟩
  · refine gv_bind (P := fun r => match r with | .inl l => l.length ≤ 200 | .inr l => l.length ≤ 200) ?_ ?_
    · have hcount : ∀ l : List Int, l.Nodup → (∀ x ∈ l, ∃ c ∈ s.Conts, c.Id = x) → l.length ≤ 200 := by
        intro l hn hm
        have : l.length ≤ (s.Conts.map (·.Id)).length := by
          refine nodup_len l _ hn fun x hx => ?_
          obtain ⟨c, hc, rfl⟩ := hm x hx
          exact List.mem_map_of_mem hc
        rw [List.length_map] at this
        omega
      refine gv_loop (fun l : List Int => l.Nodup ∧ ∀ x ∈ l, ∃ c ∈ s.Conts, c.Id = x) (fun l => 200 - l.length) ?_ (t := []) ⟨List.nodup_nil, by simp⟩
      rintro l ⟨hn, hm⟩
      have hll := hcount l hn hm
      unfold dispatchref17_Pick_l2
      refine gv_bind (marked_gv h [] label (by omega)) fun x4 _ => ?_
      refine gv_cond (fun _ => ?_) fun _ => gv_some (.inr ⟨_, rfl, hll⟩)
      refine gv_bind (P := fun r => r.1 ≠ 0 → r.2 ∈ s.Conts ∧ r.2.Id ∉ l) ?_ ?_
      · refine gv_for (fun (t : Int × Cont) i => (t.1, t.2, i)) shares.length (fun _ r => r.1 ≠ 0 → r.2 ∈ s.Conts ∧ r.2.Id ∉ l) (step := dispatchref17_Pick_l3 s label shares l) (by omega) ?_ ?_ (s := ((0 : Int), (⟨0, 0, 0, ⟨0, 0⟩, 0, 0, false, 0⟩ : Cont))) (by simp)
        · intro k hk t ht
          unfold dispatchref17_Pick_l3
          dsimp only
          rw [dlt_t hk, cond_true]
          refine gv_bind (P := fun r => r.1 ≠ 0 → r.2 ∈ s.Conts ∧ r.2.Id ∉ l) ?_ fun r hr => gv_some (.inl ⟨r, rfl, hr⟩)
          simp only [inb_at hk, Option.bind_some, List.getElem?_eq_getElem hk]
          rw [Used_eq h.sb, Option.bind_some]
          refine gv_bind (marked_gv h _ label (by omega)) fun x8 _ => gv_bind (newest_gv h _ label (by omega)) fun x9 hx9 => ?_
          refine gv_bind (P := fun b => b = true → x9.2 = true) ?_ fun b hb => ?_
          · exact gv_cond (fun hx => gv_some fun _ => hx) fun _ => gv_some (by simp)
          · exact gv_cond (fun hbt => gv_some fun _ => hx9 (hb hbt)) fun _ => gv_some ht
        · intro t ht
          unfold dispatchref17_Pick_l3
          dsimp only
          rw [dlt_f, cond_false]
          exact gv_some ⟨_, rfl, ht⟩
      · rintro ⟨o, c⟩ hr
        dsimp only at hr ⊢
        refine gv_cond (fun _ => gv_some (.inr ⟨_, rfl, hll⟩)) fun ho => ?_
        obtain ⟨c1, c2⟩ := hr (by simpa using ho)
        rw [app_some (by simp; omega) (by omega), Option.bind_some]
        have hn' : (l ++ [c.Id]).Nodup := List.nodup_append.2 ⟨hn, by simp, fun a ha b hb e => by rw [List.mem_singleton] at hb; subst hb; subst e; exact c2 ha⟩
        have hm' : ∀ x ∈ l ++ [c.Id], ∃ c ∈ s.Conts, c.Id = x := by
          intro x hx
          rcases List.mem_append.1 hx with hx | hx
          · exact hm x hx
          · rw [List.mem_singleton] at hx
            subst hx
            exact ⟨c, c1, rfl⟩
        have hlen := hcount _ hn' hm'
        refine gv_some (.inl ⟨_, rfl, ⟨hn', hm'⟩, ?_⟩)
        rw [List.length_append] at hlen ⊢
        simp only [List.length_singleton] at hlen ⊢
        omega
    · rintro (q | q) hq
      · exact gv_some hq
      · exact gv_some hq

theorem kill_gv {N : Nat} (hN : N ≤ 900000) {s : State} (h : Inv N s) (label : Int) : Gv (dispatchref17_kill s label) (Inv (N + 200)) := by
  have hcl := h.cl
  unfold dispatchref17_kill
  dsimp only
  refine gv_bind (P := fun l => l.length ≤ s.Conts.length) ?_ fun l hl => ?_
  · rw [w64_id (x := (s.Conts.length : Int) - 1) (by omega) (by omega)]
    refine gv_loop (fun t : List Cont × Int => -1 ≤ t.2 ∧ t.2 < s.Conts.length ∧ (t.1.length : Int) ≤ s.Conts.length - 1 - t.2) (fun t => (t.2 + 1).toNat) ?_ (by dsimp only; simp; omega)
    rintro ⟨l, i⟩ ⟨h1, h2, h3⟩
    dsimp only at h1 h2 h3
    unfold dispatchref17_kill_l1
    dsimp only
    refine gv_cond (fun hge => ?_) fun _ => gv_some (.inr ⟨_, rfl, by omega⟩)
    simp only [decide_eq_true_eq] at hge
    refine gv_bind (P := fun m => m.length ≤ l.length + 1) ?_ fun m hm => gv_some (.inl ⟨(m, w64 (i - 1)), rfl, ?_, ?_⟩)
    · refine gv_bind (gv_true (gv_idx (by omega) h2)) fun x _ => ?_
      refine gv_bind (P := fun _ => True) ?_ fun q _ => ?_
      · repeat' (first | exact ⟨_, rfl, trivial⟩ | refine gv_cond (fun _ => ?_) (fun _ => ?_))
      refine gv_cond (fun _ => ?_) fun _ => gv_some (by omega)
      rw [app_some (by simp; omega) (by omega), Option.bind_some]
      exact gv_some (by simp)
    · rw [w64_id (x := i - 1) (by omega) (by omega)]; dsimp only; omega
    · rw [w64_id (x := i - 1) (by omega) (by omega)]; dsimp only; omega
  · refine gv_bind (P := Inv (N + 200)) ?_ fun t ht => gv_some ht
    refine gv_for (fun (t : State) i => (t, i)) l.length (fun k t => Inv (N + k) t) (step := dispatchref17_kill_l2 label l) (by omega) ?_ ?_ (s := s) h
    · intro k hk t ht
      unfold dispatchref17_kill_l2
      dsimp only
      rw [dlt_t hk, cond_true]
      refine gv_bind (P := Inv (N + (k + 1))) ?_ fun u hu => gv_some (.inl ⟨u, rfl, hu⟩)
      rw [inb_at hk, Option.bind_some, List.getElem?_eq_getElem hk, Option.bind_some, contFind_eq ht.z, Option.bind_some]
      cases hc : contAt t l[k].Id with
      | none => exact gv_some (ht.mono (by omega))
      | some c =>
        simp only [Option.elim, Bool.not_true, cond_false]
        rw [leaf17_eq ht.z, Option.bind_some, Used_eq ht.sb, Option.bind_some]
        refine gv_bind (others_gv ht c) fun x5 _ => ?_
        rw [Option.bind_some]
        refine gv_bind (Mem16_gv ht label _) fun x7 _ => ?_
        refine gv_cond (fun _ => ?_) fun _ => ?_
        · exact gv_bind (Lose_gv ht (ids := [c.Id]) (by simp; omega)) fun u hu => gv_some hu
        · exact gv_bind (note_gv ht c.Id 0) fun u hu => gv_some (hu.mono (by omega))
    · intro t ht
      unfold dispatchref17_kill_l2
      dsimp only
      rw [dlt_f]
      exact gv_some ⟨t, rfl, ht.mono (by omega)⟩

theorem Gone_gv {s t : State} (h : SSmall s) (h' : SSmall t) : Gv (dispatchref17_Gone s t) fun _ => True := by
  have hc := h.c
  unfold dispatchref17_Gone
  refine gv_bind (P := fun _ => True) ?_ fun _ _ => gv_some trivial
  refine gv_for (fun (l : List Int) i => (l, i)) s.Conts.length (fun k l => l.length ≤ k) (step := dispatchref17_Gone_l1 s t) (by omega) ?_ ?_ (s := []) (by simp)
  · intro k hk l hl
    unfold dispatchref17_Gone_l1
    dsimp only
    rw [dlt_t hk, cond_true, idx_at hk, Option.bind_some, contFind_eq h', Option.bind_some]
    refine gv_bind (P := fun m => m.length ≤ k + 1) ?_ fun m hm => gv_some (.inl ⟨m, rfl, hm⟩)
    refine gv_cond (fun _ => ?_) fun _ => gv_some (by omega)
    rw [Option.bind_some, app_some (by simp; omega) (by omega), Option.bind_some]
    exact gv_some (by simp; omega)
  · intro l hl
    unfold dispatchref17_Gone_l1
    rw [dlt_f]
    exact gv_some ⟨l, rfl, trivial⟩

theorem Round_gv {N : Nat} (hN : N ≤ 800000) {s : State} (h : Inv N s) : Gv (dispatchref17_Round s) fun r => Inv (N + 600) r.1 := by
  unfold dispatchref17_Round
  refine gv_bind (P := Inv (N + 600)) ?_ fun t ht => gv_bind (Gone_gv h.z ht.z) fun _ _ => gv_some ht
  refine gv_loop (fun t : State × Int => 0 ≤ t.2 ∧ t.2 ≤ 3 ∧ Inv (N + 200 * t.2.toNat) t.1) (fun t => (3 - t.2).toNat) ?_ (by dsimp only; exact ⟨by omega, by omega, h⟩)
  rintro ⟨t, i⟩ ⟨h1, h2, ht⟩
  dsimp only at h1 h2 ht
  have hlb := ht.cf.lab
  unfold dispatchref17_Round_l1
  dsimp only
  refine gv_cond (fun hlt => ?_) fun _ => gv_some (.inr ⟨_, rfl, ht.mono (by omega)⟩)
  simp only [decide_eq_true_eq] at hlt
  refine gv_bind (kill_gv (by omega) ht i) fun u hu => ?_
  refine gv_bind (Pick_gv hu i) fun l hl => ?_
  refine gv_bind (P := Inv (N + 200 * i.toNat + 200)) ?_ fun v hv => gv_some (.inl ⟨(v, w64 (i + 1)), rfl, ?_, ?_⟩)
  · refine gv_for (fun (t : State) i => (t, i)) l.length (fun _ t => Inv (N + 200 * i.toNat + 200) t) (step := dispatchref17_Round_l2 l) (by omega) ?_ ?_ (s := u) hu
    · intro k hk t ht
      unfold dispatchref17_Round_l2
      dsimp only
      rw [dlt_t hk, cond_true, inb_at hk, Option.bind_some, List.getElem?_eq_getElem hk, Option.bind_some]
      exact gv_bind (note_gv ht _ _) fun u hu => gv_some (.inl ⟨u, rfl, hu⟩)
    · intro t ht
      unfold dispatchref17_Round_l2
      dsimp only
      rw [dlt_f]
      exact gv_some ⟨t, rfl, ht⟩
  · rw [w64_id (x := i + 1) (by omega) (by omega)]
    dsimp only
    exact ⟨by omega, by omega, hv.mono (by omega)⟩
  · rw [w64_id (x := i + 1) (by omega) (by omega)]; dsimp only; omega

theorem Inv.at_ {N : Nat} {s : State} (h : Inv N s) {t : Int} (ht : 0 ≤ t ∧ t ≤ 1000000000) : Inv N ⟨s.Conf, s.Nodes, s.Apps, s.Conts, s.Slots, s.Plans, t, s.Epoch, s.Seq⟩ :=
  ⟨h.cf, h.nl, h.ns, h.nk, h.al, h.asr, h.ak, h.cl, h.cs, fun c hc => ⟨(h.ck c hc).size, (h.ck c hc).app, (h.ck c hc).label, (h.ck c hc).id⟩, h.ss, h.sk, h.pl, h.ps, h.pk, ht, h.ep, h.sq⟩
theorem boss_gv {s : State} (h : SSmall s) (i : Int) : Gv (dispatchref19_boss s i) fun _ => True := by
  have hc := h.c
  unfold dispatchref19_boss
  refine gv_bind (P := fun _ => True) ?_ ?_
  · refine gv_for (fun (_ : Unit) i => i) s.Conts.length (fun _ _ => True) (step := dispatchref19_boss_l1 s i) (by omega) ?_ ?_ (s := ()) trivial
    · intro k hk _ _
      unfold dispatchref19_boss_l1
      rw [dlt_t hk, cond_true]
      simp only [idx_at hk, Option.bind_some]
      refine gv_bind (P := fun _ => True) ?_ fun q _ => ?_
      · repeat' (first | exact ⟨_, rfl, trivial⟩ | refine gv_cond (fun _ => ?_) (fun _ => ?_))
      exact gv_cond (fun _ => gv_some (.inr ⟨_, rfl, trivial⟩)) fun _ => gv_some (.inl ⟨(), rfl, trivial⟩)
    · intro _ _
      unfold dispatchref19_boss_l1
      rw [dlt_f]
      exact gv_some ⟨_, rfl, trivial⟩
  · rintro (q | q) _
    · exact gv_some trivial
    · exact gv_some trivial
theorem Silent8_gv {s : State} (h : SSmall s) : Gv (dispatchref8_Silent s) fun l => l.length ≤ s.Nodes.length := by
  have hc := h.n
  unfold dispatchref8_Silent
  refine gv_bind (P := fun l => l.length ≤ s.Nodes.length) ?_ fun l hl => gv_some hl
  refine gv_for (fun (l : List Int) i => (l, i)) s.Nodes.length (fun k l => l.length ≤ k) (step := dispatchref8_Silent_l1 s) (by omega) ?_ ?_ (s := []) (by simp)
  · intro k hk l hl
    unfold dispatchref8_Silent_l1
    dsimp only
    rw [dlt_t hk, cond_true]
    simp only [idx_at hk, Option.bind_some]
    refine gv_bind (P := fun m => m.length ≤ k + 1) ?_ fun m hm => gv_some (.inl ⟨m, rfl, hm⟩)
    refine gv_bind (P := fun _ => True) ?_ fun q _ => ?_
    · repeat' (first | exact ⟨_, rfl, trivial⟩ | refine gv_cond (fun _ => ?_) (fun _ => ?_))
    refine gv_cond (fun _ => ?_) fun _ => gv_some (by omega)
    rw [app_some (by simp; omega) (by omega), Option.bind_some]
    exact gv_some (by simp; omega)
  · intro l hl
    unfold dispatchref8_Silent_l1
    rw [dlt_f]
    exact gv_some ⟨l, rfl, hl⟩
theorem Silent10_gv {s : State} (h : SSmall s) : Gv (dispatchref10_Silent s) fun l => l.length ≤ s.Apps.length := by
  have hc := h.a
  unfold dispatchref10_Silent
  refine gv_bind (P := fun l => l.length ≤ s.Apps.length) ?_ fun l hl => gv_some hl
  refine gv_for (fun (l : List Int) i => (l, i)) s.Apps.length (fun k l => l.length ≤ k) (step := dispatchref10_Silent_l1 s) (by omega) ?_ ?_ (s := []) (by simp)
  · intro k hk l hl
    unfold dispatchref10_Silent_l1
    dsimp only
    rw [dlt_t hk, cond_true]
    simp only [idx_at hk, Option.bind_some]
    refine gv_bind (P := fun m => m.length ≤ k + 1) ?_ fun m hm => gv_some (.inl ⟨m, rfl, hm⟩)
    refine gv_bind (P := fun _ => True) ?_ fun q _ => ?_
    · repeat' (first | exact ⟨_, rfl, trivial⟩ | refine gv_cond (fun _ => ?_) (fun _ => ?_))
    refine gv_cond (fun _ => ?_) fun _ => gv_some (by omega)
    rw [app_some (by simp; omega) (by omega), Option.bind_some]
    exact gv_some (by simp; omega)
  · intro l hl
    unfold dispatchref10_Silent_l1
    rw [dlt_f]
    exact gv_some ⟨l, rfl, hl⟩

theorem tick_gv {N : Nat} (hN : N ≤ 500000) {s : State} (h : Inv N s) (n : Int) : Gv (dispatchref19_tick s n) fun r => Inv (N + 3100) r.1 := by
  have hnl := h.nl
  have hnow := h.now
  unfold dispatchref19_tick
  refine gv_bind (P := fun b => b = false → 1 ≤ n ∧ n ≤ 100) ?_ fun b hb => ?_
  · refine gv_cond (fun _ => gv_some (by simp)) fun h1 => gv_some fun h2 => ?_
    simp only [decide_eq_false_iff_not] at h1 h2
    omega
  refine gv_cond (fun _ => gv_some (h.mono (by omega))) fun hbf => ?_
  obtain ⟨n1, n2⟩ := hb hbf
  rw [w64_id (x := s.Now + n) (by omega) (by omega)]
  refine gv_cond (fun _ => gv_some (h.mono (by omega))) fun hle => ?_
  simp only [decide_eq_false_iff_not] at hle
  have h0 := h.at_ (t := s.Now + n) ⟨by omega, by omega⟩
  obtain ⟨s0, hs0⟩ : ∃ s0, s0 = (⟨⟨s.Conf.Labels, s.Conf.Queues⟩, s.Nodes, s.Apps, s.Conts, s.Slots, s.Plans, s.Now + n, s.Epoch, s.Seq⟩ : State) := ⟨_, rfl⟩
  have h0 : Inv N s0 := by rw [hs0]; exact h0
  have hs0n : s0.Nodes = s.Nodes := by rw [hs0]
  rw [← hs0]
  clear hs0
  refine gv_bind (Silent8_gv h0.z) fun l hl => ?_
  rw [hs0n] at hl
  refine gv_bind (P := Inv (N + 200 * 12)) ?_ fun s1 hs1 => ?_
  · refine gv_for (fun (t : State) i => (t, i)) l.length (fun k t => Inv (N + 200 * k) t) (step := dispatchref19_tick_l1 l) (by omega) ?_ ?_ (s := s0) h0
    · intro k hk t ht
      unfold dispatchref19_tick_l1
      dsimp only
      rw [dlt_t hk, cond_true]
      simp only [inb_at hk, Option.bind_some, List.getElem?_eq_getElem hk]
      refine gv_bind (Down_gv ht _) fun u hu => ?_
      rw [noSlot_eq hu.z, Option.bind_some]
      have hv := hu.noSlot l[k]
      rw [on_eq hv.z, Option.bind_some]
      have hlen : (((pNoSlot u l[k]).Conts.filter fun c => c.Node == l[k]).map (·.Id)).length ≤ 200 := by
        rw [List.length_map]
        exact Nat.le_trans (List.length_filter_le _ _) hv.cl
      generalize ((pNoSlot u l[k]).Conts.filter fun c => c.Node == l[k]).map (·.Id) = ids at hlen ⊢
      generalize pNoSlot u l[k] = w at hv ⊢
      have hL := Lose_gv hv (ids := ids) (by omega)
      refine gv_bind hL fun v hv => gv_some (.inl ⟨v, rfl, ?_⟩)
      exact hv.mono (by omega)
    · intro t ht
      unfold dispatchref19_tick_l1
      dsimp only
      rw [dlt_f]
      exact gv_some ⟨t, rfl, ht.mono (by omega)⟩
  · refine gv_bind (Silent10_gv hs1.z) fun l1 hl1 => ?_
    have hal := hs1.al
    refine gv_bind (P := Inv (N + 200 * 12 + 16)) ?_ fun s2 hs2 => ?_
    · refine gv_for (fun (t : State) i => (t, i)) l1.length (fun k t => Inv (N + 200 * 12 + k) t) (step := dispatchref19_tick_l2 l1) (by omega) ?_ ?_ (s := s1) hs1
      · intro k hk t ht
        unfold dispatchref19_tick_l2
        dsimp only
        rw [dlt_t hk, cond_true, inb_at hk, Option.bind_some, List.getElem?_eq_getElem hk, Option.bind_some]
        refine gv_bind (boss_gv ht.z _) fun x10 _ => ?_
        exact gv_bind (Lose_gv ht (ids := [x10]) (by simp; omega)) fun u hu => gv_some (.inl ⟨u, rfl, hu⟩)
      · intro t ht
        unfold dispatchref19_tick_l2
        dsimp only
        rw [dlt_f]
        exact gv_some ⟨t, rfl, ht.mono (by omega)⟩
    · have hpl := hs2.pl
      have e := loop_filter (fun (l : List Plan) i => (l, i)) s2.Plans (fun p => decide (p.Until > s2.Now)) id (step := dispatchref19_tick_l3 s2) (by omega) ?_ ?_
      · rw [e, Option.bind_some, List.map_id]
        have h3 := hs2.plans (ps := s2.Plans.filter fun p => decide (p.Until > s2.Now)) List.filter_sublist
        refine gv_bind (Round_gv (by omega) h3) fun r hr => ?_
        exact gv_bind (Gone_gv h.z hr.z) fun _ _ => gv_some (hr.mono (by omega))
      · intro k hk l hl
        unfold dispatchref19_tick_l3
        dsimp only
        rw [dlt_t hk, cond_true, idx_at hk, Option.bind_some]
        cases hp : decide (s2.Plans[k].Until > s2.Now)
        · rfl
        · rw [cond_true, Option.bind_some, app_some (by simp; omega) (by omega)]
          rfl
      · intro l
        unfold dispatchref19_tick_l3
        rw [dlt_f]
        rfl

/-- an input that is not too much -/
structure InOk (x : Input) : Prop where
  ids : x.Ids.length ≤ 1000
  asks : x.Asks.length ≤ 1000
  user : 0 ≤ x.App.User ∧ x.App.User ≤ 2
theorem Step_gv {N : Nat} (hN : N ≤ 500000) {s : State} (h : Inv N s) {x : Input} (hx : InOk x) : Gv (dispatchref19_Step s x) fun r => Inv (N + 4000) r.1 := by
  have m : ∀ {t : State}, Inv N t → Inv (N + 4000) t := fun ht => ht.mono (by omega)
  unfold dispatchref19_Step
  refine gv_cond (fun _ => gv_bind (config_gv h _) fun r hr => gv_some (m hr)) fun _ => ?_
  refine gv_cond (fun _ => gv_bind (Register_gv h _) fun r hr => gv_some (m hr)) fun _ => ?_
  refine gv_cond (fun _ => gv_bind (beat_gv (by omega) h x hx.ids) fun r hr => gv_some (hr.mono (by omega))) fun _ => ?_
  refine gv_cond (fun _ => gv_bind (Submit_gv h _ hx.user) fun r hr => gv_some (m hr)) fun _ => ?_
  refine gv_cond (fun _ => gv_bind (master_gv (by omega) h x hx.ids hx.asks) fun r hr => gv_some (m hr)) fun _ => ?_
  refine gv_cond (fun _ => gv_bind (end_gv h _ _ (.inl rfl)) fun r hr => gv_some (m hr)) fun _ => ?_
  refine gv_cond (fun _ => gv_bind (end_gv h _ _ (.inr rfl)) fun r hr => gv_some (m hr)) fun _ => ?_
  refine gv_cond (fun _ => gv_bind (tick_gv hN h _) fun r hr => gv_some (hr.mono (by omega))) fun _ => ?_
  refine gv_cond (fun _ => gv_bind (Add15_gv h _ _) fun r hr => gv_some (m hr)) fun _ => ?_
  refine gv_cond (fun _ => gv_bind (Drop_gv h _) fun r hr => gv_some (m hr)) fun _ => ?_
  refine gv_cond (fun _ => ?_) fun _ => gv_some (m h)
  refine gv_cond (fun _ => gv_some (m h)) fun he => gv_some (m ?_)
  simp only [decide_eq_false_iff_not] at he
  have hep := h.ep
  have hsq := h.sq
  rw [w64_id (x := s.Epoch + 1) (by omega) (by omega)]
  refine ⟨h.cf, h.nl, h.ns, h.nk, h.al, h.asr, h.ak, h.cl, h.cs, fun c hc => ?_, h.ss, h.sk, h.pl, h.ps, h.pk, h.now, by dsimp only; omega, by dsimp only; omega⟩
  have := h.ck c hc
  have hid := this.id
  exact ⟨this.size, this.app, this.label, by dsimp only; omega⟩
end Go.Fx.D

/-
  The reference manager: what holds of its state after every script. Conditions: none.
-/
import Derived.Test.YteodpoelbdakgaaGreatS11
/-
  Chapters 8, 9, 10, 19: nodes, applications: each step leads from a state that is right to one that is.
-/
namespace Go.Fx.D
open Go Go.Fx
set_option linter.unusedVariables false
set_option linter.unusedSimpArgs false

def firstK (a : App) : Ask := ⟨0, 0, ⟨a.Master.Mem, a.Master.Cores⟩, 1, -1, -1, 0⟩
theorem firstK_ok {c : Conf} (hc : ConfOk c) {a : App} (h : SzOk a.Master) : AskOk c (firstK a) := ⟨by have := hc.lab; show 0 ≤ (0 : Int) ∧ (0 : Int) < c.Labels.length; omega, h, by show 1 ≤ (1 : Int) ∧ (1 : Int) ≤ 50; omega⟩

/-- an application without containers or slots: another one in its place -/
theorem Inv.reset {N : Nat} {s : State} (h : Inv N s) {a b : App} (ha : a ∈ s.Apps) (hid : b.Id = a.Id) (hb : AppOk N s.Conf b) : Inv N (pShed (pPutA s b) a.Id) := by
  have h1 := h.shed a.Id
  have h2 : Inv N (pPutA (pShed s a.Id) b) := h1.putA ⟨a, ha, hid.symm⟩ hb (.inr fun c hc e => by
    have := (List.mem_filter.1 hc).2
    rw [hid] at e
    simp [e] at this)
  exact h2

theorem contAt_mem {s : State} {i : Int} {c : Cont} (h : contAt s i = some c) : c ∈ s.Conts ∧ c.Id = i := find_id2 h

theorem Lose1_gv {N : Nat} (hN : N ≤ 1000000) {s : State} (h : Inv N s) (i : Int) : Gv ((dispatchref10_Cont s i).bind fun x1 =>
      bif ! x1.2 then
        some s
      else
        (dispatchref10_Find s x1.1.App).bind fun x2 =>
        bif x1.1.Master then
          (dispatchref10_first x2.1).bind fun x3 =>
          (dispatchref10_Put s (⟨x2.1.Id, 1, x2.1.Queue, x2.1.User, x2.1.Prio, ⟨x2.1.Master.Mem, x2.1.Master.Cores⟩, x3, s.Now, 0, [], [], [], []⟩ : App)).bind fun x4 =>
          (dispatchref10_shed x4 x1.1.App).bind fun x5 =>
          some x5.1
        else
          (dispatchref10_Away s x1.1.Id).bind fun x6 =>
          (dispatchref10_Without x2.1.Grants x1.1.Id).bind fun x7 =>
          (
            bif ! x7.2 then
              (app 8 [] x2.1.Kills).bind fun l =>
              (app 8 l [x1.1.Id]).bind fun l1 =>
              some (⟨x2.1.Id, x2.1.State, x2.1.Queue, x2.1.User, x2.1.Prio, ⟨x2.1.Master.Mem, x2.1.Master.Cores⟩, x2.1.Asks, x2.1.Seen, x2.1.Beat, x7.1, l1, x2.1.Told, x2.1.Lost⟩ : App)
            else
              some (⟨x2.1.Id, x2.1.State, x2.1.Queue, x2.1.User, x2.1.Prio, ⟨x2.1.Master.Mem, x2.1.Master.Cores⟩, x2.1.Asks, x2.1.Seen, x2.1.Beat, x7.1, x2.1.Kills, x2.1.Told, x2.1.Lost⟩ : App)).bind fun a =>
          (dispatchref10_Put x6 a).bind fun x8 =>
          some x8) (Inv (N + 1)) := by
  rw [contFind_eq h.z, Option.bind_some]
  cases hc : contAt s i with
  | none => exact gv_some (h.mono (by omega))
  | some c =>
    obtain ⟨hcm, _⟩ := contAt_mem hc
    obtain ⟨a, ha, e1, e2⟩ := (h.ck c hcm).app
    have hak := h.ak a ha
    simp only [Option.elim, Bool.not_true, cond_false]
    rw [appFind_eq h.z, ← e1, h.appAt ha, Option.bind_some]
    simp only [Option.elim]
    refine gv_cond (fun _ => ?_) fun _ => ?_
    · show Gv ((some [firstK a]).bind _) _
      rw [Option.bind_some]
      refine gv_bind (P := fun t => t = pPutA s ⟨a.Id, 1, a.Queue, a.User, a.Prio, ⟨a.Master.Mem, a.Master.Cores⟩, [firstK a], s.Now, 0, [], [], [], []⟩) (gv_eq (putA_eq h.z _) rfl) ?_
      rintro t rfl
      have hok : AppOk N s.Conf ⟨a.Id, 1, a.Queue, a.User, a.Prio, ⟨a.Master.Mem, a.Master.Cores⟩, [firstK a], s.Now, 0, [], [], [], []⟩ :=
        ⟨by dsimp only; omega, hak.user, hak.path, fun _ => hak.leaf (.inr e2), hak.mas, by simp, fun x hx => by
          have : x = firstK a := by simpa using hx
          subst this
          exact firstK_ok h.cf hak.mas, by simp, by simp, by simp, by simp⟩
      have hz : SSmall (pPutA s ⟨a.Id, 1, a.Queue, a.User, a.Prio, ⟨a.Master.Mem, a.Master.Cores⟩, [firstK a], s.Now, 0, [], [], [], []⟩) := by
        refine ⟨h.z.n, ?_, h.z.c, h.z.l, h.z.p⟩
        have := (putG_len (id := fun x : App => x.Id) (l := s.Apps) (a := ⟨a.Id, 1, a.Queue, a.User, a.Prio, ⟨a.Master.Mem, a.Master.Cores⟩, [firstK a], s.Now, 0, [], [], [], []⟩)).1
        have h2 := h.al
        show (putG _ _ _).length ≤ 100000
        omega
      rw [shed_eq hz, Option.bind_some]
      have hr := h.reset (b := ⟨a.Id, 1, a.Queue, a.User, a.Prio, ⟨a.Master.Mem, a.Master.Cores⟩, [firstK a], s.Now, 0, [], [], [], []⟩) ha rfl hok
      exact gv_some (hr.mono (by omega))
    · rw [away_eq h.z, Option.bind_some, without_eq (by have := hak.gr; omega), Option.bind_some]
      have hA := h.away c.Id
      have hgl : (a.Grants.filter fun x => x != c.Id).length ≤ a.Grants.length := List.length_filter_le _ _
      refine gv_bind (P := fun b => b.Id = a.Id ∧ b.State = 2 ∧ AppOk (N + 1) s.Conf b) ?_ ?_
      · refine gv_cond (fun _ => ?_) fun _ => ?_
        · rw [app_some (by have := hak.ki; simp; omega) (by omega), Option.bind_some, app_some (by have := hak.ki; simp; omega) (by omega), Option.bind_some]
          refine gv_some ⟨rfl, e2, hak.st, hak.user, hak.path, hak.leaf, hak.mas, hak.al, hak.ask, by have := hak.gr; dsimp only; omega, by have := hak.ki; simp; omega, Nat.le_succ_of_le hak.to, Nat.le_succ_of_le hak.lo⟩
        · exact gv_some ⟨rfl, e2, hak.st, hak.user, hak.path, hak.leaf, hak.mas, hak.al, hak.ask, by have := hak.gr; dsimp only; omega, Nat.le_succ_of_le hak.ki, Nat.le_succ_of_le hak.to, Nat.le_succ_of_le hak.lo⟩
      · rintro b ⟨b1, b2, b3⟩
        rw [putA_eq hA.z, Option.bind_some]
        exact gv_some ((hA.mono (Nat.le_succ N)).putA ⟨a, ha, b1.symm⟩ b3 (.inl b2))

theorem Lose_gv {N : Nat} {s : State} (h : Inv N s) {ids : List Int} (hN : N + ids.length ≤ 1000000) : Gv (dispatchref10_Lose s ids) (Inv (N + ids.length)) := by
  unfold dispatchref10_Lose
  refine gv_bind (P := Inv (N + ids.length)) ?_ fun t ht => gv_some ht
  refine gv_for (fun (p : State) i => (p, i)) ids.length (fun k p => Inv (N + k) p) (step := dispatchref10_Lose_l1 ids) (by omega) ?_ ?_ (s := s) h
  · intro k hk t ht
    unfold dispatchref10_Lose_l1
    rw [dlt_t hk, cond_true]
    dsimp only
    rw [idx_at hk, Option.bind_some]
    refine gv_bind (Lose1_gv (by omega) ht ids[k]) fun u hu => gv_some (.inl ⟨u, rfl, hu⟩)
  · intro t ht
    unfold dispatchref10_Lose_l1
    rw [dlt_f]
    exact gv_some ⟨t, rfl, ht⟩

/-! nodes -/
theorem nodeAt_mem {s : State} {i : Int} {n : Node} (h : nodeAt s i = some n) : n ∈ s.Nodes ∧ n.Id = i := find_id2 h
theorem Beat8_gv {N : Nat} {s : State} (h : Inv N s) (i b : Int) : Gv (dispatchref8_Beat s i b) fun r => Inv N r.1 := by
  unfold dispatchref8_Beat
  rw [nodeFind_eq h.z, Option.bind_some]
  cases hn : nodeAt s i with
  | none => exact gv_some h
  | some n =>
    obtain ⟨hm, _⟩ := nodeAt_mem hn
    simp only [Option.elim, Bool.not_true, cond_false]
    refine gv_cond (fun _ => gv_some h) fun _ => gv_cond (fun _ => gv_some h) fun _ => gv_cond (fun _ => gv_some h) fun _ => gv_cond (fun _ => gv_some h) fun _ => ?_
    rw [putN_eq h.z, Option.bind_some]
    exact gv_some (h.putN (.inl ⟨n, hm, rfl⟩) (h.nk n hm))
theorem Down_gv {N : Nat} {s : State} (h : Inv N s) (i : Int) : Gv (dispatchref8_Down s i) (Inv N) := by
  unfold dispatchref8_Down
  rw [nodeFind_eq h.z, Option.bind_some]
  cases hn : nodeAt s i with
  | none => exact gv_some h
  | some n =>
    obtain ⟨hm, _⟩ := nodeAt_mem hn
    simp only [Option.elim, Bool.not_true, cond_false]
    rw [putN_eq h.z, Option.bind_some]
    exact gv_some (h.putN (.inl ⟨n, hm, rfl⟩) (h.nk n hm))
theorem part8_eq (n : Int) : dispatchref8_part n = some (decide (0 ≤ n) && decide (n ≤ 1073741824)) := by
  unfold dispatchref8_part
  by_cases h : n ≥ 0
  · rw [decide_eq_true h]; rfl
  · rw [decide_eq_false h]; rfl
theorem Register_gv {N : Nat} {s : State} (h : Inv N s) (n : Node) : Gv (dispatchref8_Register s n) fun r => Inv N r.1 := by
  unfold dispatchref8_Register
  refine gv_bind (P := fun b => b = false → VB 1073741824 n.Cap ∧ 0 ≤ n.Label ∧ n.Label < s.Conf.Labels.length) ?_ ?_
  · refine gv_cond (fun _ => gv_some (by simp)) fun _ => gv_cond (fun _ => gv_some (by simp)) fun _ => gv_cond (fun _ => gv_some (by simp)) fun h1 => gv_cond (fun _ => gv_some (by simp)) fun h2 =>
      gv_cond (fun _ => gv_some (by simp)) fun _ => gv_cond (fun _ => gv_some (by simp)) fun _ => ?_
    rw [part8_eq, Option.bind_some]
    refine gv_cond (fun _ => gv_some (by simp)) fun h3 => ?_
    rw [part8_eq, Option.bind_some]
    refine gv_some fun h4 => ?_
    simp only [decide_eq_false_iff_not, Bool.not_eq_false', Bool.and_eq_true, decide_eq_true_eq] at h1 h2 h3 h4
    exact ⟨⟨h3, h4⟩, by omega, by omega⟩
  · intro b hb
    refine gv_cond (fun _ => gv_some h) fun hbf => ?_
    have hb := hb hbf
    rw [nodeFind_eq h.z, Option.bind_some]
    cases hn : nodeAt s n.Id with
    | none =>
      simp only [Option.elim, cond_false, Option.bind_some, Bool.not_false, cond_true]
      refine gv_cond (fun _ => gv_some h) fun hlen => ?_
      rw [putN_eq h.z, Option.bind_some]
      simp only [decide_eq_false_iff_not] at hlen
      exact gv_some (h.putN (.inr (by omega)) hb)
    | some m =>
      obtain ⟨hm, hid⟩ := nodeAt_mem hn
      simp only [Option.elim, cond_true, Option.bind_some, Bool.not_true, cond_false]
      refine gv_cond (fun _ => gv_some h) fun _ => ?_
      rw [putN_eq h.z, Option.bind_some]
      exact gv_some (h.putN (.inl ⟨m, hm, hid⟩) hb)

/-! applications -/
theorem forget_fold (p : App → Bool) : ∀ (l z : List App) (d : Bool), l.foldl (fun (t : List App × Bool) x => if (!t.2 && p x) = true then (t.1, true) else (t.1 ++ [x], t.2)) (z, d) = (z ++ (if d = true then l else l.eraseP p), d || l.any p)
  | [], z, d => by cases d <;> simp
  | x :: l, z, d => by
    rw [List.foldl_cons]
    cases d with
    | true =>
      rw [if_neg (by simp), forget_fold p l]
      simp
    | false =>
      cases hp : p x with
      | true =>
        rw [if_pos (by simp), forget_fold p l]
        simp [hp]
      | false =>
        rw [if_neg (by simp), forget_fold p l]
        simp [hp]
theorem forget_eq {s : State} (h : SSmall s) : dispatchref10_forget s = some ⟨s.Conf, s.Nodes, s.Apps.eraseP fun a => !pLive a, s.Conts, s.Slots, s.Plans, s.Now, s.Epoch, s.Seq⟩ := by
  unfold dispatchref10_forget
  have hn := h.a
  have e := (loop_fold (fun (t : List App × Bool) i => (t.1, t.2, i)) s.Apps (fun (t : List App × Bool) x => if (!t.2 && !pLive x) = true then (t.1, true) else (t.1 ++ [x], t.2)) (fun k t => t.1.length ≤ k) (fun t => t.1)
    (step := dispatchref10_forget_l1 s) (by omega) ?_ ?_ (s := ([], false)) (by simp)).1
  · rw [e, forget_fold (fun a => !pLive a), Option.bind_some]
    simp
  · rintro k hk ⟨l, d⟩ hl
    dsimp only at hl ⊢
    refine ⟨?_, by split <;> (try simp) <;> omega⟩
    unfold dispatchref10_forget_l1
    dsimp only
    rw [dlt_t hk, cond_true, idx_at hk, Option.bind_some, Live_eq, Option.bind_some]
    cases d <;> cases pLive s.Apps[k] <;>
      simp [app_some (b := 200) (l := l) (m := [s.Apps[k]]) (by simp; omega) (by omega)]
  · rintro ⟨l, d⟩ _
    unfold dispatchref10_forget_l1
    dsimp only
    rw [dlt_f]
    rfl
theorem Inv.forget {N : Nat} {s : State} (h : Inv N s) : Inv N ⟨s.Conf, s.Nodes, s.Apps.eraseP fun a => !pLive a, s.Conts, s.Slots, s.Plans, s.Now, s.Epoch, s.Seq⟩ := by
  have hs : (s.Apps.eraseP fun a => !pLive a).Sublist s.Apps := List.eraseP_sublist
  refine ⟨h.cf, h.nl, h.ns, h.nk, Nat.le_trans hs.length_le h.al, h.asr.sublist hs, fun a ha => h.ak a (hs.subset ha), h.cl, h.cs, fun c hc => ?_, h.ss, h.sk, h.pl, h.ps, h.pk, h.now, h.ep, h.sq⟩
  have := h.ck c hc
  refine ⟨this.size, ?_, this.label, this.id⟩
  obtain ⟨a, ha, e1, e2⟩ := this.app
  refine ⟨a, ?_, e1, e2⟩
  exact (List.mem_eraseP_of_neg (by unfold pLive; simp [e2])).2 ha
theorem part10_eq (n : Int) : dispatchref10_part n = some (decide (1 ≤ n) && decide (n ≤ 1073741824)) := by
  unfold dispatchref10_part
  by_cases h : n ≥ 1
  · rw [decide_eq_true h]; rfl
  · rw [decide_eq_false h]; rfl
theorem Submit_live {s : State} (h : SSmall s) : loop (dispatchref10_Submit_l1 s) (0, 0) = some ((s.Apps.filter pLive).length : Int) := by
  have hn := h.a
  have e := (loop_fold (fun (t : Int) i => (t, i)) s.Apps (fun t x => if pLive x = true then t + 1 else t) (fun k t => 0 ≤ t ∧ t ≤ k) (fun t => t) (step := dispatchref10_Submit_l1 s) (by omega) ?_ ?_ (s := 0) (by simp)).1
  · rw [e]
    have gen : ∀ (l : List App) (z : Int), l.foldl (fun t x => if pLive x = true then t + 1 else t) z = z + ((l.filter pLive).length : Int) := by
      intro l
      induction l with
      | nil => intro z; simp
      | cons x l ih =>
        intro z
        rw [List.foldl_cons, ih, List.filter_cons]
        split
        · simp; omega
        · rfl
    rw [gen, Int.zero_add]
  · intro k hk t ht
    refine ⟨?_, by split <;> omega⟩
    unfold dispatchref10_Submit_l1
    dsimp only
    rw [dlt_t hk, cond_true, idx_at hk, Option.bind_some, Live_eq, Option.bind_some]
    cases pLive s.Apps[k]
    · rfl
    · simp only [cond_true, Option.bind_some, if_true]
      rw [w64_id (x := t + 1) (by omega) (by omega)]
  · intro t _
    unfold dispatchref10_Submit_l1
    rw [dlt_f]
    rfl
theorem Submit_gv {N : Nat} {s : State} (h : Inv N s) (a : App) (hu : 0 ≤ a.User ∧ a.User ≤ 2) : Gv (dispatchref10_Submit s a) fun r => Inv N r.1 := by
  unfold dispatchref10_Submit
  refine gv_bind (P := fun b => b = false → SzOk a.Master) ?_ ?_
  · refine gv_cond (fun _ => gv_some (by simp)) fun _ => gv_cond (fun _ => gv_some (by simp)) fun _ => gv_cond (fun _ => gv_some (by simp)) fun h1 => gv_cond (fun _ => gv_some (by simp)) fun h2 =>
      gv_cond (fun _ => gv_some (by simp)) fun _ => gv_cond (fun _ => gv_some (by simp)) fun _ => ?_
    rw [part10_eq, Option.bind_some]
    refine gv_cond (fun _ => gv_some (by simp)) fun h3 => ?_
    rw [part10_eq, Option.bind_some]
    refine gv_some fun h4 => ?_
    simp only [Bool.not_eq_false', Bool.and_eq_true, decide_eq_true_eq] at h3 h4
    exact ⟨h3, h4⟩
  · intro b hb
    refine gv_cond (fun _ => gv_some h) fun hbf => ?_
    have hb := hb hbf
    rw [appFind_eq h.z, Option.bind_some]
    cases hn : appAt s a.Id with
    | some m => exact gv_some h
    | none =>
      have hno := find_id0 hn
      simp only [Option.elim, cond_false]
      rw [Submit_live h.z, Option.bind_some]
      refine gv_cond (fun _ => gv_some h) fun hlv => ?_
      rw [leaf_eq h.cf.small, Option.bind_some]
      refine gv_cond (fun _ => gv_some h) fun hleaf => ?_
      have hleaf : pLeaf s.Conf a.Queue = true := by simpa using hleaf
      simp only [decide_eq_false_iff_not] at hlv
      refine gv_bind (P := fun t => Inv N t ∧ t.Apps.length < 16 ∧ (∀ x ∈ t.Apps, x ∈ s.Apps) ∧ t.Conf = s.Conf) ?_ ?_
      · refine gv_cond (fun hge => ?_) fun hlt => ?_
        · rw [forget_eq h.z, Option.bind_some]
          refine gv_some ⟨h.forget, ?_, fun x hx => List.eraseP_sublist.subset hx, rfl⟩
          have hex : ∃ x ∈ s.Apps, (!pLive x) = true := by
            apply Classical.byContradiction
            intro hne
            have : s.Apps.filter pLive = s.Apps := List.filter_eq_self.2 fun x hx => by
              cases hp : pLive x with
              | true => rfl
              | false => exact absurd ⟨x, hx, by rw [hp]; rfl⟩ hne
            rw [this] at hlv
            simp only [decide_eq_true_eq] at hge
            omega
          obtain ⟨x, hx, hp⟩ := hex
          have hl := List.length_eraseP_of_mem (p := fun a => !pLive a) hx hp
          have h2 := h.al
          show (s.Apps.eraseP _).length < 16
          have hpos := List.length_pos_of_mem hx
          omega
        · simp only [decide_eq_false_iff_not] at hlt
          exact gv_some ⟨h, by omega, fun x hx => hx, rfl⟩
      · rintro t ⟨ht, htl, hts, htc⟩
        show Gv ((some [firstK a]).bind _) _
        rw [Option.bind_some, putA_eq ht.z, Option.bind_some]
        refine gv_some ?_
        have hno' : ∀ x ∈ t.Apps, x.Id ≠ a.Id := fun x hx => hno x (hts x hx)
        have hok : AppOk N t.Conf ⟨a.Id, 1, a.Queue, a.User, a.Prio, ⟨a.Master.Mem, a.Master.Cores⟩, [firstK a], t.Now, 0, [], [], [], []⟩ :=
          ⟨by dsimp only; omega, hu, leaf_path h.cf hleaf, fun _ => by rw [htc]; exact hleaf, hb, by simp, fun x hx => by
            have : x = firstK a := by simpa using hx
            subst this
            exact firstK_ok ht.cf hb, by simp, by simp, by simp, by simp⟩
        refine ⟨ht.cf, ht.nl, ht.ns, ht.nk, ?_, putG_sorted ht.asr, ?_, ht.cl, ht.cs, ?_, ht.ss, ht.sk, ht.pl, ht.ps, ht.pk, ht.now, ht.ep, ht.sq⟩
        · have := (putG_len (id := fun x : App => x.Id) (l := t.Apps) (a := ⟨a.Id, 1, a.Queue, a.User, a.Prio, ⟨a.Master.Mem, a.Master.Cores⟩, [firstK a], t.Now, 0, [], [], [], []⟩)).1
          show (putG _ _ _).length ≤ 16
          omega
        · intro x hx
          rcases (putG_mem ht.asr).1 hx with rfl | ⟨hx, _⟩
          · exact hok
          · exact ht.ak x hx
        · intro c hc
          have := ht.ck c hc
          refine ⟨this.size, ?_, this.label, this.id⟩
          obtain ⟨b, hb, e1, e2⟩ := this.app
          exact ⟨b, (putG_mem ht.asr).2 (.inr ⟨hb, hno' b hb⟩), e1, e2⟩
theorem End_gv {N : Nat} {s : State} (h : Inv N s) (i st : Int) (hst : st = 3 ∨ st = 4) : Gv (dispatchref10_End s i st) fun r => Inv N r.1 := by
  unfold dispatchref10_End
  rw [appFind_eq h.z, Option.bind_some]
  cases hn : appAt s i with
  | none => exact gv_some h
  | some a =>
    obtain ⟨ha, rfl⟩ := appAt_mem hn
    have hak := h.ak a ha
    simp only [Option.elim, Bool.not_true, cond_false]
    rw [Live_eq, Option.bind_some, Option.bind_some]
    refine gv_cond (fun _ => gv_some h) fun _ => ?_
    have hz : ∀ b : App, SSmall (pPutA s b) := by
      intro b
      refine ⟨h.z.n, ?_, h.z.c, h.z.l, h.z.p⟩
      have := (putG_len (id := fun x : App => x.Id) (l := s.Apps) (a := b)).1
      have h2 := h.al
      show (putG _ _ _).length ≤ 100000
      omega
    rw [putA_eq h.z, Option.bind_some, shed_eq (hz _), Option.bind_some]
    refine gv_some (h.reset ha rfl ⟨by dsimp only; omega, hak.user, hak.path, fun e => by dsimp only at e; omega, hak.mas, by simp, by simp, by simp, by simp, by simp, by simp⟩)
theorem end_gv {N : Nat} {s : State} (h : Inv N s) (i st : Int) (hst : st = 3 ∨ st = 4) : Gv (dispatchref19_end s i st) fun r => Inv N r.1 := by
  unfold dispatchref19_end
  rw [appFind_eq h.z, Option.bind_some]
  refine gv_cond (fun _ => gv_some h) fun _ => ?_
  rw [Live_eq, Option.bind_some]
  refine gv_cond (fun _ => gv_some h) fun _ => ?_
  exact gv_bind (End_gv h i st hst) fun r hr => gv_some hr
end Go.Fx.D

/-
  The reference manager: what holds of its state after every script. Conditions: none.
-/
import Derived.Test.YteodpoelbdakgaaGreatS3
/-
  Chapter 5: a text is parsed: an answer is there, of bounded size.
-/
namespace Go.Fx.D
open Go Go.Fx
set_option linter.unusedVariables false
set_option linter.unusedSimpArgs false

theorem cut_gv {s : Str} (c : Int) (h : s.length ≤ 1000000) : Gv (dispatchref5_cut s c) fun l => l.length ≤ s.length + 1 ∧ ∀ x ∈ l, x.length ≤ s.length := by
  unfold dispatchref5_cut
  refine gv_bind (P := fun r => r.1.length ≤ s.length ∧ (∀ x ∈ r.1, x.length ≤ s.length) ∧ 0 ≤ r.2) ?_ ?_
  · refine gv_for (σ := List Str × Int) (fun t i => (t.1, t.2, i)) s.length (fun k t => t.1.length ≤ k ∧ (∀ x ∈ t.1, x.length ≤ s.length) ∧ 0 ≤ t.2 ∧ t.2 ≤ (k : Int)) (by omega) ?_ ?_ (s := ([], 0)) (by simp)
    · rintro k hk ⟨l, a⟩ ⟨h1, h2, h3, h4⟩
      dsimp only at h1 h2 h3 h4
      unfold dispatchref5_cut_l1
      dsimp only
      rw [dlt_t hk, idx_at hk]
      simp only [cond_true, Option.bind_some]
      refine gv_bind (P := fun (t : List Str × Int) => t.1.length ≤ k + 1 ∧ (∀ x ∈ t.1, x.length ≤ s.length) ∧ 0 ≤ t.2 ∧ t.2 ≤ ((k + 1 : Nat) : Int)) ?_ (fun t ht => gv_some (.inl ⟨t, rfl, ht⟩))
      refine gv_cond (fun _ => ?_) (fun _ => gv_some ⟨by dsimp only; omega, h2, h3, by dsimp only; omega⟩)
      refine gv_bind (gv_slcl h3 h4 (by omega)) ?_
      rintro m ⟨hm, _⟩
      rw [app_some (by simp; omega) (by omega)]
      refine gv_some ⟨by simp; omega, ?_, by rw [w64_id (by omega) (by omega)]; omega, by rw [w64_id (by omega) (by omega)]; omega⟩
      intro x hx
      rcases List.mem_append.1 hx with hx | hx
      · exact h2 x hx
      · rw [List.mem_singleton] at hx; subst hx; omega
    · rintro ⟨l, a⟩ ⟨h1, h2, h3, h4⟩
      unfold dispatchref5_cut_l1
      dsimp only
      rw [dlt_f]
      exact gv_some ⟨_, rfl, h1, h2, h3⟩
  · rintro ⟨l, a⟩ ⟨h1, h2, h3⟩
    dsimp only at h1 h2 h3 ⊢
    refine gv_bind (P := fun l => l.length ≤ s.length + 1 ∧ ∀ x ∈ l, x.length ≤ s.length) ?_ (fun l hl => gv_some hl)
    refine gv_cond (fun e => ?_) (fun _ => gv_some ⟨by omega, h2⟩)
    have e := of_decide_eq_true e
    refine gv_bind (gv_slcl h3 (by omega) (by omega)) ?_
    rintro m ⟨hm, _⟩
    rw [app_some (by simp; omega) (by omega)]
    refine gv_some ⟨by simp; omega, ?_⟩
    intro x hx
    rcases List.mem_append.1 hx with hx | hx
    · exact h2 x hx
    · rw [List.mem_singleton] at hx; subst hx; omega

theorem words_gv {s : Str} (h : s.length ≤ 100000) : Gv (dispatchref5_words s) fun l => l.length ≤ s.length + 1 ∧ ∀ x ∈ l, x.length ≤ s.length := by
  unfold dispatchref5_words
  refine gv_bind (cut_gv 32 (by omega)) ?_
  rintro l ⟨h1, h2⟩
  have e := loop_filter (fun (s : List Str) i => (s, i)) l (fun x => !(x == ([] : Str))) id (step := dispatchref5_words_l1 l) (by omega) ?_ ?_
  · rw [e]
    refine gv_some ⟨?_, ?_⟩
    · rw [List.map_id]; exact Nat.le_trans (List.length_filter_le _ _) h1
    · intro x hx
      rw [List.map_id] at hx
      exact h2 x (List.mem_filter.1 hx).1
  · intro k hk s' hs
    unfold dispatchref5_words_l1
    rw [dlt_t hk, inb_at hk]
    simp only [cond_true, Option.bind_some, List.getElem?_eq_getElem hk, id]
    cases (l[k] == ([] : Str))
    · simp only [Bool.not_false, cond_true, if_true]
      rw [app_some (by simp; omega) (by omega)]
      rfl
    · rfl
  · intro s'
    unfold dispatchref5_words_l1
    rw [dlt_f]
    rfl

theorem number_gv {s : Str} (h : s.length ≤ 1000000) : Gv (dispatchref5_number s) fun _ => True := by
  unfold dispatchref5_number
  refine gv_bind (P := fun q => True) ?_ ?_
  · refine gv_cond (fun _ => gv_some trivial) (fun h1 => gv_cond (fun _ => gv_some trivial) (fun h2 => ?_))
    have h1 := of_decide_eq_false h1
    refine gv_bind (gv_idx (by omega) (by omega)) ?_
    intro x _
    exact gv_cond (fun _ => gv_some trivial) (fun _ => gv_some trivial)
  · intro q _
    refine gv_cond (fun _ => gv_some trivial) (fun _ => ?_)
    refine gv_bind (P := fun _ => True) ?_ ?_
    · refine gv_for (σ := Int) (fun t i => (t, i)) s.length (fun _ _ => True) (by omega) ?_ ?_ (s := 0) trivial
      · intro k hk n _
        unfold dispatchref5_number_l1
        dsimp only
        rw [dlt_t hk, idx_at hk]
        simp only [cond_true, Option.bind_some]
        refine gv_bind (P := fun _ => True) (gv_cond (fun _ => gv_some trivial) (fun _ => gv_some trivial)) ?_
        intro b _
        exact gv_cond (fun _ => gv_some (.inr ⟨_, rfl, trivial⟩)) (fun _ => gv_some (.inl ⟨_, rfl, trivial⟩))
      · intro n _
        unfold dispatchref5_number_l1
        dsimp only
        rw [dlt_f]
        exact gv_some ⟨_, rfl, trivial⟩
    · rintro (x | x) _ <;> exact gv_some trivial

theorem share_gv {s : Str} (h : s.length ≤ 1000000) : Gv (dispatchref5_share s) fun _ => True := by
  unfold dispatchref5_share
  refine gv_bind (P := fun (k : Int) => 0 ≤ k ∧ k ≤ (s.length : Int)) ?_ ?_
  · refine gv_loop (fun (k : Int) => 0 ≤ k ∧ k ≤ (s.length : Int)) (fun k => s.length - k.toNat) ?_ ⟨by omega, by omega⟩
    rintro k ⟨h0, h1⟩
    unfold dispatchref5_share_l1
    refine gv_bind (P := fun q => q = true → k < (s.length : Int)) ?_ ?_
    · refine gv_cond (fun e => ?_) (fun _ => gv_some (by simp))
      have e := of_decide_eq_true e
      refine gv_bind (gv_idx h0 e) ?_
      intro x _
      exact gv_some fun _ => e
    · intro q hq
      refine gv_cond (fun e => gv_some (.inl ⟨_, rfl, ?_, ?_⟩)) (fun _ => gv_some (.inr ⟨_, rfl, h0, h1⟩))
      · have := hq e
        rw [w64_id (by omega) (by omega)]; omega
      · have := hq e
        rw [w64_id (by omega) (by omega)]; omega
  · rintro k ⟨h0, h1⟩
    refine gv_cond (fun _ => gv_some trivial) (fun e => ?_)
    have e : k ≠ s.length := by simpa using e
    refine gv_bind (gv_slcl (by omega) h0 h1) ?_
    rintro m ⟨hm, _⟩
    refine gv_bind (number_gv (by omega)) ?_
    intro x _
    rw [w64_id (by omega) (by omega)]
    refine gv_bind (gv_slcl (by omega) (by omega) (by omega)) ?_
    rintro m2 ⟨hm2, _⟩
    refine gv_bind (number_gv (by omega)) ?_
    intro x1 _
    exact gv_cond (fun _ => gv_some trivial) (fun _ => gv_some trivial)

theorem queue5_gv {w : List Str} {n : Int} (hw : w.length ≤ 10000) (hs : ∀ x ∈ w, x.length ≤ 10000) (h0 : 1 ≤ n) (h1 : n ≤ 10000) :
    Gv (dispatchref5_queue w n) fun r => r.1.Path.length ≤ 10000 ∧ (r.1.Caps.length : Int) ≤ n := by
  unfold dispatchref5_queue
  rw [w64_id (by omega) (by omega)]
  refine gv_bind (P := fun q => q = false → (w.length : Int) = 3 + n) ?_ ?_
  · refine gv_cond (fun _ => gv_some (by simp)) (fun e => ?_)
    have e : (w.length : Int) = 3 + n := by simpa using e
    refine gv_bind (gv_idx (by omega) (by omega)) ?_
    intro x _
    exact gv_some fun _ => e
  · intro q hq
    refine gv_cond (fun _ => gv_some ⟨by simp, by simp; omega⟩) (fun e => ?_)
    have hl := hq e
    refine gv_bind (gv_idx (by omega) (by omega)) ?_
    rintro x1 ⟨hx1, _⟩
    refine gv_bind (number_gv (by have := hs _ hx1; omega)) ?_
    intro x2 _
    refine gv_bind (gv_idx (by omega) (by omega)) ?_
    rintro x3 ⟨hx3, _⟩
    refine gv_bind (P := fun (r : Bool × Queue) => r.2.Path.length ≤ 10000 ∧ (r.2.Caps.length : Int) ≤ n) ?_ (fun r hr => gv_some hr)
    refine gv_loop (fun (t : Bool × Queue × Int) => t.2.1.Path.length ≤ 10000 ∧ 3 ≤ t.2.2 ∧ t.2.2 ≤ (w.length : Int) ∧ (t.2.1.Caps.length : Int) ≤ t.2.2 - 3) (fun t => w.length - t.2.2.toNat) ?_ ?_
    · rintro ⟨ok, q, i⟩ ⟨g1, g2, g3, g4⟩
      dsimp only at g1 g2 g3 g4
      unfold dispatchref5_queue_l1
      dsimp only
      refine gv_bind (P := fun q => q = true → i < (w.length : Int)) ?_ ?_
      · refine gv_cond (fun e => gv_some fun _ => of_decide_eq_true e) (fun _ => gv_some (by simp))
      · intro b hb
        refine gv_cond (fun e => ?_) (fun _ => gv_some (.inr ⟨_, rfl, g1, by dsimp only; omega⟩))
        have hi := hb e
        refine gv_bind (gv_idx (by omega) hi) ?_
        rintro x4 ⟨hx4, _⟩
        refine gv_bind (share_gv (by have := hs _ hx4; omega)) ?_
        intro x5 _
        rw [app_some (by simp; omega) (by omega)]
        rw [Option.bind_some, w64_id (by omega) (by omega)]
        exact gv_some (.inl ⟨_, rfl, ⟨g1, by dsimp only; omega, by dsimp only; omega, by simp; omega⟩, by dsimp only; omega⟩)
    · exact ⟨hs _ hx3, by simp, by dsimp only; omega, by simp⟩

theorem inS_sub {α : Type} {l : List α} {a b : Int} (h0 : 0 ≤ a) (h1 : a ≤ b) (h2 : b ≤ l.length) : Gv (inS a b l.length) fun p => (sub l p.1 p.2).length = (b - a).toNat ∧ ∀ x ∈ sub l p.1 p.2, x ∈ l := by
  refine gv_mono (gv_inS h0 h1 h2) ?_
  rintro _ rfl
  refine ⟨?_, fun x hx => List.mem_of_mem_drop (List.mem_of_mem_take hx)⟩
  unfold sub
  rw [List.length_take, List.length_drop]
  omega

theorem parse_gv (s : Str) : Gv (dispatchref5_Parse s) fun r => CSmall r.1 ∧ ∀ x ∈ r.1.Labels, x.length < 1000000 := by
  have hz : CSmall ⟨[], []⟩ ∧ ∀ x ∈ (⟨[], []⟩ : Conf).Labels, x.length < 1000000 := ⟨⟨by simp, by simp, by simp, by simp⟩, by simp⟩
  unfold dispatchref5_Parse
  refine gv_cond (fun _ => gv_some hz) (fun e => ?_)
  have e := of_decide_eq_false e
  refine gv_bind (cut_gv 10 (by omega)) ?_
  rintro l ⟨hl, hx⟩
  refine gv_bind (P := fun r => match r with
    | .inl t => CSmall t.1 ∧ ∀ x ∈ t.1.Labels, x.length < 1000000
    | .inr t => CSmall t.2.1 ∧ ∀ x ∈ t.2.1.Labels, x.length < 1000000) ?_ ?_
  · let K := fun (k : Nat) (c : Conf) => c.Labels.length ≤ 3 ∧ (∀ x ∈ c.Labels, x.length ≤ 2000) ∧ c.Queues.length ≤ k ∧ ∀ q ∈ c.Queues, q.Path.length ≤ 10000 ∧ q.Caps.length ≤ 3
    have hK : ∀ k c, k ≤ 2001 → K k c → CSmall c ∧ ∀ x ∈ c.Labels, x.length < 1000000 := by
      rintro k c hk ⟨k1, k2, k3, k4⟩
      exact ⟨⟨by omega, by omega, fun x hx => by have := (k4 x hx).1; omega, fun x hx => by have := (k4 x hx).2; omega⟩, fun x hx => by have := k2 x hx; omega⟩
    have key := gv_for (σ := Conf × Conf × Bool) (fun t i => (t.1, t.2.1, t.2.2, i)) l.length (fun k t => K k t.2.1) (step := dispatchref5_Parse_l1 l) (Q := fun r => match r with
      | .inl t => CSmall t.1 ∧ ∀ x ∈ t.1.Labels, x.length < 1000000
      | .inr t => CSmall t.2.1 ∧ ∀ x ∈ t.2.1.Labels, x.length < 1000000) (by omega) ?_ ?_ (s := (⟨[], []⟩, ⟨[], []⟩, false)) ⟨by simp, by simp, by simp, by simp⟩
    · exact key
    · rintro k hk ⟨c0, c, tw⟩ ⟨k1, k2, k3, k4⟩
      dsimp only at k1 k2 k3 k4
      unfold dispatchref5_Parse_l1
      dsimp only
      rw [dlt_t hk, inb_at hk]
      simp only [cond_true, Option.bind_some, List.getElem?_eq_getElem hk]
      refine gv_bind (P := fun r => match r with
        | .inl t => K (k + 1) t.2.1
        | .inr t => CSmall t.1 ∧ ∀ x ∈ t.1.Labels, x.length < 1000000) ?_ ?_
      · have hlk := hx _ (List.getElem_mem hk)
        refine gv_bind (words_gv (by omega)) ?_
        rintro w ⟨hw, hwx⟩
        refine gv_cond (fun _ => gv_some ⟨k1, k2, by dsimp only; omega, k4⟩) (fun ew => ?_)
        have ew : ¬ w.length = 0 := by have := beq_eq_false_iff_ne.1 ew; omega
        refine gv_cond (fun _ => ?_) (fun el => ?_)
        · refine gv_bind (gv_inb (by omega) (by omega)) ?_
          rintro _ rfl
          refine gv_bind (gv_get (by omega)) ?_
          intro x1 _
          refine gv_cond (fun _ => gv_some hz) (fun _ => gv_cond (fun _ => gv_some hz) (fun e3 => ?_))
          have e3 := of_decide_eq_false e3
          have hs := inS_sub (l := w) (a := 1) (b := (w.length : Int)) (by omega) (by omega) (by omega)
          refine gv_bind hs ?_
          rintro p ⟨hp1, hp2⟩
          rw [app_some (by rw [hp1]; simp; omega) (by omega)]
          refine gv_some ⟨?_, ?_, by dsimp only; omega, k4⟩
          · rw [List.length_append, hp1]; simp; omega
          · intro x hx
            rcases List.mem_append.1 hx with hx | hx
            · rw [List.mem_singleton] at hx; subst hx; simp
            · have := hwx x (hp2 x hx); omega
        · have el : ¬ c.Labels.length = 0 := by have := beq_eq_false_iff_ne.1 el; omega
          refine gv_bind (P := fun _ => True) ?_ ?_
          · refine gv_cond (fun _ => ?_) (fun _ => gv_some trivial)
            refine gv_bind (gv_inb (by omega) (by omega)) ?_
            rintro _ rfl
            refine gv_bind (gv_get (by omega)) ?_
            intro x1 _
            exact gv_some trivial
          · intro q _
            refine gv_cond (fun _ => gv_some hz) (fun _ => ?_)
            refine gv_bind (queue5_gv (by omega) (fun x hx => by have := hwx x hx; omega) (by omega) (by omega)) ?_
            rintro x3 ⟨g1, g2⟩
            refine gv_cond (fun _ => gv_some hz) (fun _ => ?_)
            refine gv_bind (P := fun (k : Int) => 0 ≤ k ∧ k ≤ (c.Queues.length : Int)) ?_ ?_
            · refine gv_loop (fun (k : Int) => 0 ≤ k ∧ k ≤ (c.Queues.length : Int)) (fun k => c.Queues.length - k.toNat) ?_ ⟨by omega, by omega⟩
              rintro i ⟨i0, i1⟩
              unfold dispatchref5_Parse_l2
              dsimp only
              refine gv_bind (P := fun q => q = true → i < (c.Queues.length : Int)) ?_ ?_
              · refine gv_cond (fun e => ?_) (fun _ => gv_some (by simp))
                have e := of_decide_eq_true e
                refine gv_bind (gv_inb i0 e) ?_
                rintro _ rfl
                refine gv_bind (gv_get (by omega)) ?_
                intro x _
                exact gv_some fun _ => e
              · intro q hq
                refine gv_cond (fun e => gv_some (.inl ⟨_, rfl, ?_, ?_⟩)) (fun _ => gv_some (.inr ⟨_, rfl, i0, i1⟩))
                · have := hq e
                  rw [w64_id (by omega) (by omega)]; omega
                · have := hq e
                  rw [w64_id (by omega) (by omega)]; omega
            · rintro i ⟨i0, i1⟩
              refine gv_bind (P := fun _ => True) ?_ ?_
              · refine gv_cond (fun _ => gv_some trivial) (fun _ => gv_cond (fun e => ?_) (fun _ => gv_some trivial))
                have e := of_decide_eq_true e
                refine gv_bind (gv_inb i0 e) ?_
                rintro _ rfl
                refine gv_bind (gv_get (by omega)) ?_
                intro x _
                exact gv_some trivial
              · intro tw' _
                refine gv_bind (inS_sub (by omega) i0 i1) ?_
                rintro p1 ⟨a1, a2⟩
                rw [app_some (by rw [a1]; simp; omega) (by omega)]
                simp only [Option.bind_some, List.nil_append]
                rw [app_some (by rw [a1]; simp; omega) (by omega)]
                simp only [Option.bind_some]
                refine gv_bind (inS_sub i0 i1 (by omega)) ?_
                rintro p2 ⟨b1, b2⟩
                rw [app_some (by rw [List.length_append, a1, b1]; simp; omega) (by omega)]
                refine gv_some ⟨k1, k2, ?_, ?_⟩
                · dsimp only
                  rw [List.length_append, List.length_append, a1, b1]; simp; omega
                · intro q hq
                  rcases List.mem_append.1 hq with hq | hq
                  · rcases List.mem_append.1 hq with hq | hq
                    · exact k4 q (a2 q hq)
                    · rw [List.mem_singleton] at hq; subst hq; exact ⟨g1, by omega⟩
                  · exact k4 q (b2 q hq)
      · rintro (t | t) hr
        · exact gv_some (.inl ⟨t, rfl, hr⟩)
        · exact gv_some (.inr ⟨_, rfl, hr⟩)
    · rintro ⟨c0, c, tw⟩ hk
      unfold dispatchref5_Parse_l1
      dsimp only
      rw [dlt_f]
      exact gv_some ⟨_, rfl, hK _ c (by omega) hk⟩
  · rintro (t | t) hr
    · exact gv_some hr
    · exact gv_cond (fun _ => gv_some hz) (fun _ => gv_cond (fun _ => gv_some hz) (fun _ => gv_some hr))
end Go.Fx.D

/-
  The reference manager: what holds of its state after every script. Conditions: none.
-/
import Derived.Test.YteodpoelbdakgaaGreatS14
/-
  Chapters 9, 11, 16: what is pending; what leaves should have.
-/
namespace Go.Fx.D
open Go Go.Fx
set_option linter.unusedVariables false
set_option linter.unusedSimpArgs false

def vtimes (x : Ask) : Vec := ⟨x.Size.Mem * x.Count, x.Size.Cores * x.Count⟩
def pPend9 (l : List Ask) (label : Int) : Vec := vsum ((l.filter fun x => x.Label == label).map vtimes)
theorem vtimes_bd {c : Conf} {x : Ask} (h : AskOk c x) : VB 53687091200 (vtimes x) ∧ w64 (x.Size.Mem * x.Count) = x.Size.Mem * x.Count ∧ w64 (x.Size.Cores * x.Count) = x.Size.Cores * x.Count := by
  have h1 := h.size
  have h2 := h.count
  unfold SzOk at h1
  obtain ⟨⟨a1, a2⟩, a3, a4⟩ := h1
  have m1 := mul_bd (n := x.Size.Mem) (bp := x.Count) (N := 1073741824) (B := 50) (by omega) a2 (by omega) (by omega)
  have m2 := mul_bd (n := x.Size.Cores) (bp := x.Count) (N := 1073741824) (B := 50) (by omega) a4 (by omega) (by omega)
  refine ⟨?_, w64_id (by omega) (by omega), w64_id (by omega) (by omega)⟩
  unfold VB vtimes
  dsimp only
  omega
theorem pend9_eq {c : Conf} {l : List Ask} (hl : l.length ≤ 100) (h : ∀ x ∈ l, AskOk c x) (label : Int) : dispatchref9_Pending l label = some (pPend9 l label) := by
  unfold dispatchref9_Pending
  rw [loop_vsum (fun v i => (v, i)) l (fun x => x.Label == label) vtimes (step := dispatchref9_Pending_l1 l label) (by omega) (fun x hx _ => (vtimes_bd (h x hx)).1.mono (by omega)) ?_ ?_]
  · rfl
  · intro k hk v hv
    obtain ⟨t1, t2, t3⟩ := vtimes_bd (h _ (List.getElem_mem hk))
    unfold dispatchref9_Pending_l1
    dsimp only
    rw [dlt_t hk, cond_true, idx_at hk]
    simp only [Option.bind_some, t2, t3]
    have hp : dispatchref1_Plus v ⟨l[k].Size.Mem * l[k].Count, l[k].Size.Cores * l[k].Count⟩ = some (vplus v (vtimes l[k])) := plus_eq (hv.mono (m := 200000000000000000) (by omega)) (t1.mono (by omega)) (by omega)
    rw [hp]
    cases l[k].Label == label <;> rfl
  · intro v
    unfold dispatchref9_Pending_l1
    rw [dlt_f]
    rfl
theorem pend9_bd {c : Conf} {l : List Ask} (hl : l.length ≤ 8) (h : ∀ x ∈ l, AskOk c x) (label : Int) : VB 429496729600 (pPend9 l label) := by
  have := vsum_bd (n := 53687091200) (by omega) (l := (l.filter fun x => x.Label == label).map vtimes) (fun v hv => by
    obtain ⟨x, hx, rfl⟩ := List.mem_map.1 hv
    exact (vtimes_bd (h x (List.mem_filter.1 hx).1)).1)
  refine this.mono ?_
  rw [List.length_map]
  have := List.length_filter_le (fun x : Ask => x.Label == label) l
  omega
def pPending (s : State) (path : Str) (label : Int) : Vec := vsum ((s.Apps.filter fun a => pLive a && pBelow a.Queue path).map fun a => pPend9 a.Asks label)
theorem Pending_eq {N : Nat} {s : State} (h : Inv N s) (path : Str) (label : Int) : dispatchref11_Pending s path label = some (pPending s path label) := by
  have hal := h.al
  unfold dispatchref11_Pending
  rw [loop_vsum (fun v i => (v, i)) s.Apps (fun a => pLive a && pBelow a.Queue path) (fun a => pPend9 a.Asks label) (step := dispatchref11_Pending_l1 s path label) (by omega) (fun a ha _ => (pend9_bd (h.ak a ha).al (h.ak a ha).ask label).mono (by omega)) ?_ ?_]
  · rfl
  · intro k hk v hv
    have hak := h.ak _ (List.getElem_mem hk)
    unfold dispatchref11_Pending_l1
    dsimp only
    rw [dlt_t hk, cond_true, idx_at hk]
    simp only [Option.bind_some]
    rw [Live_eq, below_eq (h.leafLen (List.getElem_mem hk)), pend9_eq (by have := hak.al; omega) hak.ask]
    simp only [Option.bind_some]
    have hp : dispatchref1_Plus v (pPend9 s.Apps[k].Asks label) = some (vplus v (pPend9 s.Apps[k].Asks label)) := plus_eq (hv.mono (m := 200000000000000000) (by omega)) ((pend9_bd hak.al hak.ask label).mono (by omega)) (by omega)
    rw [hp]
    cases pLive s.Apps[k] <;> cases pBelow s.Apps[k].Queue path <;> rfl
  · intro v
    unfold dispatchref11_Pending_l1
    rw [dlt_f]
    rfl
theorem pending_bd {N : Nat} {s : State} (h : Inv N s) (path : Str) (label : Int) : VB 6871947673600 (pPending s path label) := by
  have hal := h.al
  have := vsum_bd (n := 429496729600) (by omega) (l := (s.Apps.filter fun a => pLive a && pBelow a.Queue path).map fun a => pPend9 a.Asks label) (fun v hv => by
    obtain ⟨a, ha, rfl⟩ := List.mem_map.1 hv
    exact pend9_bd (h.ak a (List.mem_filter.1 ha).1).al (h.ak a (List.mem_filter.1 ha).1).ask label)
  refine this.mono ?_
  rw [List.length_map]
  have := List.length_filter_le (fun a : App => pLive a && pBelow a.Queue path) s.Apps
  omega

/-! shares -/
def pGood (n : Int) : Int := if n < 0 ∨ n > 1125899906842624 then 0 else n
theorem good_eq (n : Int) : dispatchref16_good n = some (pGood n) := by
  unfold dispatchref16_good pGood
  by_cases h1 : n < 0
  · rw [decide_eq_true h1, if_pos (.inl h1)]; rfl
  · rw [decide_eq_false h1]
    by_cases h2 : n > 1125899906842624
    · rw [decide_eq_true h2, if_pos (.inr h2)]; rfl
    · rw [decide_eq_false h2, if_neg (by omega)]; rfl
theorem Split_gv (total : Int) {least want most : List Int} {n : Nat} (h1 : least.length = n) (h2 : want.length = n) (h3 : most.length = n) (hn : n ≤ 100000) : Gv (dispatchref16_Split total least want most) fun l => l.length = n := by
  unfold dispatchref16_Split
  have e : imin (imin (least.length : Int) (want.length : Int)) (most.length : Int) = (n : Int) := by
    rw [h1, h2, h3]
    unfold imin
    simp
  dsimp only
  rw [e, good_eq, Option.bind_some]
  refine gv_bind (P := fun q => q.2.length = n) ?_ ?_
  · refine gv_for (fun (t : Int × List Int) i => (t.1, t.2, i)) n (fun k t => t.2.length = k) (step := dispatchref16_Split_l1 least want most (n : Int)) (by omega) ?_ ?_ (s := (pGood total, [])) rfl
    · rintro k hk ⟨a, l⟩ hl
      dsimp only at hl
      unfold dispatchref16_Split_l1
      dsimp only
      rw [dlt_t hk, cond_true, idx_at (by omega), Option.bind_some, good_eq, Option.bind_some, idx_at (by omega), Option.bind_some, good_eq, Option.bind_some, idx_at (by omega), Option.bind_some, good_eq, Option.bind_some,
        app_some (by simp; omega) (by omega), Option.bind_some]
      exact gv_some (.inl ⟨(_, _), rfl, by simp [hl]⟩)
    · rintro t ht
      unfold dispatchref16_Split_l1
      dsimp only
      rw [dlt_f, cond_false]
      exact gv_some ⟨_, rfl, ht⟩
  · rintro ⟨a, l⟩ hl
    dsimp only at hl ⊢
    refine gv_bind (P := fun l => l.length = n) ?_ fun l hl => gv_some hl
    refine gv_for (fun (t : Int × List Int) i => (t.1, t.2, i)) n (fun k t => t.2.length = n) (step := dispatchref16_Split_l2 want most (n : Int)) (by omega) ?_ ?_ (s := (a, l)) hl
    · rintro k hk ⟨a, l⟩ hl
      dsimp only at hl
      unfold dispatchref16_Split_l2
      dsimp only
      have hkl : k < l.length := by omega
      rw [dlt_t hk, cond_true, idx_at (by omega), Option.bind_some, good_eq, Option.bind_some, idx_at (by omega), Option.bind_some, good_eq, Option.bind_some]
      simp only [inb_at hkl, Option.bind_some, List.getElem?_eq_getElem hkl]
      exact gv_some (.inl ⟨(_, _), rfl, by simp [hl]⟩)
    · rintro t ht
      unfold dispatchref16_Split_l2
      dsimp only
      rw [dlt_f, cond_false]
      exact gv_some ⟨_, rfl, ht⟩

theorem down16_gv {N : Nat} {s : State} (h : Inv N s) (label : Int) : ∀ (d n : Nat) (path : Str) (mem : Int), 3 ≤ path.count 46 + d → d ≤ n → d ≤ 3 → (pFind s.Conf path).isSome = true →
    Gv (dispatchref16_down_r (n + 1) s path label mem) fun l => l.length ≤ 16 ^ d ∧ ∀ x ∈ l, pLeaf s.Conf x.Path = true := by
  have hsc := h.sc
  have hq := h.cf.qs
  intro d
  induction d with
  | zero =>
    intro n path mem hc _ _ hf
    have hk : pKids s.Conf path = [] := by
      cases hk : pKids s.Conf path with
      | nil => rfl
      | cons x l =>
        have hx : x ∈ pKids s.Conf path := by rw [hk]; simp
        obtain ⟨hp, q, hq, rfl, ha⟩ := pKids_mem hx
        have h1 := above_count hp ha
        have h2 := (path_len h.cf hq).deep
        omega
    show Gv (dispatchref16_down_s _ s path label mem) _
    unfold dispatchref16_down_s
    rw [kids_eq h.cf.small, Option.bind_some, hk]
    refine gv_some ⟨by simp, fun x hx => ?_⟩
    have : x = ⟨path, mem⟩ := by simpa using hx
    subst this
    show pLeaf s.Conf path = true
    unfold pLeaf
    rw [hf, hk]
    rfl
  | succ d ih =>
    intro n path mem hc hn hd3 hf
    obtain ⟨n, rfl⟩ : ∃ m, n = m + 1 := ⟨n - 1, by omega⟩
    have hkl := pKids_len s.Conf path
    show Gv (dispatchref16_down_s (dispatchref16_down_r (n + 1)) s path label mem) _
    unfold dispatchref16_down_s
    rw [kids_eq h.cf.small, Option.bind_some]
    generalize hK : pKids s.Conf path = kids at hkl
    have hkid : ∀ x ∈ kids, PathOk x ∧ x.count 46 = path.count 46 + 1 ∧ (pFind s.Conf x).isSome = true := by
      intro x hx
      rw [← hK] at hx
      obtain ⟨hp, q, hq', rfl, ha⟩ := pKids_mem hx
      obtain ⟨q', e, _⟩ := pFind_of hq'
      exact ⟨path_len h.cf hq', above_count hp ha, by rw [e]; rfl⟩
    refine gv_cond (fun hz => ?_) fun hz => ?_
    · have hk0 : kids = [] := by
        have : (kids.length : Int) = 0 := by simpa using hz
        exact List.eq_nil_of_length_eq_zero (by omega)
      refine gv_some ⟨by simp; exact Nat.one_le_pow _ _ (by omega), fun x hx => ?_⟩
      have : x = ⟨path, mem⟩ := by simpa using hx
      subst this
      show pLeaf s.Conf path = true
      unfold pLeaf
      rw [hf, hK, hk0]
      rfl
    · refine gv_bind (P := fun q => q.1.length = kids.length ∧ q.2.1.length = kids.length ∧ q.2.2.length = kids.length) ?_ ?_
      · refine gv_for (fun (t : List Int × List Int × List Int) i => (t.1, t.2.1, t.2.2, i)) kids.length (fun k t => t.1.length = k ∧ t.2.1.length = k ∧ t.2.2.length = k) (step := dispatchref16_down_s_l1 s label kids) (by omega) ?_ ?_ (s := ([], [], [])) ⟨rfl, rfl, rfl⟩
        · rintro k hk ⟨a, b, c⟩ ⟨q1, q2, q3⟩
          dsimp only at q1 q2 q3
          have hlen : kids[k].length ≤ 1000000 := by have := (hkid _ (List.getElem_mem hk)).1.len; omega
          unfold dispatchref16_down_s_l1
          dsimp only
          rw [dlt_t hk, cond_true]
          simp only [inb_at hk, Option.bind_some, List.getElem?_eq_getElem hk]
          rw [Least_eq hsc hlen, Option.bind_some, app_some (by simp; omega) (by omega), Option.bind_some, Most_eq hsc hlen, Option.bind_some, app_some (by simp; omega) (by omega), Option.bind_some, Used_eq h.sb, Option.bind_some,
            Pending_eq h, Option.bind_some, app_some (by simp; omega) (by omega), Option.bind_some]
          exact gv_some (.inl ⟨(_, _, _), rfl, by simp [q1], by simp [q2], by simp [q3]⟩)
        · rintro t ht
          unfold dispatchref16_down_s_l1
          dsimp only
          rw [dlt_f, cond_false]
          exact gv_some ⟨_, rfl, ht⟩
      · rintro ⟨a, b, c⟩ ⟨q1, q2, q3⟩
        refine gv_bind (Split_gv mem q1 q2 q3 (by omega)) fun x8 hx8 => ?_
        have hpow : 16 ^ d ≤ 16 ^ 3 := Nat.pow_le_pow_right (by omega) (by omega)
        refine gv_bind (P := fun l => l.length ≤ kids.length * 16 ^ d ∧ ∀ x ∈ l, pLeaf s.Conf x.Path = true) ?_ ?_
        · refine gv_for (fun (t : List Share) i => (t, i)) kids.length (fun k l => l.length ≤ k * 16 ^ d ∧ ∀ x ∈ l, pLeaf s.Conf x.Path = true) (step := dispatchref16_down_s_l2 s label (dispatchref16_down_r (n + 1)) kids x8) (by omega) ?_ ?_ (s := []) ⟨by simp, by simp⟩
          · rintro k hk l ⟨hl, hll⟩
            obtain ⟨k1, k2, k3⟩ := hkid _ (List.getElem_mem hk)
            have hmul : k * 16 ^ d ≤ 16 * 16 ^ 3 := Nat.mul_le_mul (by omega) hpow
            unfold dispatchref16_down_s_l2
            dsimp only
            rw [dlt_t hk, cond_true, inb_at hk, Option.bind_some, List.getElem?_eq_getElem hk, Option.bind_some, inb_at (by omega), Option.bind_some, List.getElem?_eq_getElem (by omega), Option.bind_some]
            refine gv_bind (ih n kids[k] _ (by omega) (by omega) (by omega) k3) ?_
            rintro m ⟨hm, hml⟩
            rw [app_some (by omega) (by omega), Option.bind_some]
            refine gv_some (.inl ⟨l ++ m, rfl, by rw [List.length_append, Nat.succ_mul]; omega, fun x hx => ?_⟩)
            rcases List.mem_append.1 hx with hx | hx
            · exact hll x hx
            · exact hml x hx
          · rintro l hl
            unfold dispatchref16_down_s_l2
            dsimp only
            rw [dlt_f, cond_false]
            exact gv_some ⟨l, rfl, hl⟩
        · rintro l ⟨hl, hll⟩
          refine gv_some ⟨?_, hll⟩
          have h2 : kids.length * 16 ^ d ≤ 16 * 16 ^ d := Nat.mul_le_mul_right _ (by omega)
          rw [Nat.pow_succ, Nat.mul_comm (16 ^ d)]
          omega

theorem Leaves16_gv {N : Nat} {s : State} (h : Inv N s) (label : Int) : Gv (dispatchref16_Leaves s label) fun l => l.length ≤ 4096 ∧ ∀ x ∈ l, pLeaf s.Conf x.Path = true := by
  unfold dispatchref16_Leaves dispatchref16_down
  rw [total_eq h.sb, Option.bind_some]
  refine gv_bind (down16_gv h label 3 63 root _ (by decide) (by omega) (by omega) (root_found h.cf)) ?_
  rintro l ⟨hl, hll⟩
  have hl : l.length ≤ 4096 := hl
  refine gv_bind (P := fun m => m.length = l.length ∧ ∀ x ∈ m, x ∈ l) ?_ fun m hm => gv_some ⟨by rw [hm.1]; exact hl, fun x hx => hll x (hm.2 x hx)⟩
  refine gv_for (fun (t : List Share) i => (t, i)) l.length (fun k m => m.length = k ∧ ∀ x ∈ m, x ∈ l) (step := dispatchref16_Leaves_l1 l) (by omega) ?_ ?_ (s := []) ⟨rfl, by simp⟩
  · rintro k hk m ⟨hm, hml⟩
    unfold dispatchref16_Leaves_l1
    dsimp only
    rw [dlt_t hk, cond_true]
    refine gv_bind (P := fun j => ∃ i : Nat, j = (i : Int) ∧ i ≤ m.length) ?_ ?_
    · have ew := loop_while m (fun y => Op.bytesLess y.Path l[k].Path) (step := dispatchref16_Leaves_l2 l (m, (k : Int))) (by omega) ?_ ?_
      · rw [ew]
        exact gv_some ⟨_, rfl, takeWhile_le _ _⟩
      · intro j hj
        unfold dispatchref16_Leaves_l2
        dsimp only
        rw [dlt_t hj, cond_true, inb_at hj, Option.bind_some, List.getElem?_eq_getElem hj, Option.bind_some, inb_at hk, Option.bind_some, List.getElem?_eq_getElem hk, Option.bind_some, Option.bind_some]
        cases Op.bytesLess m[j].Path l[k].Path <;> rfl
      · unfold dispatchref16_Leaves_l2
        dsimp only
        rw [dlt_f]
        rfl
    · rintro j ⟨i, rfl, hi⟩
      refine gv_bind (inS_sub (l := m) (by omega) (by omega) (by omega)) ?_
      rintro p ⟨p1, p2⟩
      rw [app_some (by simp; omega) (by omega), Option.bind_some, inb_at hk, Option.bind_some, List.getElem?_eq_getElem hk, Option.bind_some, app_some (by simp; omega) (by omega), Option.bind_some]
      refine gv_bind (inS_sub (l := m) (by omega) (by omega) (by omega)) ?_
      rintro p' ⟨q1, q2⟩
      rw [app_some (by simp; omega) (by omega), Option.bind_some]
      refine gv_some (.inl ⟨_, rfl, by simp; omega, fun x hx => ?_⟩)
      simp only [List.nil_append, List.mem_append, List.mem_singleton] at hx
      rcases hx with (hx | rfl) | hx
      · exact hml x (p2 x hx)
      · exact List.getElem_mem hk
      · exact hml x (q2 x hx)
  · rintro m hm
    unfold dispatchref16_Leaves_l1
    rw [dlt_f]
    exact gv_some ⟨m, rfl, hm⟩
theorem Mem16_gv {N : Nat} {s : State} (h : Inv N s) (label : Int) (path : Str) : Gv (dispatchref16_Mem s label path) fun _ => True := by
  unfold dispatchref16_Mem
  refine gv_bind (Leaves16_gv h label) ?_
  rintro l ⟨hl, _⟩
  refine gv_bind (P := fun _ => True) ?_ ?_
  · refine gv_for (fun (_ : Unit) i => i) l.length (fun _ _ => True) (step := dispatchref16_Mem_l1 path l) (by omega) ?_ ?_ (s := ()) trivial
    · intro k hk _ _
      unfold dispatchref16_Mem_l1
      rw [dlt_t hk, cond_true]
      simp only [inb_at hk, Option.bind_some, List.getElem?_eq_getElem hk]
      exact gv_cond (fun _ => gv_some (.inr ⟨_, rfl, trivial⟩)) fun _ => gv_some (.inl ⟨(), rfl, trivial⟩)
    · intro _ _
      unfold dispatchref16_Mem_l1
      rw [dlt_f]
      exact gv_some ⟨_, rfl, trivial⟩
  · rintro (q | q) _
    · exact gv_some trivial
    · exact gv_some trivial
end Go.Fx.D

/-
  Laws over plain data: true at all inputs. Conditions: none.
-/
import Derived.Test.YtnmgbgbedngcmaaQ
namespace Go.Fx.D
open Go Go.Fx
set_option linter.unusedVariables false
set_option linter.unusedSimpArgs false

theorem mkl_ok {α : Type} {b n : Nat} {z : α} (hn : n ≤ 1000) (hb : b ≤ 1000) : mkl b (n : Int) (n : Int) z = some (tab n fun _ => z) := by
  unfold mkl
  rw [if_pos, Int.toNat_natCast, tab_rep]
  have : b * n ≤ 1000 * 1000 := Nat.mul_le_mul hb hn
  simp only [Int.toNat_natCast]
  unfold maxLen
  omega

/-- whom the first ones of a sorted row stand for -/
def at_in (s : List Rest) (i : Nat) : Bool := s.any fun r => r.at_ == (i : Int)

theorem l3_loop {n k : Nat} {q : Nat → Int} {R : Nat → Int} {s : List Rest} (hn : n ≤ 1000) (hs : s.Perm (tab n fun i => (⟨(i : Int), R i⟩ : Rest))) (hk : k ≤ n) (hq : ∀ i, i < n → 0 ≤ q i ∧ q i ≤ 1099511627776) :
    ∃ out, loop (split_Parts_l3 s (0, k)) (tab n q, 0) = some out ∧ out = tab n (fun i => q i + if at_in (s.take k) i then 1 else 0) ∧ S (fun i => if at_in (s.take k) i then 1 else 0) n = k := by
  have hlen : s.length = n := by rw [hs.length_eq, tab_len]
  have hmem : ∀ x ∈ s, ∃ i, i < n ∧ x = ⟨(i : Int), R i⟩ := by
    intro x hx
    obtain ⟨i, hi, e⟩ := tab_mem.1 (hs.mem_iff.1 hx)
    exact ⟨i, hi, e.symm⟩
  have hnd : (s.map (·.at_)).Nodup := by
    rw [(hs.map (·.at_)).nodup_iff]
    have : (tab n fun i => (⟨(i : Int), R i⟩ : Rest)).map (·.at_) = tab n fun i => (i : Int) := by simp [tab]
    rw [this]
    unfold tab
    exact List.pairwise_map.2 (List.nodup_range.imp (fun h e => h (by omega)))
  obtain ⟨out, e, hv⟩ := loop_inv (fun (v : List Int) m => (v, m)) (split_Parts_l3 s (0, k)) k (fun m out => out = tab n (fun i => q i + if at_in (s.take m) i then 1 else 0) ∧ S (fun i => if at_in (s.take m) i then 1 else 0) n = m) (fun v => v) (by
    rintro m hm out ⟨rfl, hS⟩
    have hms : m < s.length := by omega
    obtain ⟨j, hj, ej⟩ := hmem s[m] (List.getElem_mem hms)
    have hat : s[m].at_ = (j : Int) := by rw [ej]
    have fresh : at_in (s.take m) j = false := by
      unfold at_in
      rw [List.any_eq_false]
      intro r hr hrj
      simp only [beq_iff_eq] at hrj
      obtain ⟨p, hp, ep⟩ := List.getElem_of_mem hr
      have hp' : p < m := by rw [List.length_take] at hp; omega
      have h1 : s[p] = r := by rw [← ep]; simp
      refine List.pairwise_iff_getElem.1 hnd p m (by rw [List.length_map]; omega) (by rw [List.length_map]; omega) hp' ?_
      rw [List.getElem_map, List.getElem_map, h1, hrj, hat]
    have nxt : ∀ i, at_in (s.take (m + 1)) i = (at_in (s.take m) i || decide (i = j)) := by
      intro i
      unfold at_in
      rw [List.take_succ_eq_append_getElem hms, List.any_append]
      congr 1
      simp only [List.any_cons, List.any_nil, Bool.or_false, hat]
      rw [Bool.eq_iff_iff, beq_iff_eq, decide_eq_true_eq]
      omega
    have b := hq j hj
    refine ⟨_, ?_, rfl, ?_⟩
    · unfold split_Parts_l3
      rw [decide_eq_true (by dsimp only; omega), step_succ (by omega)]
      dsimp only
      rw [inb_lt hm]
      simp only [cond_true, Option.bind_some, Nat.zero_add, List.getElem?_eq_getElem hms, hat, tab_len, inb_lt hj, tab_get hj]
      rw [fresh, tab_set hj]
      simp only [Bool.false_eq_true, if_false, Int.add_zero]
      rw [w64_id (by omega) (by omega)]
      congr 3
      apply tab_ext
      intro i hi
      rw [nxt i]
      by_cases e : i = j
      · subst e; rw [if_pos rfl, fresh]; simp
      · rw [if_neg e]; simp [e]
    · rw [S_congr (g := fun i => (if at_in (s.take m) i then 1 else 0) + (if i = j then 1 else 0)), S_add, hS, S_one hj]
      · omega
      · intro i hi
        rw [nxt i]
        by_cases e : i = j
        · subst e; rw [fresh]; simp
        · simp [e]) (by
    rintro out ⟨rfl, hS⟩
    unfold split_Parts_l3
    rw [decide_eq_false (by dsimp only; omega)]
    rfl) (s := tab n q) ⟨by simp [at_in], by simp [at_in, S_const]⟩
  exact ⟨out, e, hv.1, hv.2⟩

theorem chosen_of {n k : Nat} {R : Nat → Int} (hk : k ≤ n) (s : List Rest) (hs : s = (tab n fun i => (⟨(i : Int), R i⟩ : Rest)).mergeSort fun x y => !(ahd y x)) (hS : S (fun i => if at_in (s.take k) i then 1 else 0) n = k) :
    Chosen R n k fun i => at_in (s.take k) i := by
  refine ⟨hS, ?_⟩
  intro i j hi hj hTi hTj
  have hp : s.Perm (tab n fun i => (⟨(i : Int), R i⟩ : Rest)) := by rw [hs]; exact List.mergeSort_perm _ _
  have hpw : s.Pairwise fun a b => (!(ahd b a)) = true := by
    rw [hs]
    refine List.pairwise_mergeSort ?_ ?_ _
    · intro a b c h1 h2
      simp only [Bool.not_eq_true'] at *
      rw [ahd_false] at *
      omega
    · intro a b
      simp only [Bool.or_eq_true, Bool.not_eq_true']
      rw [ahd_false, ahd_false]
      omega
  rw [← List.take_append_drop k s, List.pairwise_append] at hpw
  have mem : ∀ m, m < n → (⟨(m : Int), R m⟩ : Rest) ∈ s := fun m hm => hp.mem_iff.2 (tab_mem.2 ⟨m, hm, rfl⟩)
  have only : ∀ r ∈ s, ∀ m : Nat, r.at_ = (m : Int) → r = ⟨(m : Int), R m⟩ := by
    intro r hr m hm
    obtain ⟨p, _, e⟩ := tab_mem.1 (hp.mem_iff.1 hr)
    subst e
    have hm' : (p : Int) = (m : Int) := hm
    have : p = m := by omega
    rw [this]
  have hi' : (⟨(i : Int), R i⟩ : Rest) ∈ s.take k := by
    unfold at_in at hTi
    obtain ⟨r, hr, e⟩ := List.any_eq_true.1 hTi
    rw [beq_iff_eq] at e
    rw [← only r (List.mem_of_mem_take hr) i e]
    exact hr
  have hj' : (⟨(j : Int), R j⟩ : Rest) ∈ s.drop k := by
    have := mem j hj
    rw [← List.take_append_drop k s] at this
    rcases List.mem_append.1 this with h | h
    · exfalso
      unfold at_in at hTj
      rw [List.any_eq_false] at hTj
      exact hTj _ h (by simp)
    · exact h
  have := hpw.2.2 _ hi' _ hj'
  simp only [Bool.not_eq_true'] at this
  rw [ahd_false] at this
  dsimp only at this
  have hne : i ≠ j := by
    rintro rfl
    rw [hTi] at hTj
    cases hTj
  omega

theorem slc_eq (ws : List Int) : slc ws 0 (imin (ws.length : Int) 100) = some (tab (min ws.length 100) fun i => ws.getD i 0) := by
  have e : imin (ws.length : Int) 100 = ((min ws.length 100 : Nat) : Int) := by unfold imin; split <;> omega
  unfold slc
  rw [e, if_pos ⟨by omega, by omega, by omega⟩]
  congr 1
  simp only [Int.toNat_natCast, Int.toNat_zero, List.drop_zero]
  apply List.ext_getElem?
  intro i
  rw [List.getElem?_take]
  by_cases hi : i < min ws.length 100
  · rw [if_pos hi, tab_get hi]
    have : i < ws.length := by omega
    simp [List.getD, this]
  · rw [if_neg hi, List.getElem?_eq_none (by rw [tab_len]; omega)]

/-- Parts gives everyone its share, and one more to whom most is left. -/
theorem parts_eq (count : Int) (ws : List Int) {n : Nat} (hn : n = min ws.length 100) {w : Nat → Int} (hw : ∀ i, w i = gd (ws.getD i 0)) {all c : Int} (hall : all = S w n) (hc : c = gd count) :
    (all = 0 → split_Parts count ws = some (tab n fun _ => 0)) ∧
    (all ≠ 0 → ∃ (T : Nat → Bool) (k : Nat), Chosen (fun i => c * w i % all) n k T ∧ (k : Int) = c - S (fun i => c * w i / all) n ∧ split_Parts count ws = some (tab n fun i => c * w i / all + if T i then 1 else 0)) := by
  subst hc
  have hn100 : n ≤ 100 := by omega
  have wb : ∀ i, 0 ≤ w i ∧ w i ≤ 1048576 := fun i => by rw [hw]; exact gd_bd _
  have cb := gd_bd count
  have hlen : ∀ f : Nat → Int, (tab n f).length = n := fun f => tab_len n f
  have clone : slices_Clone___int_int_ (tab n fun i => ws.getD i 0) = some (tab n fun i => ws.getD i 0) := by
    unfold slices_Clone___int_int_
    rw [app_ok (by simp [tab_len]; omega) (by omega)]
    rfl
  have l1 : loop (split_Parts_l1 (tab n fun i => ws.getD i 0)) (tab n fun i => ws.getD i 0, 0) = some (tab n w) := by
    obtain ⟨v, e, hv⟩ := loop_inv (fun (v : List Int) k => (v, k)) (split_Parts_l1 (tab n fun i => ws.getD i 0)) n (fun k v => v = tab n fun i => if i < k then w i else ws.getD i 0) (fun v => v) (by
      rintro k hk v rfl
      refine ⟨_, ?_, rfl⟩
      unfold split_Parts_l1
      rw [decide_eq_true (by dsimp only; rw [tab_len]; omega), step_succ (by omega)]
      dsimp only
      simp only [tab_len, inb_lt hk, cond_true, Option.bind_some, tab_get hk, good_eq]
      rw [tab_upd w (fun i => ws.getD i 0) hk (by rw [if_neg (by omega), hw])]) (by
      rintro v rfl
      unfold split_Parts_l1
      rw [decide_eq_false (by dsimp only; rw [tab_len]; omega)]
      rfl) (s := tab n fun i => ws.getD i 0) (tab_ext fun i hi => by rw [if_neg (by omega)])
    rw [e, hv]
    congr 1
    exact tab_ext fun i hi => by rw [if_pos hi]
  unfold split_Parts
  rw [slc_eq, ← hn]
  simp only [Option.bind_some, clone, l1, tab_len]
  rw [mkl_ok (by omega) (by omega), sum_eq (by omega) (fun i hi => by have := wb i; omega), ← hall]
  simp only [Option.bind_some]
  have alln : 0 ≤ all := by rw [hall]; exact S_nonneg fun i hi => (wb i).1
  refine ⟨fun h0 => by rw [show (all == 0) = true by simp [h0]]; rfl, fun h0 => ?_⟩
  have hp : 0 < all := by omega
  rw [show (all == 0) = false by simpa using h0]
  simp only [cond_false]
  rw [good_eq]
  simp only [Option.bind_some]
  rw [mkl_ok (by omega) (by omega)]
  simp only [Option.bind_some]
  generalize hcc : gd count = c at *
  have cw : ∀ i, 0 ≤ c * w i ∧ c * w i ≤ 1099511627776 := by
    intro i
    have h := wb i
    refine ⟨Int.mul_nonneg cb.1 h.1, ?_⟩
    have : c * w i ≤ 1048576 * 1048576 := Int.mul_le_mul cb.2 h.2 h.1 (by omega)
    omega
  have qb : ∀ i, 0 ≤ c * w i / all ∧ c * w i / all ≤ 1099511627776 := by
    intro i
    refine ⟨Int.ediv_nonneg (cw i).1 alln, ?_⟩
    have := Int.ediv_le_self all (cw i).1
    have := (cw i).2
    omega
  have l2 : loop (split_Parts_l2 (tab n w) all c) (tab n fun _ => 0, tab n fun _ => (⟨0, 0⟩ : Rest), 0) = some (tab n fun i => c * w i / all, tab n fun i => (⟨(i : Int), c * w i % all⟩ : Rest)) := by
    obtain ⟨v, e, hv⟩ := loop_inv (fun (v : List Int × List Rest) k => (v.1, v.2, k)) (split_Parts_l2 (tab n w) all c) n
      (fun k v => v.1 = (tab n fun i => if i < k then c * w i / all else 0) ∧ v.2 = tab n fun i => if i < k then (⟨(i : Int), c * w i % all⟩ : Rest) else ⟨0, 0⟩) (fun v => v) (by
      rintro k hk ⟨v1, v2⟩ ⟨h1, h2⟩
      dsimp only at h1 h2
      subst h1 h2
      have hcw := cw k
      refine ⟨(_, _), ?_, rfl, rfl⟩
      unfold split_Parts_l2
      rw [decide_eq_true (by dsimp only; rw [tab_len]; omega), step_succ (by omega)]
      dsimp only
      simp only [tab_len, inb_lt hk, cond_true, Option.bind_some, tab_get hk, nz_ok h0]
      have hq := qb k
      rw [w64_id (x := c * w k) (by omega) (by omega), Int.tdiv_eq_ediv_of_nonneg hcw.1, Int.tmod_eq_emod_of_nonneg hcw.1, w64_id (by omega) (by omega), tab_upd (fun i => c * w i / all) (fun _ => 0) hk rfl, tab_upd (fun i => (⟨(i : Int), c * w i % all⟩ : Rest)) (fun _ => ⟨0, 0⟩) hk rfl]
      rfl) (by
      rintro ⟨v1, v2⟩ ⟨h1, h2⟩
      unfold split_Parts_l2
      rw [decide_eq_false (by dsimp only; rw [tab_len]; omega)]
      rfl) (s := (tab n fun _ => 0, tab n fun _ => (⟨0, 0⟩ : Rest))) ⟨tab_ext fun i hi => by rw [if_neg (by omega)], tab_ext fun i hi => by rw [if_neg (by omega)]⟩
    obtain ⟨v1, v2⟩ := v
    obtain ⟨h1, h2⟩ := hv
    dsimp only at h1 h2
    rw [e, h1, h2]
    congr 2
    · exact tab_ext fun i hi => by rw [if_pos hi]
    · exact tab_ext fun i hi => by rw [if_pos hi]
  rw [l2]
  simp only [Option.bind_some]
  rw [sort_eq _ (by rw [tab_len]; omega)]
  simp only [Option.bind_some]
  rw [sum_eq (by omega) (fun i hi => qb i)]
  simp only [Option.bind_some]
  obtain ⟨k0, k1, k2⟩ := left_eq (n := n) (w := w) (c := c) (all := all) (fun i hi => (wb i).1) cb.1 hall hp
  obtain ⟨k, hk⟩ := Int.eq_ofNat_of_zero_le k1
  have hkn : k ≤ n := by omega
  generalize hs : ((tab n fun i => (⟨(i : Int), c * w i % all⟩ : Rest)).mergeSort fun x y => !(ahd y x)) = s
  have hperm : s.Perm (tab n fun i => (⟨(i : Int), c * w i % all⟩ : Rest)) := by rw [← hs]; exact List.mergeSort_perm _ _
  have hsl : s.length = n := by rw [hperm.length_eq, tab_len]
  have hin : inS 0 (w64 (c - S (fun i => c * w i / all) n)) s.length = some (0, k) := by
    rw [hk, w64_id (by omega) (by omega)]
    unfold inS
    rw [if_pos ⟨by omega, by omega, by omega⟩]
    simp
  rw [hin]
  simp only [Option.bind_some]
  obtain ⟨out, e, ho, hS⟩ := l3_loop (q := fun i => c * w i / all) (by omega) hperm hkn (fun i hi => qb i)
  rw [e, ho]
  exact ⟨fun i => at_in (s.take k) i, k, chosen_of hkn s hs.symm hS, hk.symm, rfl⟩
end Go.Fx.D

/-
  Laws over plain data: true at all inputs. Conditions: none.
-/
import Derived.Test.YtkbpndpddlhgbaaT
namespace Go.Fx.D
open Go Go.Fx
set_option linter.unusedVariables false
set_option linter.unusedSimpArgs false

/-- in the order of numbers -/
def Rising (l : List Plan) : Prop := l.Pairwise fun a b => a.Id < b.Id
theorem mem_takeWhile {α : Type} (p : α → Bool) : ∀ (l : List α) (x : α), x ∈ l.takeWhile p → p x = true
  | [], x, h => by simp at h
  | y :: l, x, h => by
    rw [List.takeWhile_cons] at h
    split at h
    · rename_i hy
      rcases List.mem_cons.1 h with rfl | h
      · exact hy
      · exact mem_takeWhile p l x h
    · simp at h
theorem take_len {α : Type} (p : α → Bool) : ∀ l : List α, l.take (l.takeWhile p).length = l.takeWhile p
  | [] => rfl
  | x :: l => by
    rw [List.takeWhile_cons]
    split
    · rw [List.length_cons, List.take_succ_cons, take_len p l]
    · rfl
theorem drop_len {α : Type} (p : α → Bool) : ∀ l : List α, l.drop (l.takeWhile p).length = l.dropWhile p
  | [] => rfl
  | x :: l => by
    rw [List.takeWhile_cons, List.dropWhile_cons]
    split
    · rw [List.length_cons, List.drop_succ_cons, drop_len p l]
    · rfl
theorem rising_drop : ∀ (l : List Plan) (id : Int), Rising l → (∀ x ∈ l, x.Id ≠ id) → ∀ x ∈ l.dropWhile (fun x => decide (x.Id < id)), id < x.Id
  | [], id, _, _, x, h => by simp at h
  | y :: l, id, hr, hn, x, h => by
    rw [List.dropWhile_cons] at h
    have hr' := List.pairwise_cons.1 hr
    split at h
    · exact rising_drop l id hr'.2 (fun z hz => hn z (by simp [hz])) x h
    · rename_i hy
      rw [decide_eq_true_eq] at hy
      have hyn := hn y (by simp)
      rcases List.mem_cons.1 h with rfl | h
      · omega
      · have := hr'.1 x h
        omega
theorem ins_rising {l : List Plan} {x : Plan} (h : Rising l) (hn : ∀ y ∈ l, y.Id ≠ x.Id) : Rising (insP l (placeK l x.Id) x) := by
  unfold insP placeK Rising
  rw [take_len, drop_len]
  have hs := List.takeWhile_append_dropWhile (p := fun y : Plan => decide (y.Id < x.Id)) (l := l)
  have h' := h
  unfold Rising at h'
  rw [← hs] at h'
  have h2 := List.pairwise_append.1 h'
  have hd := rising_drop l x.Id h hn
  have ht := mem_takeWhile (fun y : Plan => decide (y.Id < x.Id)) l
  refine List.pairwise_append.2 ⟨h2.1, List.pairwise_cons.2 ⟨hd, h2.2.1⟩, ?_⟩
  intro a ha b hb
  have ha' := ht a ha
  rw [decide_eq_true_eq] at ha'
  rcases List.mem_cons.1 hb with rfl | hb
  · exact ha'
  · have := hd b hb
    omega
theorem mem_ins {l : List Plan} {k : Nat} {x y : Plan} : y ∈ insP l k x ↔ y ∈ l ∨ y = x := by
  unfold insP
  have hs := List.take_append_drop k l
  constructor
  · intro h
    rcases List.mem_append.1 h with h | h
    · exact .inl (List.mem_of_mem_take h)
    · rcases List.mem_cons.1 h with h | h
      · exact .inr h
      · exact .inl (List.mem_of_mem_drop h)
  · rintro (h | rfl)
    · rw [← hs] at h
      rcases List.mem_append.1 h with h | h <;> simp [h]
    · simp
theorem len_ins {l : List Plan} {k : Nat} {x : Plan} (h : k ≤ l.length) : (insP l k x).length = l.length + 1 := by
  unfold insP
  simp
  omega

/-- the small plans of this law -/
structure MInv (l : List Plan) : Prop where
  len : l.length ≤ 12
  up : Rising l
  all : ∀ x ∈ l, x.Label = 0 ∧ x.Need = ⟨1, 0⟩ ∧ x.From = 0 ∧ x.Until = 5 ∧ 0 ≤ x.Id

theorem atV_ones : ∀ (l : List Plan) (v : Int), (∀ x ∈ l, x.Need = ⟨1, 0⟩) → 0 ≤ (atV l 0 v).Mem ∧ (atV l 0 v).Mem ≤ l.length ∧ (atV l 0 v).Cores = 0
  | [], v, _ => by simp [atV, sumV]
  | x :: l, v, h => by
    have ih := atV_ones l v (fun y hy => h y (by simp [hy]))
    have hx := h x (by simp)
    unfold atV at ih ⊢
    simp only [sumV] at ih ⊢
    cases hs : sel 0 v x with
    | true =>
      simp only [List.filter_cons, hs, if_true, List.map_cons, List.sum_cons, hx, List.length_cons]
      omega
    | false =>
      simp only [List.filter_cons, hs, Bool.false_eq_true, if_false, List.length_cons]
      omega

theorem place_ones {l : List Plan} (h : MInv l) (id : Int) : plan_Place l ⟨50, 50⟩ (⟨id, 0, 0, 50, ⟨1, 0⟩⟩ : Plan) 5 = some (0, 0) := by
  have hlen := h.len
  have hok : Okl l := ⟨by omega, fun x hx => by
    have := h.all x hx
    unfold Okp Few
    rw [this.2.1]
    dsimp only
    omega⟩
  have hwin : ∀ u, Win l ⟨50, 50⟩ (⟨id, 0, 0, 50, ⟨1, 0⟩⟩ : Plan) u 5 := by
    intro u v _ _
    have := atV_ones l v (fun x hx => (h.all x hx).2.1)
    unfold okAt fitsV addV
    simp only [Bool.and_eq_true, decide_eq_true_eq]
    omega
  rcases place_win hok ⟨50, 50⟩ (p := ⟨id, 0, 0, 50, ⟨1, 0⟩⟩) (long := 5) (by unfold Valid Few; dsimp only; omega) with ⟨r, r1, r2, r3, r4, r5⟩ | ⟨r1, r2⟩
  · dsimp only at r1 r2 r4
    have : r = 0 := by
      apply Int.le_antisymm _ r1
      apply Int.not_lt.1
      intro hlt
      exact r4 0 (Int.le_refl _) hlt (hwin _)
    rw [r5, this]
  · dsimp only at r1
    exact absurd (hwin _) (r1 0 (Int.le_refl _) (by omega))

theorem add_ones {l : List Plan} (h : MInv l) {id : Int} (h0 : 0 ≤ id) (h1 : id < 25) :
    plan_Add (one 50 l 0) (⟨id, 0, 0, 50, ⟨1, 0⟩⟩ : Plan) 5 = if l.any (fun x => x.Id == id) then some (one 50 l 0, 0, 7) else if 12 ≤ l.length then some (one 50 l 0, 0, 4) else some (one 50 (insP l (placeK l id) ⟨id, 0, 0, 5, ⟨1, 0⟩⟩) 0, 0, 0) := by
  have hlen := h.len
  have htot : share_Total (one 50 l 0) 0 = some ⟨50, 50⟩ := total_one (by omega) (by omega)
  rw [add_eq (s := one 50 l 0) (small_one (by omega)) (⟨id, 0, 0, 50, ⟨1, 0⟩⟩ : Plan) 5 (V := ⟨50, 50⟩) htot]
  rw [badP_one (by dsimp only; omega) (by dsimp only; omega) rfl]
  have hz : (((⟨id, 0, 0, 50, ⟨1, 0⟩⟩ : Plan).Need.Mem == 0) && ((⟨id, 0, 0, 50, ⟨1, 0⟩⟩ : Plan).Need.Cores == 0)) = false := rfl
  rw [hz, if_neg (by simp)]
  have hpl : plan_Place (one 50 l 0).Plans ⟨50, 50⟩ (⟨id, 0, 0, 50, ⟨1, 0⟩⟩ : Plan) 5 = some (0, 0) := place_ones h id
  rw [hpl]
  have hnow : ¬ (⟨id, 0, 0, 50, ⟨1, 0⟩⟩ : Plan).From < (one 50 l 0).Now := by
    show ¬ (0 : Int) < 0
    omega
  rw [if_neg hnow]
  have e5 : w64 ((0 : Int) + 5) = 5 := w64_id (by omega) (by omega)
  simp only [Option.bind_some, ne_eq, not_true, if_false]
  rw [e5]
  rfl

theorem plainPlanMany (ids : List Int) (w0 : WfT fam (.slice (.int .i64)) ids) : dispatchlaw15_PlanMany ids = some true := by
  unfold dispatchlaw15_PlanMany dispatchref19_New
  rw [known_eq]
  simp only [Option.bind_some, Bool.not_true, cond_false]
  obtain ⟨n, hn⟩ : ∃ n : Nat, n = min ids.length 30 := ⟨_, rfl⟩
  have hn1 : n ≤ ids.length := by omega
  have hn3 : n ≤ 30 := by omega
  have hnn : ¬ (n < ids.length ∧ n < 30) := by omega
  clear hn
  obtain ⟨l, e, hs⟩ := loop_inv (fun (l : List Plan) k => (one 50 l 0, k)) (dispatchlaw15_PlanMany_l1 ids) n (fun _ l => MInv l) (fun l => .inr (one 50 l 0)) (by
    rintro k hk l hi
    have hlen := hi.len
    have hki : k < ids.length := by omega
    have b : 0 ≤ ids[k] % 25 ∧ ids[k] % 25 < 25 := by omega
    unfold dispatchlaw15_PlanMany_l1
    dsimp only
    rw [decide_eq_true (show (k : Int) < (ids.length : Int) by omega), decide_eq_true (show (k : Int) < 30 by omega), step_succ (by omega), idx_lt hki]
    simp only [cond_true, Option.bind_some, within_eq (show (0 : Int) < 25 by omega) (show (25 : Int) ≤ 4611686018427387904 by omega)]
    generalize ids[k] % 25 = id at *
    obtain ⟨v, ev, hv⟩ := loop_inv (fun (v : Bool) j => (v, j)) (dispatchlaw15_PlanMany_l2 (one 50 l 0, (k : Int)) id) l.length (fun j v => v = (l.take j).any fun x => x.Id == id) (fun v => v) (by
      rintro j hj v rfl
      refine ⟨(l.take (j + 1)).any fun x => x.Id == id, ?_, rfl⟩
      unfold dispatchlaw15_PlanMany_l2
      have hp : (one 50 l 0).Plans = l := rfl
      dsimp only
      rw [hp, decide_eq_true (by omega), step_succ (by omega), inb_lt hj, List.take_succ_eq_append_getElem hj, List.any_append]
      simp only [cond_true, Option.bind_some, List.getElem?_eq_getElem hj]
      cases (l.take j).any fun x => x.Id == id <;> simp) (by
      rintro v rfl
      unfold dispatchlaw15_PlanMany_l2
      have hp : (one 50 l 0).Plans = l := rfl
      dsimp only
      rw [hp, decide_eq_false (by omega)]
      rfl) (s := false) rfl
    rw [ev, hv, List.take_length, add_ones hi b.1 b.2]
    have hp : (one 50 l 0).Plans = l := rfl
    simp only [Option.bind_some]
    rw [hp]
    cases ha : l.any (fun x => x.Id == id) with
    | true =>
      refine ⟨l, ?_, hi⟩
      simp
    | false =>
      by_cases h12 : 12 ≤ l.length
      · refine ⟨l, ?_, hi⟩
        rw [decide_eq_true (show (l.length : Int) ≥ 12 by omega), if_neg (by simp), if_pos h12]
        simp
      · refine ⟨insP l (placeK l id) ⟨id, 0, 0, 5, ⟨1, 0⟩⟩, ?_, ?_, ?_, ?_⟩
        · rw [decide_eq_false (show ¬ (l.length : Int) ≥ 12 by omega), if_neg (by simp), if_neg h12]
          simp
        · rw [len_ins (placeK_le _ _)]
          omega
        · refine ins_rising hi.up (x := ⟨id, 0, 0, 5, ⟨1, 0⟩⟩) ?_
          intro y hy
          rw [List.any_eq_false] at ha
          have := ha y hy
          simpa using this
        · intro x hx
          rcases mem_ins.1 hx with hx | rfl
          · exact hi.all x hx
          · exact ⟨rfl, rfl, rfl, rfl, b.1⟩) (by
    rintro l hi
    unfold dispatchlaw15_PlanMany_l1
    dsimp only
    by_cases h1 : n < ids.length
    · rw [decide_eq_true (show (n : Int) < (ids.length : Int) by omega), decide_eq_false (show ¬ (n : Int) < 30 by omega)]
      rfl
    · rw [decide_eq_false (show ¬ (n : Int) < (ids.length : Int) by omega)]
      rfl) (s := []) ⟨by simp, List.Pairwise.nil, fun x hx => absurd hx List.not_mem_nil⟩
  have e' : loop (dispatchlaw15_PlanMany_l1 ids) (one 50 [] 0, 0) = some (.inr (one 50 l 0)) := e
  show ((loop (dispatchlaw15_PlanMany_l1 ids) (one 50 [] 0, 0)).bind _) = _
  rw [e']
  simp only [Option.bind_some]
  have hlen := hs.len
  have hp : (one 50 l 0).Plans = l := rfl
  have e3 : loop (dispatchlaw15_PlanMany_l3 (one 50 l 0)) 1 = some (.inr ()) := by
    have key : ∀ (m k : Nat), 1 ≤ k → (m + k = l.length ∨ m = 0 ∧ l.length ≤ k ∧ k ≤ 1) → loop (dispatchlaw15_PlanMany_l3 (one 50 l 0)) (k : Int) = some (.inr ()) := by
      intro m
      induction m with
      | zero =>
        intro k hk hm
        rw [loop_eq]
        unfold dispatchlaw15_PlanMany_l3
        rw [hp, decide_eq_false (by omega)]
        rfl
      | succ m ih =>
        intro k hk hm
        have hkl : k < l.length := by omega
        have hkl' : k - 1 < l.length := by omega
        have hlt := List.pairwise_iff_getElem.1 hs.up (k - 1) k hkl' hkl (by omega)
        have step : dispatchlaw15_PlanMany_l3 (one 50 l 0) (k : Int) = some (.inl ((k + 1 : Nat) : Int)) := by
          unfold dispatchlaw15_PlanMany_l3
          rw [hp, decide_eq_true (by omega), w64_id (x := (k : Int) - 1) (by omega) (by omega), show (k : Int) - 1 = ((k - 1 : Nat) : Int) by omega, inb_lt hkl', inb_lt hkl, step_succ (by omega)]
          simp only [cond_true, Option.bind_some, List.getElem?_eq_getElem hkl, List.getElem?_eq_getElem hkl']
          rw [decide_eq_false (by omega)]
          rfl
        rw [loop_eq, step]
        exact ih (k + 1) (by omega) (by omega)
    by_cases h0 : l.length ≤ 1
    · exact key 0 1 (Nat.le_refl _) (.inr ⟨rfl, h0, Nat.le_refl _⟩)
    · exact key (l.length - 1) 1 (Nat.le_refl _) (.inl (by omega))
  rw [e3]
  simp only [Option.bind_some]
  rw [hp, decide_eq_true (by omega)]
end Go.Fx.D

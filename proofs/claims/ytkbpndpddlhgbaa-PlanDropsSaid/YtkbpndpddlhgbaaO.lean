/-
  Laws over plain data: true at all inputs. Conditions: none.
-/
import Derived.Test.YtkbpndpddlhgbaaW
namespace Go.Fx.D
open Go Go.Fx
set_option linter.unusedVariables false
set_option linter.unusedSimpArgs false

theorem app_nil {α : Type} {b : Nat} {l : List α} (h : l.length ≤ 1000000) (hb : b ≤ 100000) : app b [] l = some l := by
  have := app_ok (b := b) (l := []) (m := l) (by simpa using h) hb
  simpa using this
theorem mkl_ok {α : Type} {b : Nat} {n : Nat} {z : α} (h : n ≤ 1000000) (hb : b ≤ 100000) : mkl b (n : Int) (n : Int) z = some (List.replicate n z) := by
  unfold mkl
  rw [if_pos]
  · simp
  · have : b * n ≤ 100000 * 1000000 := Nat.mul_le_mul hb h
    refine ⟨by omega, by omega, ?_, ?_⟩ <;> simp only [Int.toNat_natCast] <;> unfold maxLen at * <;> omega
theorem cpy_all {α : Type} {l m : List α} (h : l.length = m.length) : cpy l 0 l.length m = m := by
  unfold cpy
  rw [h, List.take_length, Nat.min_self, ← h]
  simp

/-- applications, states of few things -/
structure SmallA (a : App) : Prop where
  asks : a.Asks.length ≤ 1000
  grants : a.Grants.length ≤ 1000
  kills : a.Kills.length ≤ 1000
  told : a.Told.length ≤ 1000
  lost : a.Lost.length ≤ 1000
structure Small (s : State) : Prop where
  labels : s.Conf.Labels.length ≤ 1000
  queues : s.Conf.Queues.length ≤ 1000
  caps : ∀ q ∈ s.Conf.Queues, q.Caps.length ≤ 1000
  nodes : s.Nodes.length ≤ 1000
  apps : s.Apps.length ≤ 1000
  app : ∀ a ∈ s.Apps, SmallA a
  conts : s.Conts.length ≤ 1000
  slots : s.Slots.length ≤ 1000
  plans : s.Plans.length ≤ 1000

theorem ints_eq {l : List Int} (h : l.length ≤ 1000) : apps_ints l = some l := by
  unfold apps_ints
  rw [mkl_ok (by omega) (by omega)]
  simp only [Option.bind_some]
  rw [cpy_all (by simp)]
theorem app_eq {a : App} (h : SmallA a) : apps_app a = some a := by
  unfold apps_app api_Ask_
  rw [app_nil (by have := h.asks; omega) (by omega), ints_eq h.grants, ints_eq h.kills, ints_eq h.told, ints_eq h.lost]
  rfl
theorem set_self {α : Type} {l : List α} {k : Nat} (h : k < l.length) : l.set k l[k] = l := by simp

theorem own_eq {s : State} (h : Small s) : apps_own s = some s := by
  unfold apps_own slices_Clone___string_string_ api_Queue_ api_Node_ api_Cont_ api_Slot_ api_Plan_ api_App_
  rw [app_nil (by have := h.labels; omega) (by omega), app_nil (by have := h.queues; omega) (by omega)]
  simp only [Option.bind_some]
  obtain ⟨x, e, hx⟩ := loop_inv (fun (v : List Queue) k => (v, k)) (apps_own_l1 s.Conf.Queues) s.Conf.Queues.length (fun _ v => v = s.Conf.Queues) (fun v => v) (by
    rintro k hk v rfl
    refine ⟨s.Conf.Queues, ?_, rfl⟩
    have hq := h.queues
    have hc := h.caps _ (List.getElem_mem hk)
    unfold apps_own_l1 api_Cap_
    rw [decide_eq_true (by dsimp only; omega), step_succ (by omega)]
    dsimp only
    rw [inb_lt hk]
    simp only [cond_true, Option.bind_some, List.getElem?_eq_getElem hk]
    rw [app_nil (by omega) (by omega)]
    simp only [Option.bind_some]
    rw [show (⟨s.Conf.Queues[k].Path, s.Conf.Queues[k].Caps, s.Conf.Queues[k].User⟩ : Queue) = s.Conf.Queues[k] from rfl, set_self hk]) (by
    rintro v rfl
    unfold apps_own_l1
    rw [decide_eq_false (by dsimp only; omega)]
    rfl) (s := s.Conf.Queues) rfl
  rw [e, hx]
  simp only [Option.bind_some]
  rw [app_nil (by have := h.nodes; omega) (by omega), app_nil (by have := h.conts; omega) (by omega), app_nil (by have := h.slots; omega) (by omega), app_nil (by have := h.plans; omega) (by omega), app_nil (by have := h.apps; omega) (by omega)]
  simp only [Option.bind_some]
  obtain ⟨y, e, hy⟩ := loop_inv (fun (v : List App) k => (v, k)) (apps_own_l2 s.Apps) s.Apps.length (fun _ v => v = s.Apps) (fun v => v) (by
    rintro k hk v rfl
    refine ⟨s.Apps, ?_, rfl⟩
    have hq := h.apps
    unfold apps_own_l2
    rw [decide_eq_true (by dsimp only; omega), step_succ (by omega)]
    dsimp only
    rw [inb_lt hk]
    simp only [cond_true, Option.bind_some, List.getElem?_eq_getElem hk]
    rw [app_eq (h.app _ (List.getElem_mem hk))]
    simp only [Option.bind_some]
    rw [set_self hk]) (by
    rintro v rfl
    unfold apps_own_l2
    rw [decide_eq_false (by dsimp only; omega)]
    rfl) (s := s.Apps) rfl
  rw [e, hy]
  rfl

theorem lose_eq {s : State} (h : Small s) : apps_Lose s [] = some s := by
  unfold apps_Lose
  rw [own_eq h]
  simp only [Option.bind_some]
  have e : loop (apps_Lose_l1 []) (s, 0) = some s := by
    rw [loop_eq]
    unfold apps_Lose_l1
    rfl
  rw [e]
  simp only [Option.bind_some]
  rw [own_eq h]
  rfl

/-- where a plan of a number stands -/
def placeK (l : List Plan) (id : Int) : Nat := (l.takeWhile fun x => decide (x.Id < id)).length

theorem takeWhile_get {α : Type} (p : α → Bool) : ∀ (l : List α) (k : Nat), k < (l.takeWhile p).length → ∃ h : k < l.length, p l[k] = true
  | [], k, h => by simp at h
  | x :: l, k, h => by
    rw [List.takeWhile_cons] at h
    split at h
    · rename_i hx
      cases k with
      | zero => exact ⟨by simp, hx⟩
      | succ k =>
        obtain ⟨h1, h2⟩ := takeWhile_get p l k (by simpa using h)
        exact ⟨by simpa using h1, by simpa using h2⟩
    · simp at h
theorem takeWhile_stop {α : Type} (p : α → Bool) : ∀ (l : List α) (h : (l.takeWhile p).length < l.length), p l[(l.takeWhile p).length] = false
  | [], h => by simp at h
  | x :: l, h => by
    by_cases hx : p x = true
    · have e : (List.takeWhile p (x :: l)).length = (l.takeWhile p).length + 1 := by rw [List.takeWhile_cons, if_pos hx]; rfl
      have h' : (l.takeWhile p).length < l.length := by rw [e] at h; simpa using h
      have := takeWhile_stop p l h'
      simp only [e, List.getElem_cons_succ]
      exact this
    · have e : (List.takeWhile p (x :: l)).length = 0 := by rw [List.takeWhile_cons, if_neg hx]; rfl
      simp only [e, List.getElem_cons_zero]
      simpa using hx

theorem placeK_le (l : List Plan) (id : Int) : placeK l id ≤ l.length := by
  unfold placeK
  exact (List.takeWhile_sublist _).length_le

theorem add_l1 {s : State} (p : Plan) (h : s.Plans.length ≤ 1000) : loop (plan_Add_l1 p s) 0 = some (placeK s.Plans p.Id : Int) := by
  have hle := placeK_le s.Plans p.Id
  obtain ⟨v, e, _⟩ := loop_inv (fun (_ : Unit) k => k) (plan_Add_l1 p s) (placeK s.Plans p.Id) (fun _ _ => True) (fun _ => (placeK s.Plans p.Id : Int)) (by
    intro k hk _ _
    refine ⟨(), ?_, trivial⟩
    obtain ⟨h1, h2⟩ := takeWhile_get _ s.Plans k hk
    unfold plan_Add_l1
    rw [decide_eq_true (by omega), inb_lt h1]
    simp only [cond_true, Option.bind_some, List.getElem?_eq_getElem h1]
    rw [h2, step_succ (by omega)]
    rfl) (by
    intro _ _
    unfold plan_Add_l1
    by_cases hlt : placeK s.Plans p.Id < s.Plans.length
    · have := takeWhile_stop _ s.Plans hlt
      rw [decide_eq_true (by omega), inb_lt hlt]
      simp only [cond_true, Option.bind_some, List.getElem?_eq_getElem hlt]
      have e : decide (s.Plans[placeK s.Plans p.Id].Id < p.Id) = false := this
      rw [e]
      rfl
    · rw [decide_eq_false (by omega)]
      rfl) (s := ()) trivial
  exact e

theorem contains_plan {s : List Plan} (hs : s.length ≤ 1000) (f : TupT fam [.st 1] → Option Bool) (g : Plan → Bool) (hg : ∀ k, f (k, ()) = some (g k)) : api_Plan__30 s f = some (s.any g) := by
  unfold api_Plan__30 api_Plan__35
  rcases loop_all (api_Plan__35_l1 s f) s.length (fun i => !(g (s.getD i ⟨0, 0, 0, 0, ⟨0, 0⟩⟩))) (fun i => .inl (i : Int)) (.inr ()) (by
    intro k hk
    unfold api_Plan__35_l1
    rw [decide_eq_true (by omega), step_succ (by omega), idx_lt hk]
    have : s.getD k ⟨0, 0, 0, 0, ⟨0, 0⟩⟩ = s[k] := by simp [List.getD, hk]
    rw [this]
    simp only [cond_true, Option.bind_some, hg]
    cases g s[k] <;> rfl) (by
    unfold api_Plan__35_l1
    rw [decide_eq_false (by omega)]
    rfl) with ⟨a, b⟩ | ⟨i, hi, a, b⟩
  · rw [b]
    have : s.any g = false := by
      rw [List.any_eq_false]
      intro x hx
      obtain ⟨i, hi, e⟩ := List.getElem_of_mem hx
      have := a i hi
      simpa [List.getD, hi, e] using this
    rw [this]
    rfl
  · rw [b]
    have : s.any g = true := by
      rw [List.any_eq_true]
      exact ⟨s[i], List.getElem_mem hi, by simpa [List.getD, hi] using a⟩
    rw [this]
    simp

/-- a state with another calendar -/
def withP (s : State) (l : List Plan) : State := ⟨s.Conf, s.Nodes, s.Apps, s.Conts, s.Slots, l, s.Now, s.Epoch, s.Seq⟩
/-- a calendar with one more -/
def insP (l : List Plan) (k : Nat) (x : Plan) : List Plan := l.take k ++ x :: l.drop k

def badP (s : State) (p : Plan) : Bool := !(decide (0 ≤ p.Id ∧ p.Id ≤ 999)) || !(decide (0 ≤ p.Label ∧ p.Label ≤ (s.Conf.Labels.length : Int) - 1)) || (p.Need.Mem == 0 && p.Need.Cores == 0)

theorem inS_ok {a b n : Nat} (h1 : a ≤ b) (h2 : b ≤ n) : inS (a : Int) (b : Int) n = some (a, b - a) := by
  unfold inS
  rw [if_pos ⟨by omega, by omega, by omega⟩]
  simp

theorem inS_ok0 {b n : Nat} (h2 : b ≤ n) : inS 0 (b : Int) n = some (0, b) := inS_ok (Nat.zero_le _) h2

theorem ins_text {l : List Plan} {k : Nat} (hk : k ≤ l.length) (x z : Plan) :
    cpy (List.set (cpy (List.replicate (l.length + 1) z) 0 (List.replicate (l.length + 1) z).length (sub l 0 k)) k x) (k + 1) (l.length + 1 - (k + 1)) (sub l k (l.length - k)) = insP l k x := by
  unfold cpy sub insP
  simp only [List.drop_zero, Nat.sub_zero, List.length_replicate, List.take_zero, List.nil_append, Nat.zero_add, List.length_take, Nat.min_eq_left hk]
  have e1 : List.take (l.length + 1) (List.take k l) = List.take k l := List.take_of_length_le (by simp; omega)
  have e2 : min (l.length + 1) k = k := by omega
  rw [e1, e2]
  have e3 : List.drop k (List.replicate (l.length + 1) z) = z :: List.replicate (l.length - k) z := by
    rw [List.drop_replicate, show l.length + 1 - k = (l.length - k) + 1 by omega]
    rfl
  rw [e3]
  have e4 : List.set (List.take k l ++ z :: List.replicate (l.length - k) z) k x = List.take k l ++ x :: List.replicate (l.length - k) z := by
    rw [List.set_append_right _ _ (by simp; omega)]
    simp [Nat.min_eq_left hk]
  rw [e4]
  have hl1 : (List.take k l).length = k := by simp [hk]
  have e5 : List.take (k + 1) (List.take k l ++ x :: List.replicate (l.length - k) z) = List.take k l ++ [x] := by
    rw [List.take_append, hl1, show k + 1 - k = 1 by omega]
    rw [List.take_of_length_le (by omega)]
    rfl
  rw [e5, List.take_of_length_le (l := List.take (l.length - k) (List.drop k l)) (by simp)]
  rw [List.take_of_length_le (l := List.drop k l) (by simp)]
  have e6 : ∀ m, l.length + 1 ≤ m → List.drop m (List.take k l ++ x :: List.replicate (l.length - k) z) = [] := by
    intro m hm
    apply List.drop_of_length_le
    simp
    omega
  rw [e6 _ (by simp; omega)]
  simp

theorem add_eq {s : State} (h : Small s) (p : Plan) (long : Int) {V : Vec} (hv : share_Total s p.Label = some V) :
    plan_Add s p long = if badP s p then some (s, 0, 1) else if s.Plans.any (fun x => x.Id == p.Id) then some (s, 0, 7) else if 12 ≤ s.Plans.length then some (s, 0, 4) else if p.From < s.Now then some (s, 0, 15) else
      (plan_Place s.Plans V p long).bind fun r => if r.2 ≠ 0 then some (s, 0, r.2) else some (withP s (insP s.Plans (placeK s.Plans p.Id) ⟨p.Id, p.Label, r.1, w64 (r.1 + long), p.Need⟩), r.1, 0) := by
  have hp := h.plans
  have hlb := h.labels
  have hk := placeK_le s.Plans p.Id
  unfold plan_Add
  rw [lose_eq h]
  simp only [Option.bind_some]
  rw [add_l1 p hp]
  simp only [Option.bind_some, pw_eq]
  rw [w64_id (x := (s.Conf.Labels.length : Int) - 1) (by omega) (by omega)]
  have hb : (bif !decide (0 ≤ p.Id ∧ p.Id ≤ 999) then some true else bif !decide (0 ≤ p.Label ∧ p.Label ≤ (s.Conf.Labels.length : Int) - 1) then some true else some ((p.Need.Mem == 0) && (p.Need.Cores == 0)) : Option Bool) = some (badP s p) := by
    unfold badP
    cases decide (0 ≤ p.Id ∧ p.Id ≤ 999) <;> cases decide (0 ≤ p.Label ∧ p.Label ≤ (s.Conf.Labels.length : Int) - 1) <;> rfl
  rw [hb]
  simp only [Option.bind_some]
  cases badP s p with
  | true => rfl
  | false =>
    simp only [cond_false, Bool.false_eq_true, if_false]
    rw [contains_plan (by omega) _ (fun x => x.Id == p.Id) (fun k => rfl)]
    simp only [Option.bind_some]
    cases s.Plans.any (fun x => x.Id == p.Id) with
    | true => rfl
    | false =>
      simp only [cond_false, Bool.false_eq_true, if_false]
      by_cases h12 : 12 ≤ s.Plans.length
      · rw [decide_eq_true (by omega), if_pos h12]
        rfl
      · rw [decide_eq_false (by omega), if_neg h12]
        simp only [cond_false]
        by_cases hnow : p.From < s.Now
        · rw [decide_eq_true hnow, if_pos hnow]
          rfl
        · rw [decide_eq_false hnow, if_neg hnow, hv]
          simp only [cond_false, Option.bind_some]
          cases plan_Place s.Plans V p long with
          | none => rfl
          | some r =>
            simp only [Option.bind_some]
            by_cases hr : r.2 = 0
            · rw [hr, if_neg (by simp)]
              simp only [bne_self_eq_false, cond_false]
              have e0 : w64 ((s.Plans.length : Int) + 1) = ((s.Plans.length + 1 : Nat) : Int) := step_succ (by omega)
              rw [e0, mkl_ok (by omega) (by omega)]
              simp only [Option.bind_some]
              rw [inS_ok0 hk]
              simp only [Option.bind_some]
              have hln : (cpy (List.replicate (s.Plans.length + 1) (⟨0, 0, 0, 0, ⟨0, 0⟩⟩ : Plan)) 0 (List.replicate (s.Plans.length + 1) (⟨0, 0, 0, 0, ⟨0, 0⟩⟩ : Plan)).length (sub s.Plans 0 (placeK s.Plans p.Id))).length = s.Plans.length + 1 := by
                unfold cpy sub
                simp
                omega
              rw [inb_lt (by rw [hln]; omega)]
              simp only [Option.bind_some]
              rw [List.getElem?_eq_getElem (by rw [hln]; omega)]
              simp only [Option.bind_some, List.length_set, hln]
              rw [step_succ (by omega), inS_ok (by omega) (by omega)]
              simp only [Option.bind_some]
              rw [inS_ok hk (Nat.le_refl _)]
              simp only [Option.bind_some]
              have := ins_text hk (⟨p.Id, p.Label, r.1, w64 (r.1 + long), ⟨p.Need.Mem, p.Need.Cores⟩⟩ : Plan) (⟨0, 0, 0, 0, ⟨0, 0⟩⟩ : Plan)
              rw [this]
              rfl
            · rw [if_pos hr]
              have : (r.2 != 0) = true := by simpa using hr
              rw [this]
              rfl
end Go.Fx.D

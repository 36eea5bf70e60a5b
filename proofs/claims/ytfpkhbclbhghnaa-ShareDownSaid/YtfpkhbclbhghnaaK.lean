/-
  Laws over plain data: true at all inputs. Conditions: none.
-/
import Derived.Test.YtfpkhbclbhghnaaP
namespace Go.Fx.D
open Go Go.Fx
set_option linter.unusedVariables false
set_option linter.unusedSimpArgs false

/-- rounds that count up to n, with what holds at each -/
theorem loop_inv {τ ρ σ : Type} (mk : σ → Int → τ) (step : τ → Option (τ ⊕ ρ)) (n : Nat) (Inv : Nat → σ → Prop) (fin : σ → ρ)
    (h1 : ∀ k, k < n → ∀ s, Inv k s → ∃ s', step (mk s (k : Int)) = some (.inl (mk s' ((k + 1 : Nat) : Int))) ∧ Inv (k + 1) s')
    (h2 : ∀ s, Inv n s → step (mk s (n : Int)) = some (.inr (fin s))) {s : σ} (h0 : Inv 0 s) : ∃ s', loop step (mk s 0) = some (fin s') ∧ Inv n s' := by
  have key : ∀ (m k : Nat), m + k = n → ∀ s, Inv k s → ∃ s', loop step (mk s (k : Int)) = some (fin s') ∧ Inv n s' := by
    intro m
    induction m with
    | zero =>
      intro k hk s hs
      have hk : k = n := by omega
      subst hk
      exact ⟨s, by rw [loop_eq, h2 s hs], hs⟩
    | succ m ih =>
      intro k hk s hs
      obtain ⟨s', e, hs'⟩ := h1 k (by omega) s hs
      rw [loop_eq, e]
      exact ih (k + 1) (by omega) s' hs'
  exact key n 0 rfl s h0

theorem idx_lt {α : Type} {l : List α} {k : Nat} (h : k < l.length) : idx l (k : Int) = some l[k] := by
  unfold idx
  rw [if_pos (by omega), Int.toNat_natCast, List.getElem?_eq_getElem h]
theorem app_ok {α : Type} {b : Nat} {l m : List α} (h : (l ++ m).length ≤ 1000000) (hb : b ≤ 100000) : app b l m = some (l ++ m) := by
  unfold app
  rw [if_pos]
  have : (l ++ m).length * b ≤ 1000000 * 100000 := Nat.mul_le_mul h hb
  unfold maxLen
  omega
theorem step_succ {k : Nat} (h : k < 1000000000) : w64 ((k : Int) + 1) = ((k + 1 : Nat) : Int) := by
  rw [w64_id (by omega) (by omega)]; omega

/-- small parts -/
def Few (v : Vec) : Prop := 0 ≤ v.Mem ∧ v.Mem ≤ 1073741824 ∧ 0 ≤ v.Cores ∧ v.Cores ≤ 1073741824
def sumV (l : List Vec) : Vec := ⟨(l.map (·.Mem)).sum, (l.map (·.Cores)).sum⟩
theorem sumV_app (l : List Vec) (v : Vec) : sumV (l ++ [v]) = ⟨(sumV l).Mem + v.Mem, (sumV l).Cores + v.Cores⟩ := by simp [sumV]
theorem sumV_bd {l : List Vec} (h : ∀ v ∈ l, Few v) : 0 ≤ (sumV l).Mem ∧ (sumV l).Mem ≤ l.length * 1073741824 ∧ 0 ≤ (sumV l).Cores ∧ (sumV l).Cores ≤ l.length * 1073741824 := by
  induction l with
  | nil => simp [sumV]
  | cons v l ih =>
    have h1 := ih (fun v hv => h v (by simp [hv]))
    have h2 := h v (by simp)
    unfold Few at h2
    simp only [sumV, List.map_cons, List.sum_cons, List.length_cons] at h1 ⊢
    rw [Int.natCast_add, Int.add_mul]
    omega

theorem add_few {a b : Vec} (h1 : 0 ≤ a.Mem) (h2 : 0 ≤ a.Cores) (h3 : a.Mem ≤ 562949953421312) (h4 : a.Cores ≤ 562949953421312) (hb : Few b) : rvec_Add a b = some (⟨a.Mem + b.Mem, a.Cores + b.Cores⟩, 0) := by
  have good : ∀ v : Vec, 0 ≤ v.Mem → 0 ≤ v.Cores → v.Mem ≤ 1125899906842624 → v.Cores ≤ 1125899906842624 → rvec_vec_good v = some true := by
    intro v g1 g2 g3 g4
    unfold rvec_vec_good
    rw [decide_eq_true (by omega), decide_eq_true (by omega), decide_eq_true (by omega), decide_eq_true (by omega)]
    rfl
  unfold Few at hb
  unfold rvec_Add rvec_over
  rw [good a (by omega) (by omega) (by omega) (by omega), good b (by omega) (by omega) (by omega) (by omega), w64_id (by omega) (by omega), w64_id (by omega) (by omega)]
  simp only [Option.bind_some, Bool.not_true, cond_false]
  rw [good _ (by dsimp only; omega) (by dsimp only; omega) (by dsimp only; omega) (by dsimp only; omega)]
  rfl

theorem sum_eq {l : List Vec} (h : ∀ v ∈ l, Few v) (hl : l.length ≤ 1000) : share_sum l = some (sumV l) := by
  unfold share_sum
  obtain ⟨v, e, hv⟩ := loop_inv (fun (v : Vec) k => (v, k)) (share_sum_l1 l) l.length (fun k v => v = sumV (l.take k)) (fun v => v) (by
    rintro k hk v rfl
    have hb := sumV_bd (l := l.take k) (fun v hv => h v (List.mem_of_mem_take hv))
    rw [List.length_take, Nat.min_eq_left (by omega)] at hb
    refine ⟨sumV (l.take (k + 1)), ?_, rfl⟩
    unfold share_sum_l1
    rw [decide_eq_true (by dsimp only; omega), idx_lt hk, step_succ (by omega)]
    simp only [cond_true, Option.bind_some]
    rw [add_few hb.1 hb.2.2.1 (by omega) (by omega) (h _ (List.getElem_mem hk)), List.take_succ_eq_append_getElem hk, sumV_app]
    rfl) (by
    rintro v rfl
    unfold share_sum_l1
    rw [decide_eq_false (by dsimp only; omega)]
    rfl) (s := ⟨0, 0⟩) rfl
  rw [e, hv, List.take_length]
  rfl

/-- a plan under way -/
def way (label now : Int) (p : Plan) : Bool := (p.Label == label) && (decide (p.From ≤ now) && decide (p.Until > now))

theorem way_eq (label now : Int) (p : Plan) : (bif p.Label == label then bif decide (p.From ≤ now) then some (decide (p.Until > now)) else some false else some false : Option Bool) = some (way label now p) := by
  unfold way
  cases p.Label == label <;> cases decide (p.From ≤ now) <;> simp

theorem kept_eq (s : State) (label : Int) (h : ∀ p ∈ s.Plans, Few p.Need) (hl : s.Plans.length ≤ 100) : share_Kept s label = some (sumV ((s.Plans.filter (way label s.Now)).map (·.Need))) := by
  unfold share_Kept
  have len : ∀ k, ((s.Plans.take k).filter (way label s.Now)).length ≤ 100 := fun k => by
    have h1 := List.length_filter_le (way label s.Now) (s.Plans.take k)
    rw [List.length_take] at h1
    omega
  obtain ⟨v, e, hv⟩ := loop_inv (fun (v : List Vec) k => (v, k)) (share_Kept_l1 s label) s.Plans.length (fun k v => v = ((s.Plans.take k).filter (way label s.Now)).map (·.Need)) (fun v => v) (by
    rintro k hk v rfl
    refine ⟨((s.Plans.take (k + 1)).filter (way label s.Now)).map (·.Need), ?_, rfl⟩
    unfold share_Kept_l1
    rw [decide_eq_true (by dsimp only; omega), idx_lt hk, step_succ (by omega)]
    simp only [cond_true, Option.bind_some]
    rw [way_eq, List.take_succ_eq_append_getElem hk, List.filter_append, List.map_append]
    simp only [Option.bind_some]
    cases hw : way label s.Now s.Plans[k] with
    | true =>
      have := len k
      rw [cond_true, app_ok (by simp; omega) (by omega)]
      simp only [Option.bind_some, List.filter_cons, hw, if_true, List.filter_nil, List.map_cons, List.map_nil]
    | false => simp [List.filter_cons, hw]) (by
    rintro v rfl
    unfold share_Kept_l1
    rw [decide_eq_false (by dsimp only; omega)]
    rfl) (s := []) rfl
  rw [e, hv, List.take_length]
  simp only [Option.bind_some]
  rw [sum_eq]
  · rfl
  · intro v hv
    obtain ⟨p, hp, rfl⟩ := List.mem_map.1 hv
    exact h p ((List.mem_filter.1 hp).1)
  · rw [List.length_map]
    have := List.length_filter_le (way label s.Now) s.Plans
    omega

theorem plainShareKept (l : List Plan) (now : Int) (label : Int) (w0 : WfT fam (.slice (.st 9)) l) (w1 : WfT fam (.int .i64) now) (w2 : WfT fam (.int .i64) label) : dispatchlaw7_ShareKept l now label = some true := by
  unfold dispatchlaw7_ShareKept dispatchref19_New
  rw [known_eq]
  by_cases hl : (l.length : Int) > 10
  · simp only [Option.bind_some, Bool.not_true, cond_false, decide_eq_true hl, cond_true]
  · simp only [Option.bind_some, Bool.not_true, cond_false, decide_eq_false hl]
    rw [within_eq (by omega) (by omega), within_eq (by omega) (by omega)]
    have hi : ∀ q : Queue, inb 0 ([q] : List Queue).length = some 0 := fun q => rfl
    rw [hi]
    simp only [Option.bind_some, List.getElem?_cons_zero]
    generalize hn : now % 60 = n0
    generalize hlb : label % 2 = lb
    generalize hq : (⟨[([] : List UInt8), ([103, 112, 117] : List UInt8)], List.set _ 0 _⟩ : Conf) = cf
    obtain ⟨v, e, hv⟩ := loop_inv (fun (v : State × Vec) k => (v.1, v.2, k)) (dispatchlaw7_ShareKept_l1 l lb) l.length
      (fun k v => v.1.Plans.length = k ∧ v.1.Now = n0 ∧ (∀ p ∈ v.1.Plans, Few p.Need) ∧ v.2 = sumV ((v.1.Plans.filter (way lb n0)).map (·.Need))) (fun v => v) (by
      rintro k hk ⟨s, want⟩ ⟨h1, h2, h3, h4⟩
      dsimp only at h1 h2 h3 h4
      subst h2 h4
      have m1 := Int.emod_nonneg l[k].Need.Mem (show (9 : Int) ≠ 0 by omega)
      have m2 := Int.emod_lt_of_pos l[k].Need.Mem (show (0 : Int) < 9 by omega)
      have m3 := Int.emod_nonneg l[k].Need.Cores (show (9 : Int) ≠ 0 by omega)
      have m4 := Int.emod_lt_of_pos l[k].Need.Cores (show (0 : Int) < 9 by omega)
      have hb := sumV_bd (l := (s.Plans.filter (way lb s.Now)).map (·.Need)) (by
        intro v hv
        obtain ⟨p, hp, rfl⟩ := List.mem_map.1 hv
        exact h3 p ((List.mem_filter.1 hp).1))
      have hfl := List.length_filter_le (way lb s.Now) s.Plans
      rw [List.length_map] at hb
      unfold dispatchlaw7_ShareKept_l1
      rw [decide_eq_true (by dsimp only; omega)]
      simp only [idx_lt hk, step_succ (show k < 1000000000 by omega), cond_true, Option.bind_some]
      rw [within_eq (by omega) (by omega), within_eq (by omega) (by omega), within_eq (by omega) (by omega), within_eq (by omega) (by omega), within_eq (by omega) (by omega)]
      simp only [Option.bind_some]
      rw [app_ok (by simp; omega) (by omega)]
      simp only [Option.bind_some]
      generalize hp : (⟨(k : Int), l[k].Label % 2, l[k].From % 50, w64 (w64 (l[k].From % 50 + 1) + l[k].Until % 20), ⟨l[k].Need.Mem % 9, l[k].Need.Cores % 9⟩⟩ : Plan) = p
      have hneed : Few p.Need := by subst hp; unfold Few; dsimp only; omega
      have hw := way_eq lb s.Now p
      have e1 : p.Label = l[k].Label % 2 := by subst hp; rfl
      have e2 : p.From = l[k].From % 50 := by subst hp; rfl
      have e3 : p.Until = w64 (w64 (l[k].From % 50 + 1) + l[k].Until % 20) := by subst hp; rfl
      have e4 : p.Need = ⟨l[k].Need.Mem % 9, l[k].Need.Cores % 9⟩ := by subst hp; rfl
      rw [e1, e2, e3] at hw
      have hw' : (bif l[k].Label % 2 == lb then bif decide (l[k].From % 50 ≤ s.Now) then some (decide (s.Now < w64 (w64 (l[k].From % 50 + 1) + l[k].Until % 20))) else some false else some false : Option Bool) = some (way lb s.Now p) := hw
      rw [hw']
      simp only [Option.bind_some]
      rw [← e4]
      have few' : ∀ q ∈ s.Plans ++ [p], Few q.Need := by
        intro q hq
        rcases List.mem_append.1 hq with hq | hq
        · exact h3 q hq
        · rw [List.mem_singleton] at hq; subst hq; exact hneed
      cases hwp : way lb s.Now p with
      | true =>
        simp only [cond_true]
        unfold dispatchref1_Plus
        unfold Few at hneed
        rw [w64_id (by omega) (by omega), w64_id (by omega) (by omega)]
        simp only [Option.bind_some]
        refine ⟨(_, _), rfl, ?_, rfl, few', ?_⟩
        · simp [h1]
        · simp only [List.filter_append, List.filter_cons, hwp, if_true, List.filter_nil, List.map_append, List.map_cons, List.map_nil, sumV_app]
      | false =>
        simp only [cond_false, Option.bind_some]
        refine ⟨(_, _), rfl, ?_, rfl, few', ?_⟩
        · simp [h1]
        · simp only [List.filter_append, List.filter_cons, hwp, Bool.false_eq_true, if_false, List.filter_nil, List.append_nil]
          rfl) (by
      rintro ⟨s, want⟩ ⟨h1, h2, h3, h4⟩
      unfold dispatchlaw7_ShareKept_l1
      rw [decide_eq_false (by dsimp only; omega)]
      rfl) (s := (⟨cf, [], [], [], [], [], n0, 0, 0⟩, ⟨0, 0⟩)) ⟨rfl, rfl, by simp, rfl⟩
    obtain ⟨h1, h2, h3, h4⟩ := hv
    rw [e]
    simp only [Option.bind_some]
    rw [kept_eq v.1 lb h3 (by omega), h2, ← h4]
    simp
end Go.Fx.D

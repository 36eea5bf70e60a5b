/-
  Laws over plain data: true at all inputs. Conditions: none.
-/
import Derived.Test.YtkbpndpddlhgbaaW
namespace Go.Fx.D
open Go Go.Fx
set_option linter.unusedVariables false
set_option linter.unusedSimpArgs false

/-- rounds from a to b that go on as long as the search does -/
theorem loop_go {ρ : Type} (step : Int → Option (Int ⊕ ρ)) (a b : Int) (fin : ρ) (hab : a ≤ b) (h1 : ∀ u, a ≤ u → u < b → step u = some (.inl (u + 1))) (h2 : step b = some (.inr fin)) : loop step a = some fin := by
  have key : ∀ (m : Nat) (u : Int), a ≤ u → u + m = b → loop step u = some fin := by
    intro m
    induction m with
    | zero =>
      intro u hu e
      have : u = b := by omega
      subst this
      rw [loop_eq, h2]
    | succ m ih =>
      intro u hu e
      rw [loop_eq, h1 u hu (by omega)]
      exact ih (u + 1) (by omega) (by omega)
  exact key (b - a).toNat a (Int.le_refl _) (by omega)

/-- rounds with a flag, from u to b: is p true everywhere? -/
theorem loop_flag (step : Bool × Int → Option ((Bool × Int) ⊕ Bool)) (p : Int → Bool) (a b : Int) (hab : a ≤ b) (h1 : ∀ u, a ≤ u → u < b → step (true, u) = some (.inl (p u, u + 1))) (h2 : ∀ u, step (false, u) = some (.inr false)) (h3 : step (true, b) = some (.inr true)) :
    loop step (true, a) = some true ∧ (∀ u, a ≤ u → u < b → p u = true) ∨ loop step (true, a) = some false ∧ ∃ u, a ≤ u ∧ u < b ∧ p u = false := by
  have key : ∀ (m : Nat) (v : Int), a ≤ v → v + m = b → loop step (true, v) = some true ∧ (∀ u, v ≤ u → u < b → p u = true) ∨ loop step (true, v) = some false ∧ ∃ u, v ≤ u ∧ u < b ∧ p u = false := by
    intro m
    induction m with
    | zero =>
      intro v hv e
      have : v = b := by omega
      subst this
      left
      refine ⟨by rw [loop_eq, h3], fun u h1 h2 => by omega⟩
    | succ m ih =>
      intro v hv e
      cases hp : p v with
      | true =>
        have e1 : loop step (true, v) = loop step (true, v + 1) := by rw [loop_eq, h1 v hv (by omega), hp]
        rw [e1]
        rcases ih (v + 1) (by omega) (by omega) with ⟨x, y⟩ | ⟨x, u, y1, y2, y3⟩
        · refine .inl ⟨x, fun u k1 k2 => ?_⟩
          by_cases e : u = v
          · subst e; exact hp
          · exact y u (by omega) k2
        · exact .inr ⟨x, u, by omega, y2, y3⟩
      | false =>
        refine .inr ⟨?_, v, Int.le_refl _, by omega, hp⟩
        rw [loop_eq, h1 v hv (by omega), hp]
        show loop step (false, v + 1) = _
        rw [loop_eq, h2]
  exact key (b - a).toNat a (Int.le_refl _) (by omega)

/-- plans of small numbers of label 0 -/
structure FInv (total : Vec) (k : Nat) (l : List Plan) : Prop where
  len : l.length ≤ k
  ok : ∀ x ∈ l, Okp x ∧ x.Label = 0
  fit : ∀ v, fitsV (atV l 0 v) total = true

theorem atV_app (l : List Plan) (x : Plan) (label v : Int) : atV (l ++ [x]) label v = if sel label v x then addV (atV l label v) x.Need else atV l label v := by
  unfold atV
  rw [List.filter_append, List.map_append]
  cases h : sel label v x with
  | true => simp only [List.filter_cons, h, if_true, List.filter_nil, List.map_cons, List.map_nil, sumV_app]; rfl
  | false => simp only [List.filter_cons, h, Bool.false_eq_true, if_false, List.filter_nil, List.map_nil, List.append_nil]

theorem rplus_eq {a b : Vec} (h1 : 0 ≤ a.Mem) (h2 : a.Mem ≤ 107374182400) (h3 : 0 ≤ a.Cores) (h4 : a.Cores ≤ 107374182400) (hb : Few b) : dispatchref1_Plus a b = some (addV a b) := by
  unfold Few at hb
  unfold dispatchref1_Plus
  rw [w64_id (by omega) (by omega), w64_id (by omega) (by omega)]
  rfl

/-- nowhere ahead of r -/
theorem l2_eq {l : List Plan} (hl : Okl l) {T1 T2 : Int} (e1 : w64 (1 + T1) = 1 + T1) (e2 : w64 (1 + T2) = 1 + T2) (k : Int) {g p : Plan} (hp : p.Label = 0) (hn : p.Need = g.Need) (hf : Few g.Need) {x6 r e : Int} (h6 : 0 ≤ x6 ∧ x6 < 15) (hg : 0 ≤ g.From ∧ g.From ≤ r) (hr : r ≤ 1000000)
    (hno : ∀ u, g.From ≤ u → u < r → ¬ Win l ⟨1 + T1, 1 + T2⟩ p u (1 + x6)) : loop (dispatchlaw15_PlanFits_l2 T1 T2 (l, k) g x6 (r, e)) g.From = some (.inr ()) := by
  refine loop_go _ g.From r _ hg.2 ?_ ?_
  · intro u hu1 hu2
    unfold dispatchlaw15_PlanFits_l2
    dsimp only
    rw [decide_eq_true hu2]
    simp only [cond_true]
    have ew : w64 (1 + x6) = 1 + x6 := w64_id (by omega) (by omega)
    have hfl := loop_flag (dispatchlaw15_PlanFits_l3 T1 T2 (l, k) g x6 u) (fun v => okAt l ⟨1 + T1, 1 + T2⟩ p v) u (u + (1 + x6)) (by omega) (by
      intro v hv1 hv2
      unfold dispatchlaw15_PlanFits_l3
      dsimp only
      rw [ew, w64_id (x := u + (1 + x6)) (by omega) (by omega), decide_eq_true hv2]
      have hb := at_bd hl 0 v
      simp only [cond_true, Option.bind_some]
      rw [at_eq hl]
      simp only [Option.bind_some]
      rw [rplus_eq hb.1 hb.2.1 hb.2.2.1 hb.2.2.2 hf]
      simp only [Option.bind_some]
      rw [rfits_eq, e1, e2, w64_id (by omega) (by omega)]
      simp only [Option.bind_some]
      unfold okAt
      rw [hp, hn]) (by
      intro v
      unfold dispatchlaw15_PlanFits_l3
      dsimp only
      cases decide (v < w64 (u + w64 (1 + x6))) <;> rfl) (by
      unfold dispatchlaw15_PlanFits_l3
      dsimp only
      rw [ew, w64_id (x := u + (1 + x6)) (by omega) (by omega), decide_eq_false (by omega)]
      rfl)
    rcases hfl with ⟨h1, h2⟩ | ⟨h1, h2⟩
    · exact absurd h2 (hno u hu1 hu2)
    · rw [h1]
      simp only [Option.bind_some, cond_false]
      rw [w64_id (by omega) (by omega)]
  · unfold dispatchlaw15_PlanFits_l2
    dsimp only
    rw [decide_eq_false (by omega)]
    rfl

theorem plainPlanFits (l : List Plan) (longs : List Int) (total : Vec) (w0 : WfT fam (.slice (.st 1)) l) (w1 : WfT fam (.slice (.int .i64)) longs) (w2 : WfT fam (.st 0) total) : dispatchlaw15_PlanFits l longs total = some true := by
  unfold dispatchlaw15_PlanFits
  rw [known_eq]
  simp only [Option.bind_some, Bool.not_true, cond_false, within_eq (show (0 : Int) < 10 by omega) (show (10 : Int) ≤ 4611686018427387904 by omega)]
  have t1 : 0 ≤ total.Mem % 10 ∧ total.Mem % 10 < 10 := by omega
  have t2 : 0 ≤ total.Cores % 10 ∧ total.Cores % 10 < 10 := by omega
  generalize total.Mem % 10 = T1 at *
  generalize total.Cores % 10 = T2 at *
  have e1 : w64 (1 + T1) = 1 + T1 := w64_id (by omega) (by omega)
  have e2 : w64 (1 + T2) = 1 + T2 := w64_id (by omega) (by omega)
  obtain ⟨n, hn⟩ : ∃ n : Nat, n = min (min l.length longs.length) 10 := ⟨_, rfl⟩
  have hn1 : n ≤ l.length := by omega
  have hn2 : n ≤ longs.length := by omega
  have hn3 : n ≤ 10 := by omega
  have hnn : ¬ (n < l.length ∧ n < longs.length ∧ n < 10) := by omega
  clear hn
  obtain ⟨s, e, hs⟩ := loop_inv (fun (s : List Plan) k => (s, k)) (dispatchlaw15_PlanFits_l1 l longs T1 T2) n (FInv ⟨1 + T1, 1 + T2⟩) (fun s => .inr s) (by
    rintro k hk s hi
    have hok : Okl s := ⟨by have := hi.len; omega, fun x hx => (hi.ok x hx).1⟩
    have hlen := hi.len
    have hkl : k < l.length := by omega
    have hkg : k < longs.length := by omega
    have gb := gd_bd l[k]
    have gf : Few (gd l[k]).Need := by unfold Few; omega
    have h6 : 0 ≤ longs[k] % 15 ∧ longs[k] % 15 < 15 := by omega
    unfold dispatchlaw15_PlanFits_l1
    dsimp only
    rw [decide_eq_true (show (k : Int) < (l.length : Int) by omega), decide_eq_true (show (k : Int) < (longs.length : Int) by omega), decide_eq_true (show (k : Int) < 10 by omega), step_succ (by omega), idx_lt hkl, idx_lt hkg]
    simp only [cond_true, Option.bind_some, good_eq, within_eq (show (0 : Int) < 15 by omega) (show (15 : Int) ≤ 4611686018427387904 by omega)]
    rw [e1, e2, w64_id (x := (gd l[k]).Until + 20) (by omega) (by omega), w64_id (x := 1 + longs[k] % 15) (by omega) (by omega)]
    generalize gd l[k] = g at *
    generalize longs[k] % 15 = x6 at *
    have hkeep : FInv ⟨1 + T1, 1 + T2⟩ (k + 1) s := ⟨by omega, hi.ok, hi.fit⟩
    rcases place_win hok ⟨1 + T1, 1 + T2⟩ (p := ⟨g.Id, 0, g.From, g.Until + 20, ⟨g.Need.Mem, g.Need.Cores⟩⟩) (long := 1 + x6) (by unfold Valid; dsimp only; refine ⟨by omega, by omega, by omega, by omega, by omega, by omega, gf⟩) with ⟨r, r1, r2, r3, r4, r5⟩ | ⟨r1, r2⟩
    · dsimp only at r1 r2 r4
      rw [r5]
      simp only [Option.bind_some, bne_self_eq_false, cond_false]
      rw [decide_eq_false (show ¬ r < g.From by omega), w64_id (x := r + (1 + x6)) (by omega) (by omega), decide_eq_false (show ¬ r + (1 + x6) > g.Until + 20 by omega)]
      simp only [cond_false, Option.bind_some]
      rw [l2_eq hok e1 e2 (k : Int) (g := g) (p := ⟨g.Id, 0, g.From, g.Until + 20, ⟨g.Need.Mem, g.Need.Cores⟩⟩) rfl rfl gf h6 ⟨by omega, r1⟩ (by omega) r4]
      simp only [Option.bind_some]
      rw [app_ok (by simp; omega) (by omega)]
      refine ⟨_, rfl, ?_, ?_, ?_⟩
      · simp only [List.length_append, List.length_cons, List.length_nil]
        omega
      · intro x hx
        rcases List.mem_append.1 hx with hx | hx
        · exact hi.ok x hx
        · rw [List.mem_singleton] at hx
          subst hx
          refine ⟨?_, rfl⟩
          unfold Okp
          dsimp only
          exact ⟨by omega, by omega, by omega, by omega, gf⟩
      · intro v
        rw [atV_app]
        cases hsel : sel 0 v ⟨(k : Int), 0, r, r + (1 + x6), ⟨g.Need.Mem, g.Need.Cores⟩⟩ with
        | false => simpa using hi.fit v
        | true =>
          have := sel_iff.1 hsel
          exact r3 v this.2.1 this.2.2
    · rw [r2]
      exact ⟨s, rfl, hkeep⟩) (by
    rintro s hi
    unfold dispatchlaw15_PlanFits_l1
    dsimp only
    by_cases h1 : n < l.length
    · rw [decide_eq_true (show (n : Int) < (l.length : Int) by omega)]
      by_cases h2 : n < longs.length
      · rw [decide_eq_true (show (n : Int) < (longs.length : Int) by omega), decide_eq_false (show ¬ (n : Int) < 10 by omega)]
        rfl
      · rw [decide_eq_false (show ¬ (n : Int) < (longs.length : Int) by omega)]
        rfl
    · rw [decide_eq_false (show ¬ (n : Int) < (l.length : Int) by omega)]
      rfl) (s := []) ⟨by simp, fun x hx => absurd hx List.not_mem_nil, by
      intro v
      unfold fitsV atV sumV
      simp
      omega⟩
  rw [show ([], (0 : Int)) = ((fun (s : List Plan) (k : Int) => (s, k)) [] 0) from rfl, e]
  simp only [Option.bind_some]
  have hok : Okl s := ⟨by have := hs.len; omega, fun x hx => (hs.ok x hx).1⟩
  rw [loop_go (dispatchlaw15_PlanFits_l4 T1 T2 s) 0 110 (.inr ()) (by omega) (by
    intro u hu1 hu2
    unfold dispatchlaw15_PlanFits_l4
    rw [decide_eq_true hu2, at_eq hok]
    simp only [cond_true, Option.bind_some]
    rw [rfits_eq, e1, e2, hs.fit u, w64_id (by omega) (by omega)]
    rfl) (by
    unfold dispatchlaw15_PlanFits_l4
    rfl)]
  rfl
end Go.Fx.D

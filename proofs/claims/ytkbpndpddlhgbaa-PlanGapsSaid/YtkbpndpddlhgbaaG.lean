/-
  Laws over plain data: true at all inputs. Conditions: none.
-/
import Derived.Test.YtkbpndpddlhgbaaW
namespace Go.Fx.D
open Go Go.Fx
set_option linter.unusedVariables false
set_option linter.unusedSimpArgs false

/-- plans that take all there is -/
def Full (l : List Plan) (t : Int) : Prop := ∀ x ∈ l, x.Label = 0 ∧ x.Need = ⟨3, 3⟩ ∧ 0 ≤ x.From ∧ x.Until = x.From + 3 ∧ x.Until ≤ t
def Busy (l : List Plan) (v : Int) : Prop := ∃ x ∈ l, x.From ≤ v ∧ v < x.Until

theorem busy_at {l : List Plan} {t v : Int} (h : Full l t) (hb : Busy l v) : 3 ≤ (atV l 0 v).Mem := by
  obtain ⟨x, hx, h1, h2⟩ := hb
  induction l with
  | nil => cases hx
  | cons y l ih =>
    have hn : 0 ≤ (atV l 0 v).Mem := by
      refine (sumV_nonneg ?_).1
      intro z hz
      obtain ⟨q, hq, rfl⟩ := List.mem_map.1 hz
      rw [(h q (by simp [(List.mem_filter.1 hq).1])).2.1]
      unfold Few
      dsimp only
      omega
    have hy := h y (by simp)
    unfold atV at hn ⊢
    simp only [sumV] at hn ⊢
    rcases List.mem_cons.1 hx with rfl | hx
    · have : sel 0 v x = true := sel_iff.2 ⟨hy.1, h1, h2⟩
      simp only [List.filter_cons, this, if_true, List.map_cons, List.sum_cons, hy.2.1]
      omega
    · have := ih (fun z hz => h z (by simp [hz])) hx
      unfold atV at this
      simp only [sumV] at this
      cases hs : sel 0 v y with
      | true =>
        simp only [List.filter_cons, hs, if_true, List.map_cons, List.sum_cons, hy.2.1]
        omega
      | false =>
        simp only [List.filter_cons, hs, Bool.false_eq_true, if_false]
        exact this

theorem idle_at {l : List Plan} {v : Int} (hb : ¬ Busy l v) : atV l 0 v = ⟨0, 0⟩ := by
  have : l.filter (sel 0 v) = [] := by
    rw [List.filter_eq_nil_iff]
    intro x hx hs
    have := sel_iff.1 hs
    exact hb ⟨x, hx, this.2.1, this.2.2⟩
  unfold atV
  rw [this]
  rfl

theorem okAt_busy {l : List Plan} {t v : Int} (h : Full l t) {p : Plan} (hp : p.Label = 0) (h1 : 1 ≤ p.Need.Mem) (h3 : p.Need.Mem ≤ 3) (h4 : p.Need.Cores ≤ 3) : okAt l ⟨3, 3⟩ p v = true ↔ ¬ Busy l v := by
  unfold okAt fitsV addV
  rw [hp]
  simp only [Bool.and_eq_true, decide_eq_true_eq]
  constructor
  · intro a hb
    have := busy_at h hb
    omega
  · intro hb
    rw [idle_at hb]
    dsimp only
    omega

/-- what the loop keeps: list, time, want -/
structure GInv (long : Int) (k : Nat) (s : List Plan × Int × Int) : Prop where
  len : s.1.length = k
  full : Full s.1 s.2.1
  lo : 0 ≤ s.2.1
  hi : s.2.1 ≤ 14 * k
  none : s.2.2 < 0 → ∀ u, 0 ≤ u → u < s.2.1 → ∃ v, u ≤ v ∧ v < u + long ∧ Busy s.1 v
  some : 0 ≤ s.2.2 → s.2.2 + long ≤ s.2.1 ∧ (∀ v, s.2.2 ≤ v → v < s.2.2 + long → ¬ Busy s.1 v) ∧ ∀ u, 0 ≤ u → u < s.2.2 → ∃ v, u ≤ v ∧ v < u + long ∧ Busy s.1 v
  neg : s.2.2 = -1 ∨ 0 ≤ s.2.2

theorem busy_mono {l : List Plan} {x : Plan} {v : Int} (h : Busy l v) : Busy (l ++ [x]) v := by
  obtain ⟨y, hy, h1⟩ := h
  exact ⟨y, by simp [hy], h1⟩
theorem busy_app {l : List Plan} {x : Plan} {v : Int} : Busy (l ++ [x]) v ↔ Busy l v ∨ (x.From ≤ v ∧ v < x.Until) := by
  constructor
  · rintro ⟨y, hy, h1⟩
    rcases List.mem_append.1 hy with hy | hy
    · exact .inl ⟨y, hy, h1⟩
    · rw [List.mem_singleton] at hy
      subst hy
      exact .inr h1
  · rintro (h | h)
    · exact busy_mono h
    · exact ⟨x, by simp, h⟩
theorem busy_lt {l : List Plan} {t v : Int} (h : Full l t) (hb : Busy l v) : v < t := by
  obtain ⟨x, hx, h1, h2⟩ := hb
  have := h x hx
  omega

theorem gstep {long : Int} (hl : 1 ≤ long) {k : Nat} {l : List Plan} {t w g i : Int} (h : GInv long k (l, t, w)) (g0 : 0 ≤ g) (g1 : g < 12) :
    GInv long (k + 1) (l ++ [⟨i, 0, t + g, t + g + 3, ⟨3, 3⟩⟩], t + g + 3, if long ≤ g ∧ w < 0 then t else w) := by
  obtain ⟨h1, h2, h3, h4, h5, h6, h7⟩ := h
  dsimp only at h1 h2 h3 h4 h5 h6 h7
  have all : ∀ {w' : Int}, (∀ u, 0 ≤ u → u < w' → ∃ v, u ≤ v ∧ v < u + long ∧ Busy l v) → ∀ u, 0 ≤ u → u < w' → ∃ v, u ≤ v ∧ v < u + long ∧ Busy (l ++ [(⟨i, 0, t + g, t + g + 3, ⟨3, 3⟩⟩ : Plan)]) v := by
    intro w' hh u hu1 hu2
    obtain ⟨v, a, b, c⟩ := hh u hu1 hu2
    exact ⟨v, a, b, busy_mono c⟩
  refine ⟨by simp [h1], ?_, by dsimp only; omega, by dsimp only; omega, ?_, ?_, ?_⟩
  · intro x hx
    rcases List.mem_append.1 hx with hx | hx
    · have := h2 x hx
      dsimp only
      refine ⟨this.1, this.2.1, this.2.2.1, this.2.2.2.1, by omega⟩
    · rw [List.mem_singleton] at hx
      subst hx
      dsimp only
      refine ⟨rfl, rfl, by omega, rfl, by omega⟩
  · dsimp only
    intro hw u hu1 hu2
    by_cases hc : long ≤ g ∧ w < 0
    · rw [if_pos hc] at hw
      omega
    · rw [if_neg hc] at hw
      by_cases hut : u < t
      · exact all (h5 hw) u hu1 hut
      · by_cases hug : u < t + g
        · exact ⟨t + g, by omega, by omega, busy_app.2 (.inr (by dsimp only; omega))⟩
        · exact ⟨u, by omega, by omega, busy_app.2 (.inr (by dsimp only; omega))⟩
  · dsimp only
    by_cases hc : long ≤ g ∧ w < 0
    · rw [if_pos hc]
      intro _
      refine ⟨by omega, ?_, all (h5 hc.2)⟩
      intro v hv1 hv2 hb
      rcases busy_app.1 hb with hb | hb
      · have := busy_lt h2 hb
        omega
      · dsimp only at hb
        omega
    · rw [if_neg hc]
      intro hw
      obtain ⟨a, b, c⟩ := h6 hw
      refine ⟨by omega, ?_, all c⟩
      intro v hv1 hv2 hb
      rcases busy_app.1 hb with hb | hb
      · exact b v hv1 hv2 hb
      · dsimp only at hb
        omega
  · dsimp only
    by_cases hc : long ≤ g ∧ w < 0
    · rw [if_pos hc]; exact .inr h3
    · rw [if_neg hc]; exact h7

theorem gaps_place {l : List Plan} {t want long : Int} {k : Nat} (hk : k ≤ 8) (hlen : l.length = k) (ht : t ≤ 14 * k) (hf : Full l t) (hl : 1 ≤ long) (hl2 : long ≤ 12) (hw0 : 0 ≤ want) (hw1 : want ≤ t)
    (free : ∀ v, want ≤ v → v < want + long → ¬ Busy l v) (first : ∀ u, 0 ≤ u → u < want → ∃ v, u ≤ v ∧ v < u + long ∧ Busy l v) {m U : Int} (hm : 1 ≤ m) (hm3 : m ≤ 3) (hU0 : 0 ≤ U) (hU : U ≤ 1000) :
    plan_Place l ⟨3, 3⟩ ⟨0, 0, 0, U, ⟨m, m⟩⟩ long = if want + long ≤ U then some (want, 0) else some (0, 16) := by
  have hok : Okl l := by
    refine ⟨by omega, ?_⟩
    intro x hx
    have := hf x hx
    unfold Okp Few
    rw [this.2.1]
    dsimp only
    omega
  have hb : ∀ v, okAt l ⟨3, 3⟩ (⟨0, 0, 0, U, ⟨m, m⟩⟩ : Plan) v = true ↔ ¬ Busy l v := fun v => okAt_busy hf rfl hm hm3 hm3
  have hwin : Win l ⟨3, 3⟩ (⟨0, 0, 0, U, ⟨m, m⟩⟩ : Plan) want long := fun v h1 h2 => (hb v).2 (free v h1 h2)
  have hno : ∀ u, 0 ≤ u → u < want → ¬ Win l ⟨3, 3⟩ (⟨0, 0, 0, U, ⟨m, m⟩⟩ : Plan) u long := by
    intro u hu1 hu2 hw
    obtain ⟨v, a, b, c⟩ := first u hu1 hu2
    exact (hb v).1 (hw v a b) c
  rcases place_win hok ⟨3, 3⟩ (p := ⟨0, 0, 0, U, ⟨m, m⟩⟩) (long := long) (by unfold Valid Few; dsimp only; omega) with ⟨r, h1, h2, h3, h4, h5⟩ | ⟨h1, h2⟩
  · dsimp only at h1 h2 h4
    have : r = want := by
      apply Int.le_antisymm
      · apply Int.not_lt.1
        intro hlt
        exact h4 want hw0 hlt hwin
      · apply Int.not_lt.1
        intro hlt
        exact hno r h1 hlt h3
    rw [h5, this, if_pos (by omega)]
  · dsimp only at h1
    rw [h2, if_neg]
    intro hle
    exact h1 want hw0 hle hwin

theorem plainPlanGaps (gaps : List Int) (long : Int) (w0 : WfT fam (.slice (.int .i64)) gaps) (w1 : WfT fam (.int .i64) long) : dispatchlaw15_PlanGaps gaps long = some true := by
  unfold dispatchlaw15_PlanGaps
  rw [known_eq]
  simp only [Option.bind_some, Bool.not_true, cond_false, within_eq (show (0 : Int) < 12 by omega) (show (12 : Int) ≤ 4611686018427387904 by omega)]
  have eL : w64 (1 + long % 12) = 1 + long % 12 := w64_id (by omega) (by omega)
  have L1 : 1 ≤ 1 + long % 12 := by omega
  have L2 : 1 + long % 12 ≤ 12 := by omega
  rw [eL]
  obtain ⟨n, hn⟩ : ∃ n : Nat, n = min gaps.length 8 := ⟨_, rfl⟩
  have hn8 : n ≤ 8 := by omega
  have hng : n ≤ gaps.length := by omega
  have hnn : ¬ (n < gaps.length ∧ n < 8) := by omega
  clear hn
  obtain ⟨s, e, hs⟩ := loop_inv (fun (s : List Plan × Int × Int) k => (s.1, s.2.1, s.2.2, k)) (dispatchlaw15_PlanGaps_l1 gaps (long % 12)) n (GInv (1 + long % 12)) (fun s => s) (by
    rintro k hk ⟨l, t, w⟩ hi
    have hkg : k < gaps.length := by omega
    have a0 := Int.emod_nonneg gaps[k] (show (12 : Int) ≠ 0 by omega)
    have a1 := Int.emod_lt_of_pos gaps[k] (show (0 : Int) < 12 by omega)
    refine ⟨_, ?_, gstep (i := (k : Int)) L1 hi a0 a1⟩
    have hlen := hi.len
    have hlo := hi.lo
    have hhi := hi.hi
    dsimp only at hlen hlo hhi
    unfold dispatchlaw15_PlanGaps_l1
    dsimp only
    rw [decide_eq_true (show (k : Int) < (gaps.length : Int) by omega), decide_eq_true (show (k : Int) < 8 by omega), step_succ (by omega), idx_lt hkg, eL]
    simp only [cond_true, Option.bind_some, within_eq (show (0 : Int) < 12 by omega) (show (12 : Int) ≤ 4611686018427387904 by omega)]
    generalize gaps[k] % 12 = g at *
    rw [w64_id (x := t + g) (by omega) (by omega), w64_id (x := t + g + 3) (by omega) (by omega), app_ok (by simp; omega) (by omega)]
    simp only [Option.bind_some]
    by_cases h1 : long % 12 + 1 ≤ g
    · rw [decide_eq_true (show g ≥ 1 + long % 12 by omega)]
      by_cases h2 : w < 0
      · rw [decide_eq_true h2, if_pos ⟨by omega, h2⟩]
        rfl
      · rw [decide_eq_false h2, if_neg (by omega)]
        rfl
    · rw [decide_eq_false (show ¬ g ≥ 1 + long % 12 by omega), if_neg (by omega)]
      rfl) (by
    rintro ⟨l, t, w⟩ hi
    unfold dispatchlaw15_PlanGaps_l1
    dsimp only
    by_cases h1 : n < gaps.length
    · rw [decide_eq_true (show (n : Int) < (gaps.length : Int) by omega), decide_eq_false (show ¬ (n : Int) < 8 by omega)]
      rfl
    · rw [decide_eq_false (show ¬ (n : Int) < (gaps.length : Int) by omega)]
      rfl) (s := ([], 0, -1)) ⟨rfl, fun x hx => absurd hx (List.not_mem_nil), by simp, by simp, (fun _ u h1 h2 => by dsimp only at h2; omega), (fun h => by dsimp only at h; omega), .inl rfl⟩
  dsimp only at e
  rw [e]
  clear e
  obtain ⟨l, t, w⟩ := s
  simp only [Option.bind_some]
  generalize hL : 1 + long % 12 = L at *
  obtain ⟨h1, h2, h3, h4, h5, h6, h7⟩ := hs
  dsimp only at h1 h2 h3 h4 h5 h6 h7
  have key : ∀ W : Int, (bif decide (w < 0) then some t else some w : Option Int) = some W → 0 ≤ W → W ≤ t → (∀ v, W ≤ v → v < W + L → ¬ Busy l v) → (∀ u, 0 ≤ u → u < W → ∃ v, u ≤ v ∧ v < u + L ∧ Busy l v) → ((
      bif decide (w < 0) then
        some t
      else
        some w).bind fun want1 =>
    (plan_Place l (⟨3, 3⟩ : Vec) (⟨0, 0, 0, 200, ⟨1, 1⟩⟩ : Plan) L).bind fun x3 =>
    (plan_Place l (⟨3, 3⟩ : Vec) (⟨0, 0, 0, w64 ((w64 (want1 + L)) - 1), ⟨3, 3⟩⟩ : Plan) L).bind fun x4 =>
    (plan_Place l (⟨3, 3⟩ : Vec) (⟨0, 0, 0, w64 (want1 + L), ⟨3, 3⟩⟩ : Plan) L).bind fun x5 =>
    bif x3.2 == 0 then
      bif x3.1 == want1 then
        bif x4.2 == 16 then
          bif x5.2 == 0 then
            some (x5.1 == want1)
          else
            some false
        else
          some false
      else
        some false
    else
      some false) = some true := by
    intro W hW W0 W1 free first
    rw [hW]
    simp only [Option.bind_some]
    rw [w64_id (x := W + L) (by omega) (by omega), w64_id (x := W + L - 1) (by omega) (by omega)]
    rw [gaps_place hn8 h1 h4 h2 L1 L2 W0 W1 free first (m := 1) (U := 200) (by omega) (by omega) (by omega) (by omega), if_pos (by omega)]
    rw [gaps_place hn8 h1 h4 h2 L1 L2 W0 W1 free first (m := 3) (U := W + L - 1) (by omega) (by omega) (by omega) (by omega), if_neg (by omega)]
    rw [gaps_place hn8 h1 h4 h2 L1 L2 W0 W1 free first (m := 3) (U := W + L) (by omega) (by omega) (by omega) (by omega), if_pos (by omega)]
    simp
  by_cases hw : w < 0
  · refine key t (by rw [decide_eq_true hw]; rfl) h3 (Int.le_refl _) ?_ (h5 hw)
    intro v hv1 hv2 hb
    have := busy_lt h2 hb
    omega
  · have hw' : 0 ≤ w := by omega
    obtain ⟨a, b, c⟩ := h6 hw'
    exact key w (by rw [decide_eq_false hw]; rfl) hw' (by omega) b c
end Go.Fx.D

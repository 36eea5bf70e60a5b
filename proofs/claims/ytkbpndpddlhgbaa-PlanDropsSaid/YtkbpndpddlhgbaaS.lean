/-
  Laws over plain data: true at all inputs. Conditions: none.
-/
import Derived.Test.YtkbpndpddlhgbaaQ
namespace Go.Fx.D
open Go Go.Fx
set_option linter.unusedVariables false
set_option linter.unusedSimpArgs false

theorem known_eq : dispatchlaw15_known = some true := by
  have ho : Okl [(⟨0, 0, 0, 7, ⟨4, 4⟩⟩ : Plan)] := by
    refine ⟨by simp, ?_⟩
    intro x hx
    rw [List.mem_singleton] at hx
    subst hx
    unfold Okp Few
    dsimp only
    omega
  have hv : Valid (⟨0, 0, 0, 100, ⟨4, 4⟩⟩ : Plan) 5 := by unfold Valid Few; dsimp only; omega
  have g0 : goodT [(⟨0, 0, 0, 7, ⟨4, 4⟩⟩ : Plan)] ⟨4, 4⟩ ⟨0, 0, 0, 100, ⟨4, 4⟩⟩ 5 0 = false := by kernel_rfl
  have g7 : goodT [(⟨0, 0, 0, 7, ⟨4, 4⟩⟩ : Plan)] ⟨4, 4⟩ ⟨0, 0, 0, 100, ⟨4, 4⟩⟩ 5 7 = true := by kernel_rfl
  have hc : cands [(⟨0, 0, 0, 7, ⟨4, 4⟩⟩ : Plan)] ⟨0, 0, 0, 100, ⟨4, 4⟩⟩ = [0, 7] := by kernel_rfl
  unfold dispatchlaw15_known
  rcases place_eq ho ⟨4, 4⟩ hv with ⟨r, h1, h2⟩ | ⟨h1, h2⟩
  · rw [h2]
    have hm := h1.mem
    rw [hc] at hm
    have : r = 7 := by
      rcases List.mem_cons.1 hm with rfl | hm
      · have := h1.good
        rw [g0] at this
        cases this
      · simpa using hm
    subst this
    rfl
  · have := h1 7 (by rw [hc]; simp)
    rw [g7] at this
    cases this

def gd (p : Plan) : Plan := ⟨p.Id % 20, p.Label % 2, p.From % 40, p.Until % 60, ⟨p.Need.Mem % 6, p.Need.Cores % 6⟩⟩
theorem good_eq (p : Plan) : dispatchlaw15_good p = some (gd p) := by
  unfold dispatchlaw15_good gd
  rw [within_eq (by omega) (by omega), within_eq (by omega) (by omega), within_eq (by omega) (by omega), within_eq (by omega) (by omega), within_eq (by omega) (by omega), within_eq (by omega) (by omega)]
  rfl
theorem gd_bd (p : Plan) : (0 ≤ (gd p).From ∧ (gd p).From < 40) ∧ (0 ≤ (gd p).Until ∧ (gd p).Until < 60) ∧ (0 ≤ (gd p).Need.Mem ∧ (gd p).Need.Mem < 6) ∧ (0 ≤ (gd p).Need.Cores ∧ (gd p).Need.Cores < 6) := by
  unfold gd
  dsimp only
  omega
theorem gd_ok (p : Plan) : Okp (gd p) := by
  have := gd_bd p
  unfold Okp Few
  omega

theorem plainPlanPlaces (l : List Plan) (total : Vec) (p : Plan) (long : Int) (t : Int) (w0 : WfT fam (.slice (.st 1)) l) (w1 : WfT fam (.st 0) total) (w2 : WfT fam (.st 1) p) (w3 : WfT fam (.int .i64) long) (w4 : WfT fam (.int .i64) t) : dispatchlaw15_PlanPlaces l total p long t = some true := by
  unfold dispatchlaw15_PlanPlaces
  rw [known_eq]
  by_cases hl : (l.length : Int) > 12
  · simp only [Option.bind_some, Bool.not_true, cond_false, decide_eq_true hl, cond_true]
  simp only [Option.bind_some, Bool.not_true, cond_false, decide_eq_false hl]
  obtain ⟨x, e, hx1, hx2⟩ := loop_inv (fun (v : List Plan) k => (v, k)) (dispatchlaw15_PlanPlaces_l1 l) l.length (fun k v => v.length = k ∧ ∀ x ∈ v, Okp x) (fun v => v) (by
    rintro k hk v ⟨h1, h2⟩
    refine ⟨v ++ [gd l[k]], ?_, by simp [h1], ?_⟩
    · unfold dispatchlaw15_PlanPlaces_l1
      rw [decide_eq_true (by dsimp only; omega), step_succ (by omega)]
      dsimp only
      rw [idx_lt hk]
      simp only [cond_true, Option.bind_some, good_eq]
      rw [app_ok (by simp; omega) (by omega)]
      rfl
    · intro y hy
      rcases List.mem_append.1 hy with hy | hy
      · exact h2 y hy
      · rw [List.mem_singleton] at hy
        subst hy
        exact gd_ok _) (by
    rintro v _
    unfold dispatchlaw15_PlanPlaces_l1
    rw [decide_eq_false (by dsimp only; omega)]
    rfl) (s := []) ⟨rfl, by simp⟩
  rw [e]
  have hok : Okl x := ⟨by omega, hx2⟩
  simp only [Option.bind_some, within_eq (show (0 : Int) < 12 by omega) (show (12 : Int) ≤ 4611686018427387904 by omega), within_eq (show (0 : Int) < 20 by omega) (show (20 : Int) ≤ 4611686018427387904 by omega), within_eq (show (0 : Int) < 60 by omega) (show (60 : Int) ≤ 4611686018427387904 by omega), good_eq]
  obtain ⟨r, er, h1, h2⟩ := both_place hok ⟨total.Mem % 12, total.Cores % 12⟩ p long
  rw [h1, h2]
  simp only [Option.bind_some, bne_self_eq_false, cond_false]
  obtain ⟨r', er', h1', h2'⟩ := both_place hok ⟨total.Mem % 12, total.Cores % 12⟩ ⟨(gd p).Id, (gd p).Label, (gd p).From, w64 ((gd p).Until + 40), ⟨(gd p).Need.Mem, (gd p).Need.Cores⟩⟩ (w64 (1 + long % 20))
  rw [h1', h2']
  simp only [Option.bind_some, beq_self_eq_true, cond_true]
  rw [at_eq hok, rat_eq hok]
  simp only [Option.bind_some, beq_self_eq_true, cond_true, Bool.and_self]
  rw [at_eq hok, rat_eq hok]
  simp only [Option.bind_some, beq_self_eq_true, Bool.and_self]
end Go.Fx.D

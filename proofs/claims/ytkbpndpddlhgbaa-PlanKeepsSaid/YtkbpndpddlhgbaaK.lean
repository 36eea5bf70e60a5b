/-
  Laws over plain data: true at all inputs. Conditions: none.
-/
import Derived.Test.YtkbpndpddlhgbaaT
namespace Go.Fx.D
open Go Go.Fx
set_option linter.unusedVariables false
set_option linter.unusedSimpArgs false

theorem kept_one {s : State} {p : Plan} (hs : s.Plans = [p]) (hp : Okp p) (hl : p.Label = 0) : dispatchref7_Kept s 0 = some (if p.From ≤ s.Now ∧ s.Now < p.Until then p.Need else ⟨0, 0⟩) := by
  unfold dispatchref7_Kept
  have hn := hp.2.2.2.2
  unfold Few at hn
  have s1 : dispatchref7_Kept_l1 s 0 (⟨0, 0⟩, 0) = some (.inl ((if p.From ≤ s.Now ∧ s.Now < p.Until then p.Need else ⟨0, 0⟩), 1)) := by
    unfold dispatchref7_Kept_l1
    rw [hs]
    have e : idx [p] 0 = some p := rfl
    have ep : dispatchref1_Plus ⟨0, 0⟩ p.Need = some p.Need := by
      unfold dispatchref1_Plus
      dsimp only
      rw [Int.zero_add, Int.zero_add, w64_id (by omega) (by omega), w64_id (by omega) (by omega)]
    rw [decide_eq_true (by simp)]
    simp only [cond_true, e, Option.bind_some, ep, hl, beq_self_eq_true]
    by_cases h1 : p.From ≤ s.Now
    · rw [decide_eq_true h1]
      by_cases h2 : s.Now < p.Until
      · rw [decide_eq_true h2, if_pos ⟨h1, h2⟩]
        rfl
      · rw [decide_eq_false h2, if_neg (fun h => h2 h.2)]
        rfl
    · rw [decide_eq_false h1, if_neg (fun h => h1 h.1)]
      rfl
  rw [loop_eq, s1]
  dsimp only
  rw [loop_eq]
  unfold dispatchref7_Kept_l1
  rw [hs]
  rfl

theorem plainPlanKeeps (p : Plan) (long : Int) (at_ : Int) (w0 : WfT fam (.st 1) p) (w1 : WfT fam (.int .i64) long) (w2 : WfT fam (.int .i64) at_) : dispatchlaw15_PlanKeeps p long at_ = some true := by
  unfold dispatchlaw15_PlanKeeps dispatchref19_New
  rw [known_eq]
  simp only [Option.bind_some, Bool.not_true, cond_false, within_eq (show (0 : Int) < 20 by omega) (show (20 : Int) ≤ 4611686018427387904 by omega), within_eq (show (0 : Int) < 70 by omega) (show (70 : Int) ≤ 4611686018427387904 by omega), good_eq]
  have gb := gd_bd p
  have gi : 0 ≤ (gd p).Id ∧ (gd p).Id < 20 := by unfold gd; dsimp only; omega
  have l1 : 0 ≤ long % 20 ∧ long % 20 < 20 := by omega
  have a1 : 0 ≤ at_ % 70 ∧ at_ % 70 < 70 := by omega
  rw [w64_id (x := (gd p).From + 30) (by omega) (by omega), w64_id (x := 1 + long % 20) (by omega) (by omega)]
  generalize gd p = g at *
  generalize long % 20 = L at *
  generalize at_ % 70 = now at *
  show ((plan_Add (one 6 [] 0) (⟨g.Id, 0, g.From, g.From + 30, ⟨g.Need.Mem, g.Need.Cores⟩⟩ : Plan) (1 + L)).bind _) = _
  have htot : share_Total (one 6 [] 0) 0 = some ⟨6, 6⟩ := total_one (by omega) (by omega)
  rw [add_eq (s := one 6 [] 0) (small_one (by simp)) (⟨g.Id, 0, g.From, g.From + 30, ⟨g.Need.Mem, g.Need.Cores⟩⟩ : Plan) (1 + L) (V := ⟨6, 6⟩) htot]
  rw [badP_one (by dsimp only; omega) (by dsimp only; omega) rfl]
  dsimp only
  cases hz : (g.Need.Mem == 0 && g.Need.Cores == 0) with
  | true =>
    simp only [if_true, Option.bind_some, cond_true, beq_self_eq_true]
    show ((dispatchref19_Same (one 6 [] 0) (one 6 [] 0)).bind _) = _
    rw [same_refl (small_one (by simp))]
    rfl
  | false =>
    simp only [Bool.false_eq_true, if_false]
    have hok : Okl [] := ⟨by simp, fun x hx => absurd hx List.not_mem_nil⟩
    have gf : Few g.Need := by unfold Few; omega
    have hpl : plan_Place [] ⟨6, 6⟩ (⟨g.Id, 0, g.From, g.From + 30, ⟨g.Need.Mem, g.Need.Cores⟩⟩ : Plan) (1 + L) = some (g.From, 0) := by
      have hwin : ∀ u, Win [] ⟨6, 6⟩ (⟨g.Id, 0, g.From, g.From + 30, ⟨g.Need.Mem, g.Need.Cores⟩⟩ : Plan) u (1 + L) := by
        intro u v _ _
        unfold okAt fitsV addV atV sumV
        simp
        omega
      rcases place_win hok ⟨6, 6⟩ (p := ⟨g.Id, 0, g.From, g.From + 30, ⟨g.Need.Mem, g.Need.Cores⟩⟩) (long := 1 + L) (by unfold Valid; dsimp only; exact ⟨by omega, by omega, by omega, by omega, by omega, by omega, gf⟩) with ⟨r, r1, r2, r3, r4, r5⟩ | ⟨r1, r2⟩
      · dsimp only at r1 r2 r4
        have : r = g.From := by
          apply Int.le_antisymm _ r1
          apply Int.not_lt.1
          intro hlt
          exact r4 g.From (Int.le_refl _) hlt (hwin _)
        rw [r5, this]
      · dsimp only at r1
        exact absurd (hwin _) (r1 g.From (Int.le_refl _) (by omega))
    show ((if ([] : List Plan).any (fun x => x.Id == g.Id) = true then _ else if 12 ≤ ([] : List Plan).length then _ else if g.From < (0 : Int) then _ else (plan_Place [] ⟨6, 6⟩ (⟨g.Id, 0, g.From, g.From + 30, ⟨g.Need.Mem, g.Need.Cores⟩⟩ : Plan) (1 + L)).bind _ : Option (State × Int × Int)).bind _) = _
    rw [hpl, if_neg (by simp), if_neg (by simp), if_neg (by omega)]
    simp only [Option.bind_some, ne_eq, not_true, if_false, cond_false, beq_self_eq_true, cond_true]
    rw [w64_id (x := g.From + (1 + L)) (by omega) (by omega)]
    show ((dispatchref7_Kept (one 6 [(⟨g.Id, 0, g.From, g.From + (1 + L), ⟨g.Need.Mem, g.Need.Cores⟩⟩ : Plan)] now) 0).bind _) = _
    obtain ⟨K, eK, hK⟩ : ∃ K : Vec, dispatchref7_Kept (one 6 [(⟨g.Id, 0, g.From, g.From + (1 + L), ⟨g.Need.Mem, g.Need.Cores⟩⟩ : Plan)] now) 0 = some K ∧ ((g.From ≤ now ∧ now < g.From + (1 + L)) ∧ K = g.Need ∨ ¬ (g.From ≤ now ∧ now < g.From + (1 + L)) ∧ K = ⟨0, 0⟩) := by
      refine ⟨_, kept_one rfl (by unfold Okp; dsimp only; exact ⟨by omega, by omega, by omega, by omega, gf⟩) rfl, ?_⟩
      by_cases hc : g.From ≤ now ∧ now < g.From + (1 + L)
      · exact .inl ⟨hc, if_pos hc⟩
      · exact .inr ⟨hc, if_neg hc⟩
    rw [eK]
    dsimp only [withP, insP, placeK, one]
    simp only [Option.bind_some, List.takeWhile_nil, List.length_nil, List.take_nil, List.drop_nil, List.nil_append, List.length_cons]
    have i0 : inb 0 (0 + 1) = some 0 := rfl
    rw [i0]
    simp only [Option.bind_some, List.getElem?_cons_zero, beq_self_eq_true, cond_true]
    have hz' : ¬ (g.Need.Mem = 0 ∧ g.Need.Cores = 0) := by
      intro ⟨h1, h2⟩
      rw [h1, h2] at hz
      cases hz
    have zz : ((0 : Int) == g.Need.Mem && (0 : Int) == g.Need.Cores) = false := by
      cases hh : ((0 : Int) == g.Need.Mem && (0 : Int) == g.Need.Cores) with
      | false => rfl
      | true =>
        simp only [Bool.and_eq_true, beq_iff_eq] at hh
        exact absurd ⟨hh.1.symm, hh.2.symm⟩ hz'
    rcases hK with ⟨⟨h1, h2⟩, rfl⟩ | ⟨h1, rfl⟩
    · rw [decide_eq_true (show now ≥ g.From from h1), decide_eq_true h2]
      simp
    · by_cases h2 : now ≥ g.From
      · rw [decide_eq_true h2, decide_eq_false (fun h => h1 ⟨h2, h⟩)]
        dsimp only
        rw [zz]
        rfl
      · rw [decide_eq_false h2]
        dsimp only
        rw [zz]
        rfl
end Go.Fx.D

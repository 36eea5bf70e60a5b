/-
  Laws over plain data: true at all inputs. Conditions: none.
-/
import Derived.Test.YtkbpndpddlhgbaaT
namespace Go.Fx.D
open Go Go.Fx
set_option linter.unusedVariables false
set_option linter.unusedSimpArgs false

theorem place_nil {n long : Int} {p : Plan} (hp : p.From = 0) (hU : long ≤ p.Until) (hU2 : p.Until ≤ 1000) (hl : 1 ≤ long) (hl2 : long ≤ 100) (hn : p.Need = ⟨n, n⟩) (h0 : 0 ≤ n) (h1 : n ≤ 1000) : plan_Place [] ⟨n, n⟩ p long = some (0, 0) := by
  have hok : Okl [] := ⟨by simp, fun x hx => absurd hx List.not_mem_nil⟩
  have hwin : ∀ u, Win [] ⟨n, n⟩ p u long := by
    intro u v _ _
    unfold okAt fitsV addV atV sumV
    rw [hn]
    simp
  rcases place_win hok ⟨n, n⟩ (p := p) (long := long) (by unfold Valid Few; rw [hn]; dsimp only; omega) with ⟨r, r1, r2, r3, r4, r5⟩ | ⟨r1, r2⟩
  · have : r = 0 := by
      rw [hp] at r1 r4
      apply Int.le_antisymm _ r1
      apply Int.not_lt.1
      intro hlt
      exact r4 0 (Int.le_refl _) hlt (hwin _)
    rw [r5, this]
  · exact absurd (hwin _) (r1 0 (by omega) (by omega))

theorem place_full {id id' long : Int} (hl : 1 ≤ long) (hl2 : long ≤ 100) : plan_Place [(⟨id, 0, 0, long, ⟨2, 2⟩⟩ : Plan)] ⟨2, 2⟩ (⟨id', 0, 0, long, ⟨2, 2⟩⟩ : Plan) long = some (0, 16) := by
  have hok : Okl [(⟨id, 0, 0, long, ⟨2, 2⟩⟩ : Plan)] := ⟨by simp, fun x hx => by
    rw [List.mem_singleton] at hx
    subst hx
    unfold Okp Few
    dsimp only
    omega⟩
  have hno : ¬ Win [(⟨id, 0, 0, long, ⟨2, 2⟩⟩ : Plan)] ⟨2, 2⟩ (⟨id', 0, 0, long, ⟨2, 2⟩⟩ : Plan) 0 long := by
    intro h
    have h0 := h 0 (Int.le_refl _) (by omega)
    have hs : sel 0 0 (⟨id, 0, 0, long, ⟨2, 2⟩⟩ : Plan) = true := sel_iff.2 ⟨rfl, by dsimp only; omega, by dsimp only; omega⟩
    unfold okAt fitsV addV atV at h0
    simp only [List.filter_cons, hs, if_true, List.filter_nil, List.map_cons, List.map_nil, Bool.and_eq_true, decide_eq_true_eq, sumV, List.sum_cons, List.sum_nil] at h0
    omega
  rcases place_win hok ⟨2, 2⟩ (p := ⟨id', 0, 0, long, ⟨2, 2⟩⟩) (long := long) (by unfold Valid Few; dsimp only; omega) with ⟨r, r1, r2, r3, r4, r5⟩ | ⟨r1, r2⟩
  · dsimp only at r1 r2
    have : r = 0 := by omega
    subst this
    exact absurd r3 hno
  · exact r2

theorem add_two {l : List Plan} {id u long : Int} (hlen : l.length ≤ 11) (h0 : 0 ≤ id) (h1 : id ≤ 999) :
    plan_Add (one 2 l 0) (⟨id, 0, 0, u, ⟨2, 2⟩⟩ : Plan) long = if l.any (fun x => x.Id == id) then some (one 2 l 0, 0, 7) else
      (plan_Place l ⟨2, 2⟩ (⟨id, 0, 0, u, ⟨2, 2⟩⟩ : Plan) long).bind fun r => if r.2 ≠ 0 then some (one 2 l 0, 0, r.2) else some (one 2 (insP l (placeK l id) ⟨id, 0, r.1, w64 (r.1 + long), ⟨2, 2⟩⟩) 0, r.1, 0) := by
  have htot : share_Total (one 2 l 0) 0 = some ⟨2, 2⟩ := total_one (by omega) (by omega)
  rw [add_eq (s := one 2 l 0) (small_one (by omega)) (⟨id, 0, 0, u, ⟨2, 2⟩⟩ : Plan) long (V := ⟨2, 2⟩) htot]
  rw [badP_one (by dsimp only; omega) (by dsimp only; omega) rfl]
  have hz : (((⟨id, 0, 0, u, ⟨2, 2⟩⟩ : Plan).Need.Mem == 0) && ((⟨id, 0, 0, u, ⟨2, 2⟩⟩ : Plan).Need.Cores == 0)) = false := rfl
  have hnow : ¬ (⟨id, 0, 0, u, ⟨2, 2⟩⟩ : Plan).From < (one 2 l 0).Now := by
    show ¬ (0 : Int) < 0
    omega
  have h12 : ¬ 12 ≤ (one 2 l 0).Plans.length := by
    show ¬ 12 ≤ l.length
    omega
  rw [hz, if_neg (by simp), if_neg h12, if_neg hnow]
  rfl

theorem drop_one {p : Plan} {id : Int} : plan_Drop (one 2 [p] 0) id = if p.Id = id then some (one 2 [] 0, 0) else some (one 2 [p] 0, 2) := by
  unfold plan_Drop
  rw [lose_eq (small_one (by simp))]
  simp only [Option.bind_some]
  have hp : (one 2 [p] 0).Plans = [p] := rfl
  rw [hp]
  have e : api_Plan__35 [p] (fun a' => plan_Drop_1 a'.1 id) = some (if p.Id = id then 0 else -1) := by
    unfold api_Plan__35
    have i0 : idx [p] 0 = some p := rfl
    have s0 : api_Plan__35_l1 [p] (fun a' => plan_Drop_1 a'.1 id) 0 = some (if p.Id = id then .inr (.inl 0) else .inl 1) := by
      unfold api_Plan__35_l1 plan_Drop_1
      rw [decide_eq_true (by simp), i0]
      simp only [cond_true, Option.bind_some]
      by_cases h : p.Id = id
      · rw [if_pos h, h]
        simp
      · rw [if_neg h]
        have : (p.Id == id) = false := by simpa using h
        rw [this]
        rfl
    by_cases h : p.Id = id
    · rw [if_pos h] at s0 ⊢
      rw [loop_eq, s0]
      rfl
    · rw [if_neg h] at s0 ⊢
      rw [loop_eq, s0]
      dsimp only
      rw [loop_eq]
      rfl
  rw [e]
  simp only [Option.bind_some]
  by_cases h : p.Id = id
  · rw [if_pos h, if_pos h]
    rfl
  · rw [if_neg h, if_neg h]
    rfl

theorem plainPlanDrops (id_ : Int) (other : Int) (long : Int) (w0 : WfT fam (.int .i64) id_) (w1 : WfT fam (.int .i64) other) (w2 : WfT fam (.int .i64) long) : dispatchlaw15_PlanDrops id_ other long = some true := by
  unfold dispatchlaw15_PlanDrops dispatchref19_New
  rw [known_eq]
  simp only [Option.bind_some, Bool.not_true, cond_false, within_eq (show (0 : Int) < 1000 by omega) (show (1000 : Int) ≤ 4611686018427387904 by omega), within_eq (show (0 : Int) < 50 by omega) (show (50 : Int) ≤ 4611686018427387904 by omega)]
  have i0 : 0 ≤ id_ % 1000 ∧ id_ % 1000 < 1000 := by omega
  have l0 : 0 ≤ long % 50 ∧ long % 50 < 50 := by omega
  generalize id_ % 1000 = id at *
  generalize other % 1000 = ot at *
  rw [w64_id (x := 1 + long % 50) (by omega) (by omega), w64_id (x := id + 1) (by omega) (by omega)]
  have L1 : 1 ≤ 1 + long % 50 := by omega
  have L2 : 1 + long % 50 ≤ 50 := by omega
  generalize 1 + long % 50 = L at *
  have hid : Int.tmod (id + 1) 1000 = (id + 1) % 1000 := Int.tmod_eq_emod_of_nonneg (by omega)
  rw [hid]
  have j0 : 0 ≤ (id + 1) % 1000 ∧ (id + 1) % 1000 ≤ 999 := by omega
  have hne : id ≠ (id + 1) % 1000 := by omega
  generalize (id + 1) % 1000 = id' at *
  have a3 : plan_Add (one 2 [] 0) (⟨id, 0, 0, 100, ⟨2, 2⟩⟩ : Plan) L = some (one 2 [(⟨id, 0, 0, L, ⟨2, 2⟩⟩ : Plan)] 0, 0, 0) := by
    rw [add_two (by simp) (by omega) (by omega), if_neg (by simp), place_nil rfl (by dsimp only; omega) (by dsimp only; omega) L1 (by omega) rfl (by omega) (by omega)]
    simp only [Option.bind_some, ne_eq, not_true, if_false]
    rw [w64_id (x := 0 + L) (by omega) (by omega), Int.zero_add]
    rfl
  have a4 : plan_Add (one 2 [(⟨id, 0, 0, L, ⟨2, 2⟩⟩ : Plan)] 0) (⟨id, 0, 0, 100, ⟨2, 2⟩⟩ : Plan) L = some (one 2 [(⟨id, 0, 0, L, ⟨2, 2⟩⟩ : Plan)] 0, 0, 7) := by
    rw [add_two (by simp) (by omega) (by omega), if_pos (by simp)]
  have a5 : plan_Add (one 2 [(⟨id, 0, 0, L, ⟨2, 2⟩⟩ : Plan)] 0) (⟨id', 0, 0, L, ⟨2, 2⟩⟩ : Plan) L = some (one 2 [(⟨id, 0, 0, L, ⟨2, 2⟩⟩ : Plan)] 0, 0, 16) := by
    rw [add_two (by simp) (by omega) (by omega), if_neg (by simpa using hne), place_full L1 (by omega)]
    rfl
  have a7 : plan_Add (one 2 [] 0) (⟨id', 0, 0, L, ⟨2, 2⟩⟩ : Plan) L = some (one 2 [(⟨id', 0, 0, L, ⟨2, 2⟩⟩ : Plan)] 0, 0, 0) := by
    rw [add_two (by simp) (by omega) (by omega), if_neg (by simp), place_nil rfl (by dsimp only; omega) (by dsimp only; omega) L1 (by omega) rfl (by omega) (by omega)]
    simp only [Option.bind_some, ne_eq, not_true, if_false]
    rw [w64_id (x := 0 + L) (by omega) (by omega), Int.zero_add]
    rfl
  show ((plan_Add (one 2 [] 0) (⟨id, 0, 0, 100, ⟨2, 2⟩⟩ : Plan) L).bind fun x3 => _) = _
  rw [a3]
  simp only [Option.bind_some]
  rw [a4, a5]
  simp only [Option.bind_some]
  rw [drop_one, if_pos rfl]
  simp only [Option.bind_some]
  rw [a7]
  simp only [Option.bind_some]
  rw [drop_one]
  have sm : dispatchref19_Same (one 2 [] 0) (one 2 [] 0) = some true := same_refl (small_one (by simp))
  by_cases h : id = ot
  · rw [if_pos h]
    simp only [Option.bind_some, beq_self_eq_true, cond_true]
    show ((dispatchref19_Same (one 2 [] 0) (one 2 [] 0)).bind _) = _
    rw [sm, h]
    simp
  · rw [if_neg h]
    simp only [Option.bind_some, beq_self_eq_true, cond_true]
    show ((dispatchref19_Same (one 2 [] 0) (one 2 [] 0)).bind _) = _
    rw [sm]
    have : (ot == id) = false := by
      cases hh : ot == id with
      | false => rfl
      | true =>
        rw [beq_iff_eq] at hh
        exact absurd hh.symm h
    rw [this]
    rfl
end Go.Fx.D

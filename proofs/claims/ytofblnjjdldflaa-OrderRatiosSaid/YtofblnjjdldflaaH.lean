/-
  Laws over plain data: true at all inputs. Conditions: none.
-/
import Derived.Test.YtofblnjjdldflaaG
namespace Go.Fx.D
open Go Go.Fx
set_option linter.unusedVariables false
set_option linter.unusedSimpArgs false
set_option maxRecDepth 100000

theorem chr {a : Nat} (ha : a < 4) : ∃ c, idx (P a) 5 = some c ∧ w64 (IntKind.u8.wrap ((c.toNat : Int) - 97)) = (a : Int) := by
  match a, ha with
  | 0, _ => exact ⟨97, rfl, rfl⟩
  | 1, _ => exact ⟨98, rfl, rfl⟩
  | 2, _ => exact ⟨99, rfl, rfl⟩
  | 3, _ => exact ⟨100, rfl, rfl⟩
  | a + 4, h => omega

theorem imin1 {x : Int} (h : 0 ≤ x) : imin x 1 = if x = 0 then 0 else 1 := by
  unfold imin
  by_cases e : x = 0
  · subst e; rfl
  · rw [if_neg e]
    split
    · rfl
    · omega

/-- who stands ahead has no greater part -/
theorem ahead {ua ga ub gb : Int} {a b : Nat} (u0 : 0 ≤ ua) (u1 : ua < 20) (v0 : 0 ≤ ub) (v1 : ub < 20) (g0 : 0 ≤ ga) (g1 : ga ≤ 10000) (gm : ga % 100 = 0) (h0 : 0 ≤ gb) (h1 : gb ≤ 10000) (hm : gb % 100 = 0)
    (hlt : LtR ua (100 * ga / 10000) ub (100 * gb / 10000) ∨ (EqR ua (100 * ga / 10000) ub (100 * gb / 10000) ∧ a < b)) :
    ∃ q6 : Int × Int, (((bif ua == 0 then some true else some (ub == 0)).bind fun q4 =>
      bif q4 then some (imin ua 1, imin ub 1)
      else ((bif ga == 0 then some true else some (gb == 0)).bind fun q5 =>
        bif q5 then some (w64 (1 - imin ga 1), w64 (1 - imin gb 1)) else some (w64 (ua * gb), w64 (ub * ga)))) : Option (Int × Int)) = some q6 ∧ ¬ q6.1 > q6.2 ∧ (q6.1 = q6.2 → a < b) := by
  obtain ⟨x, hx⟩ : ∃ x, ga = 100 * x := ⟨ga / 100, by omega⟩
  obtain ⟨y, hy⟩ : ∃ y, gb = 100 * y := ⟨gb / 100, by omega⟩
  have ex : 100 * ga / 10000 = x := by omega
  have ey : 100 * gb / 10000 = y := by omega
  rw [ex, ey] at hlt
  unfold LtR EqR oF at hlt
  by_cases z1 : ua = 0
  · have e1 : (ua == 0) = true := beq_iff_eq.2 z1
    rw [e1]
    simp only [cond_true, Option.bind_some]
    refine ⟨_, rfl, ?_⟩
    dsimp only
    rw [imin1 u0, imin1 v0, if_pos z1]
    by_cases z2 : ub = 0
    · rw [if_pos z2]
      refine ⟨by omega, fun _ => ?_⟩
      rcases hlt with k | k
      · rw [if_pos z1, if_pos z2] at k
        have := k.2
        omega
      · exact k.2
    · rw [if_neg z2]; exact ⟨by omega, fun q => by omega⟩
  · have e1 : (ua == 0) = false := beq_eq_false_iff_ne.2 z1
    rw [e1]
    simp only [cond_false, Option.bind_some]
    by_cases z2 : ub = 0
    · exfalso
      rw [if_neg z1, if_pos z2] at hlt
      rcases hlt with k | k
      · rcases k.2 with k2 | k2
        · omega
        · rw [z2] at k2; omega
      · rcases k.1 with k2 | k2
        · omega
        · rw [z2] at k2; omega
    · have e2 : (ub == 0) = false := beq_eq_false_iff_ne.2 z2
      rw [e2]
      simp only [cond_false]
      rw [if_neg z1, if_neg z2] at hlt
      by_cases z3 : ga = 0
      · have e3 : (ga == 0) = true := beq_iff_eq.2 z3
        have x0 : x = 0 := by omega
        rw [e3]
        simp only [cond_true, Option.bind_some]
        refine ⟨_, rfl, ?_⟩
        dsimp only
        rw [imin1 g0, imin1 h0, if_pos z3]
        rcases hlt with k | k
        · exact absurd x0 k.1
        · rcases k.1 with k2 | k2
          · have z4 : gb = 0 := by omega
            rw [if_pos z4]
            exact ⟨by omega, fun _ => k.2⟩
          · exact absurd x0 k2.1
      · have e3 : (ga == 0) = false := beq_eq_false_iff_ne.2 z3
        rw [e3]
        simp only [cond_false, Option.bind_some]
        by_cases z4 : gb = 0
        · have e4 : (gb == 0) = true := beq_iff_eq.2 z4
          rw [e4]
          simp only [cond_true]
          refine ⟨_, rfl, ?_⟩
          dsimp only
          rw [imin1 g0, imin1 h0, if_neg z3, if_pos z4]
          exact ⟨by decide, fun q => absurd q (by decide)⟩
        · have e4 : (gb == 0) = false := beq_eq_false_iff_ne.2 z4
          rw [e4]
          simp only [cond_false]
          refine ⟨_, rfl, ?_⟩
          dsimp only
          have m1 := mul_le2 (n := ua) (bp := gb) (N := 20) (B := 10000) u0 (by omega) h0 h1
          have m2 := mul_le2 (n := ub) (bp := ga) (N := 20) (B := 10000) v0 (by omega) g0 g1
          rw [w64_id (by omega) (by omega), w64_id (by omega) (by omega)]
          have p1 : ua * gb = 100 * (ua * y) := by rw [hy, Int.mul_left_comm]
          have p2 : ub * ga = 100 * (ub * x) := by rw [hx, Int.mul_left_comm]
          rw [p1, p2]
          rcases hlt with k | k
          · have := k.2.resolve_left (by omega)
            exact ⟨by omega, fun q => by omega⟩
          · rcases k.1 with k2 | k2
            · omega
            · exact ⟨by omega, fun _ => k.2⟩

theorem check_loop {n : Nat} (h2 : 2 ≤ n) (h4 : n ≤ 4) {s : State} {ul gl : List Int} (lu : ul.length = 4) (lg : gl.length = 4)
    (g : ∀ i, i < n → 0 ≤ gl.getD i 0 ∧ gl.getD i 0 ≤ 10000 ∧ gl.getD i 0 % 100 = 0) (u : ∀ i, i < n → 0 ≤ ul.getD i 0 ∧ ul.getD i 0 < 20)
    {r : List Load} (hr : r.Perm ((List.range n).map fun i => ld i (ul.getD i 0) (100 * gl.getD i 0 / 10000))) (hs : r.Pairwise LtL) :
    loop (dispatchlaw12_OrderRatios_l3 (n : Int) (s, ul, gl) (r.map (·.path))) 1 = some (.inr ()) := by
  have hrl : r.length = n := by rw [hr.length_eq]; simp
  have hld : ∀ k (h : k < n), ∃ a, a < n ∧ r[k]'(by omega) = ld a (ul.getD a 0) (100 * gl.getD a 0 / 10000) := by
    intro k hk
    have hm := hr.mem_iff.1 (List.getElem_mem (show k < r.length by omega))
    obtain ⟨a, ha, e⟩ := List.mem_map.1 hm
    exact ⟨a, List.mem_range.1 ha, e.symm⟩
  have hst : ∀ k : Nat, 1 ≤ k → k < n → dispatchlaw12_OrderRatios_l3 (n : Int) (s, ul, gl) (r.map (·.path)) (k : Int) = some (.inl ((k + 1 : Nat) : Int)) := by
    intro k hk1 hk
    obtain ⟨a, ha, ea⟩ := hld (k - 1) (by omega)
    obtain ⟨b, hb, eb⟩ := hld k hk
    have hlt := List.pairwise_iff_getElem.1 hs (k - 1) k (by omega) (by omega) (by omega)
    rw [ea, eb] at hlt
    have hlt' : LtR (ul.getD a 0) (100 * gl.getD a 0 / 10000) (ul.getD b 0) (100 * gl.getD b 0 / 10000) ∨ (EqR (ul.getD a 0) (100 * gl.getD a 0 / 10000) (ul.getD b 0) (100 * gl.getD b 0 / 10000) ∧ a < b) := by
      rcases hlt with k | k
      · exact .inl k
      · refine .inr ⟨k.1, ?_⟩
        have := k.2
        rw [show (ld a (ul.getD a 0) (100 * gl.getD a 0 / 10000)).path = P a from rfl, show (ld b (ul.getD b 0) (100 * gl.getD b 0 / 10000)).path = P b from rfl, P_less (by omega) (by omega)] at this
        exact of_decide_eq_true this
    obtain ⟨q6, e6, n1, n2⟩ := ahead (a := a) (b := b) (u a ha).1 (u a ha).2 (u b hb).1 (u b hb).2 (g a ha).1 (g a ha).2.1 (g a ha).2.2 (g b hb).1 (g b hb).2.1 (g b hb).2.2 hlt'
    obtain ⟨ca, ca1, ca2⟩ := chr (a := a) (by omega)
    obtain ⟨cb, cb1, cb2⟩ := chr (a := b) (by omega)
    have d1 : decide ((k : Int) < (n : Int)) = true := by rw [decide_eq_true_iff]; omega
    have wk : w64 ((k : Int) - 1) = ((k - 1 : Nat) : Int) := by rw [w64_id (by omega) (by omega)]; omega
    have hl : (r.map (·.path)).length = n := by simp [hrl]
    have p1 : (r.map (·.path))[k - 1]? = some (P a) := by rw [List.getElem?_map, List.getElem?_eq_getElem (by omega), ea]; rfl
    have p2 : (r.map (·.path))[k]? = some (P b) := by rw [List.getElem?_map, List.getElem?_eq_getElem (by omega), eb]; rfl
    have i1 : inb ((k - 1 : Nat) : Int) (r.map (·.path)).length = some (k - 1) := inb_lt (by omega)
    have i2 : inb (k : Int) (r.map (·.path)).length = some k := inb_lt (by omega)
    have ia : inb (a : Int) 4 = some a := inb_lt (by omega)
    have ib : inb (b : Int) 4 = some b := inb_lt (by omega)
    have ga := get_getD (b := gl) (i := a) (by omega)
    have gb := get_getD (b := gl) (i := b) (by omega)
    have va := get_getD (b := ul) (i := a) (by omega)
    have vb := get_getD (b := ul) (i := b) (by omega)
    unfold dispatchlaw12_OrderRatios_l3
    simp only [d1, cond_true, wk, i1, Option.bind_some, p1, ca1, i2, p2, cb1, ca2, cb2, ia, ib, ga, gb, va, vb]
    rw [e6]
    simp only [Option.bind_some]
    rw [decide_eq_false n1]
    simp only [cond_false]
    have hq : (bif q6.1 == q6.2 then some (decide ((a : Int) > (b : Int))) else some false : Option Bool) = some false := by
      by_cases e : q6.1 = q6.2
      · rw [beq_iff_eq.2 e, decide_eq_false (by have := n2 e; omega)]; rfl
      · rw [beq_eq_false_iff_ne.2 e]; rfl
    rw [hq]
    simp only [Option.bind_some, cond_false]
    rw [step_succ (by omega)]
  have key : ∀ (m k : Nat), 1 ≤ k → m + k = n → loop (dispatchlaw12_OrderRatios_l3 (n : Int) (s, ul, gl) (r.map (·.path))) (k : Int) = some (.inr ()) := by
    intro m
    induction m with
    | zero =>
      intro k _ hk
      refine loop_out ?_
      unfold dispatchlaw12_OrderRatios_l3
      have d1 : decide ((k : Int) < (n : Int)) = false := by rw [decide_eq_false_iff_not]; omega
      simp only [d1, cond_false]
    | succ m ih => intro k h hk; rw [loop_next (hst k h (by omega))]; exact ih (k + 1) (by omega) (by omega)
  exact key (n - 1) 1 (by omega) (by omega)

theorem knownT : dispatchlaw12_known = some true := (le_dispatchlaw12_known).ok _ (by kernel_rfl)

theorem build {used least : List Int} {n : Nat} (h2 : 2 ≤ n) (hn : n ≤ 4) (hu : n ≤ used.length) (hl : n ≤ least.length) :
    ∃ A C ul gl, loop (dispatchlaw12_OrderRatios_l1 used least (n : Int)) (sQ [qR] [] [], 10000, [0, 0, 0, 0], [0, 0, 0, 0], 0, 0) = some (sQ (QL n (fun i => gl.getD i 0)) A C, ul, gl) ∧ Inv n n A C 0 ul gl := by
  have key : ∀ (m k : Nat), m + k = n → ∀ A C left ul gl, Inv n k A C left ul gl →
      ∃ A' C' ul' gl', loop (dispatchlaw12_OrderRatios_l1 used least (n : Int)) (sQ (QL k (fun i => gl.getD i 0)) A C, left, ul, gl, (C.length : Int), (k : Int)) = some (sQ (QL n (fun i => gl'.getD i 0)) A' C', ul', gl') ∧ Inv n n A' C' 0 ul' gl' := by
    intro m
    induction m with
    | zero =>
      intro k hk A C left ul gl h
      have hk : k = n := by omega
      subst hk
      have := h.last rfl
      subst this
      refine ⟨A, C, ul, gl, loop_out ?_, h⟩
      unfold dispatchlaw12_OrderRatios_l1
      have d1 : decide ((k : Int) < (k : Int)) = false := by rw [decide_eq_false_iff_not]; omega
      simp only [d1, cond_false]
    | succ m ih =>
      intro k hk A C left ul gl h
      obtain ⟨A', C', left', ul', gl', e, h'⟩ := round hn (show k < n by omega) hu hl h
      obtain ⟨A2, C2, ul2, gl2, e2, h3⟩ := ih (k + 1) (by omega) A' C' left' ul' gl' h'
      exact ⟨A2, C2, ul2, gl2, by rw [loop_next e]; exact e2, h3⟩
  refine key n 0 (by omega) [] [] 10000 [0, 0, 0, 0] [0, 0, 0, 0] ?_
  refine ⟨⟨⟨by simp, by omega, by simp, by simp, by simp, by simp, by simp, by omega, by omega⟩, by simp, by simp, by simp⟩, rfl, rfl, by omega, by omega, by simp [sumG], by omega, by omega, by omega⟩

theorem plainOrderRatios (used : List Int) (least : List Int) (w0 : WfT fam (.slice (.int .i64)) used) (w1 : WfT fam (.slice (.int .i64)) least) : dispatchlaw12_OrderRatios used least = some true := by
  obtain ⟨n, hn⟩ : ∃ n : Nat, n = min (min used.length least.length) 4 := ⟨_, rfl⟩
  have hm : imin (imin (used.length : Int) (least.length : Int)) 4 = (n : Int) := by
    unfold imin
    split <;> split <;> omega
  unfold dispatchlaw12_OrderRatios
  rw [knownT]
  simp only [Option.bind_some, Bool.not_true, cond_false, hm]
  by_cases h2 : 2 ≤ n
  · have d1 : decide ((n : Int) < 2) = false := by rw [decide_eq_false_iff_not]; omega
    obtain ⟨A, C, ul, gl, e, h⟩ := build (used := used) (least := least) h2 (by omega) (by omega) (by omega)
    have hN : dispatchref19_New = some (⟨⟨[[]], [qR]⟩, [], [], [], [], [], 0, 0, 0⟩ : State) := rfl
    have hc : dispatchref6_Check ⟨[[]], QL n (fun i => gl.getD i 0)⟩ = some 0 := by
      have hs := h.sum
      have hg : ∀ i, i < n → 0 ≤ gl.getD i 0 ∧ gl.getD i 0 ≤ 10000 := fun i hi => ⟨(h.g i hi).1, (h.g i hi).2.1⟩
      have h4 : n ≤ 4 := by omega
      clear hn hm e
      match n, h2, h4, h, hs, hg with
      | 2, _, _, h, hs, hg => exact checkQ2 hg (by simp only [sumG_succ] at hs; simp [sumG] at hs; simpa using hs)
      | 3, _, _, h, hs, hg => exact checkQ3 hg (by simp only [sumG_succ] at hs; simp [sumG] at hs; simpa using hs)
      | 4, _, _, h, hs, hg => exact checkQ4 hg (by simp only [sumG_succ] at hs; simp [sumG] at hs; simpa using hs)
      | n + 5, _, h, _, _, _ => omega
    have hS : dispatchref19_Sound (sQ (QL n (fun i => gl.getD i 0)) A C) = some true := sound_ok h2 (by omega) h.ac.ac hc
    obtain ⟨r, hk, hp, hpw⟩ := kids_ok (G := fun i => gl.getD i 0) h2 (by omega) h.ac.ac (fun i hi => by have := h.u i hi; omega) (fun i hi => ⟨(h.g i hi).1, (h.g i hi).2.1⟩)
    have hk' : order_Kids (sQ (QL n (fun i => gl.getD i 0)) A C) [114, 111, 111, 116] 0 = some (r.map (·.path)) := hk
    have hrl : r.length = n := by rw [hp.length_eq]; simp
    have hl : (((r.map (·.path)).length : Int) != (n : Int)) = false := by simp [hrl]
    rw [d1]
    simp only [cond_false, hN, Option.bind_some]
    rw [e]
    simp only [Option.bind_some, hk', hS, Bool.not_true, cond_false, hl]
    rw [check_loop h2 (by omega) h.lu h.lg h.g h.u hp hpw]
    rfl
  · have d1 : decide ((n : Int) < 2) = true := by rw [decide_eq_true_iff]; omega
    rw [d1]
    rfl
end Go.Fx.D

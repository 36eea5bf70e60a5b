/-
  Laws over plain data: true at all inputs. Conditions: none.
-/
import Derived.Test.YtljanmldkldggaaV
namespace Go.Fx.D
open Go Go.Fx
set_option linter.unusedVariables false
set_option linter.unusedSimpArgs false

theorem of_mem (a p : Vec) (ha : Ok a) (hp : Ok p) : rvec_of a p (fun a => rvec_vec_mem a.1) = some ⟨a.Mem, nm a.Mem p.Mem⟩ := by
  unfold rvec_of rvec_vec_mem nm
  simp only [Option.bind_some]
  unfold Ok at ha hp
  by_cases h : a.Mem = 0
  · rw [if_pos h, (beq_iff_eq.2 h : (a.Mem == 0) = true), h]; rfl
  · rw [if_neg h, (beq_eq_false_iff_ne.2 h : (a.Mem == 0) = false), u64id (by omega) (by omega), u64id (by omega) (by omega)]; rfl
theorem of_cores (a p : Vec) (ha : Ok a) (hp : Ok p) : rvec_of a p (fun a => rvec_vec_cores a.1) = some ⟨a.Cores, nm a.Cores p.Cores⟩ := by
  unfold rvec_of rvec_vec_cores nm
  simp only [Option.bind_some]
  unfold Ok at ha hp
  by_cases h : a.Cores = 0
  · rw [if_pos h, (beq_iff_eq.2 h : (a.Cores == 0) = true), h]; rfl
  · rw [if_neg h, (beq_eq_false_iff_ne.2 h : (a.Cores == 0) = false), u64id (by omega) (by omega), u64id (by omega) (by omega)]; rfl

theorem nm_bd {n a : Int} (h : 0 ≤ a ∧ a ≤ 1125899906842624) : 0 ≤ nm n a ∧ nm n a ≤ 1125899906842624 := by unfold nm; split <;> omega

/-- a load: the greater one of two parts -/
def ld (a p : Vec) : Int × Int := if cmp a.Mem (nm a.Mem p.Mem) a.Cores (nm a.Cores p.Cores) < 0 then (a.Cores, nm a.Cores p.Cores) else (a.Mem, nm a.Mem p.Mem)

theorem ld_bd {a p : Vec} (ha : Ok a) (hp : Ok p) : (0 ≤ (ld a p).1 ∧ (ld a p).1 ≤ 1125899906842624) ∧ (0 ≤ (ld a p).2 ∧ (ld a p).2 ≤ 1125899906842624) := by
  have h1 := nm_bd (n := a.Mem) (a := p.Mem) ⟨hp.1, hp.2.1⟩
  have h2 := nm_bd (n := a.Cores) (a := p.Cores) ⟨hp.2.2.1, hp.2.2.2⟩
  unfold ld
  unfold Ok at ha
  split
  · exact ⟨⟨ha.2.2.1, ha.2.2.2⟩, h2⟩
  · exact ⟨⟨ha.1, ha.2.1⟩, h1⟩

theorem load_eq {a p : Vec} (ha : Ok a) (hp : Ok p) : rvec_load a p = some ⟨(ld a p).1, (ld a p).2⟩ := by
  unfold rvec_load
  rw [of_mem a p ha hp, of_cores a p ha hp]
  have h1 := nm_bd (n := a.Mem) (a := p.Mem) ⟨hp.1, hp.2.1⟩
  have h2 := nm_bd (n := a.Cores) (a := p.Cores) ⟨hp.2.2.1, hp.2.2.2⟩
  simp only [Option.bind_some]
  rw [compare_eq _ _ ⟨ha.1, ha.2.1⟩ h1 ⟨ha.2.2.1, ha.2.2.2⟩ h2]
  unfold ld
  simp only [Option.bind_some]
  by_cases h : cmp a.Mem (nm a.Mem p.Mem) a.Cores (nm a.Cores p.Cores) < 0
  · rw [if_pos h, decide_eq_true h]; rfl
  · rw [if_neg h, decide_eq_false h]; rfl

theorem order_eq (a p b q : Vec) : rvec_Order a p b q = some (if Ok a ∧ Ok p ∧ Ok b ∧ Ok q then cmp (ld a p).1 (ld a p).2 (ld b q).1 (ld b q).2 else 0) := by
  unfold rvec_Order
  simp only [good_eq]
  by_cases h1 : Ok a <;> by_cases h2 : Ok p <;> by_cases h3 : Ok b <;> by_cases h4 : Ok q <;> simp only [h1, h2, h3, h4, decide_true, decide_false, Option.bind_some, Bool.not_true, Bool.not_false, cond_true, cond_false, and_self, and_true, and_false, false_and, if_true, if_false]
  rw [load_eq h1 h2, load_eq h3 h4]
  simp only [Option.bind_some]
  rw [compare_eq _ _ (ld_bd h1 h2).1 (ld_bd h1 h2).2 (ld_bd h3 h4).1 (ld_bd h3 h4).2]
  rfl

theorem rorder_eq (x y : Frac) (h1 : 0 ≤ x.A ∧ x.A ≤ 1125899906842624) (h2 : 0 ≤ x.P ∧ x.P ≤ 1125899906842624) (h3 : 0 ≤ y.A ∧ y.A ≤ 1125899906842624) (h4 : 0 ≤ y.P ∧ y.P ≤ 1125899906842624) :
    dispatchref1_order x y = some (cmp x.A (nm x.A x.P) y.A (nm y.A y.P)) := by
  obtain ⟨n, a⟩ := x
  obtain ⟨m, b⟩ := y
  dsimp only at *
  obtain ⟨n, rfl⟩ := Int.eq_ofNat_of_zero_le h1.1
  obtain ⟨a, rfl⟩ := Int.eq_ofNat_of_zero_le h2.1
  obtain ⟨m, rfl⟩ := Int.eq_ofNat_of_zero_le h3.1
  obtain ⟨b, rfl⟩ := Int.eq_ofNat_of_zero_le h4.1
  exact rorder_nat n a m b (by omega) (by omega) (by omega) (by omega)

theorem rOrder_eq (a p b q : Vec) : dispatchref1_Order a p b q = rvec_Order a p b q := by
  rw [order_eq]
  have key : ∀ {a p : Vec}, Ok a → Ok p → ∃ f : Frac, dispatchref1_load a p = some f ∧ (0 ≤ f.A ∧ f.A ≤ 1125899906842624) ∧ (0 ≤ f.P ∧ f.P ≤ 1125899906842624) ∧ (ld a p).1 = f.A ∧ (ld a p).2 = nm f.A f.P := by
    intro a p ha hp
    unfold dispatchref1_load ld
    rw [rorder_eq _ _ ⟨ha.1, ha.2.1⟩ ⟨hp.1, hp.2.1⟩ ⟨ha.2.2.1, ha.2.2.2⟩ ⟨hp.2.2.1, hp.2.2.2⟩]
    simp only [Option.bind_some]
    by_cases h : cmp a.Mem (nm a.Mem p.Mem) a.Cores (nm a.Cores p.Cores) < 0
    · rw [if_pos h, decide_eq_true h]
      exact ⟨_, rfl, ⟨ha.2.2.1, ha.2.2.2⟩, ⟨hp.2.2.1, hp.2.2.2⟩, rfl, rfl⟩
    · rw [if_neg h, decide_eq_false h]
      exact ⟨_, rfl, ⟨ha.1, ha.2.1⟩, ⟨hp.1, hp.2.1⟩, rfl, rfl⟩
  unfold dispatchref1_Order
  simp only [may_eq]
  by_cases h1 : Ok a <;> by_cases h2 : Ok p <;> by_cases h3 : Ok b <;> by_cases h4 : Ok q <;> simp only [h1, h2, h3, h4, decide_true, decide_false, Option.bind_some, Bool.not_true, Bool.not_false, cond_true, cond_false, and_self, and_true, and_false, false_and, if_true, if_false]
  obtain ⟨f, e1, f1, f2, f3, f4⟩ := key h1 h2
  obtain ⟨k, e2, k1, k2, k3, k4⟩ := key h3 h4
  rw [e1, e2]
  simp only [Option.bind_some]
  rw [rorder_eq f k f1 f2 k1 k2, f3, f4, k3, k4]
  rfl
end Go.Fx.D

/-
  The law over plain data: true at all inputs. Conditions: none.
-/
import Derived.Test.YtmpaebhomokjmaaGreatH3
namespace Go.Fx.D
open Go Go.Fx
set_option linter.unusedVariables false
set_option linter.unusedSimpArgs false
set_option maxRecDepth 1000000
def jOf (w g : Nat) : Nat:=if 1 ≤ w ∧ 2 ≤ g then min w (g - 1) else 0
def ya (u g d w : Nat) : Bool:=match ke u [(u : Int) - g - d,g] [(u : Int) - 1,1 + (w : Int)] [u,u] with
 | some [x0,x1] => (jOf w g == 0 || (x0 == (u : Int) - 1 - (jOf w g : Nat) && x1 == (jOf w g : Nat) + 1)) && (decide (-100 ≤ x0) && decide (x0 ≤ 100) && decide (-100 ≤ x1) && decide (x1 ≤ 100))
 | _ => false
def bJ (u : Nat) : Bool:=(List.range (u + 1)).all fun g => (List.range 2).all fun d => decide (u < g + d) || (List.range 25).all fun w => ya u g d w
theorem spl4 : bJ 4 = true:=by kernel_rfl
theorem spl5 : bJ 5 = true:=by kernel_rfl
theorem spl6 : bJ 6 = true:=by kernel_rfl
theorem spl7 : bJ 7 = true:=by kernel_rfl
theorem spl8 : bJ 8 = true:=by kernel_rfl
theorem spl9 : bJ 9 = true:=by kernel_rfl
theorem spl10 : bJ 10 = true:=by kernel_rfl
theorem spl11 : bJ 11 = true:=by kernel_rfl
theorem spl12 : bJ 12 = true:=by kernel_rfl
theorem spl13 : bJ 13 = true:=by kernel_rfl
theorem spl14 : bJ 14 = true:=by kernel_rfl
theorem spl15 : bJ 15 = true:=by kernel_rfl
theorem spl16 : bJ 16 = true:=by kernel_rfl
theorem spl17 : bJ 17 = true:=by kernel_rfl
theorem spl18 : bJ 18 = true:=by kernel_rfl
theorem spl19 : bJ 19 = true:=by kernel_rfl
theorem Da (u : Nat) (h1 : 4 ≤ u) (h2 : u ≤ 19) : bJ u = true:=by
 match u,h1,h2 with
 | 4,_,_ => exact spl4
 | 5,_,_ => exact spl5
 | 6,_,_ => exact spl6
 | 7,_,_ => exact spl7
 | 8,_,_ => exact spl8
 | 9,_,_ => exact spl9
 | 10,_,_ => exact spl10
 | 11,_,_ => exact spl11
 | 12,_,_ => exact spl12
 | 13,_,_ => exact spl13
 | 14,_,_ => exact spl14
 | 15,_,_ => exact spl15
 | 16,_,_ => exact spl16
 | 17,_,_ => exact spl17
 | 18,_,_ => exact spl18
 | 19,_,_ => exact spl19
 | n + 20,_,h => omega
theorem Ar {u g d w : Nat} (h1 : 4 ≤ u) (h2 : u ≤ 19) (hg : g + d ≤ u) (hd : d < 2) (hw : w ≤ 24) : ∃ x0 x1 : Int,em u [(u : Int) - g - d,g] [(u : Int) - 1,1 + (w : Int)] [u,u] = some [x0,x1] ∧ (jOf w g = 0 ∨ (x0 = (u : Int) - 1 - (jOf w g : Nat) ∧ x1 = (jOf w g : Nat) + 1)) ∧ (-100 ≤ x0 ∧ x0 ≤ 100) ∧ -100 ≤ x1 ∧ x1 ≤ 100:=by
 have h:=Da u h1 h2
 unfold bJ at h
 rw [List.all_eq_true] at h
 have hg':=h g (List.mem_range.2 (by omega))
 rw [List.all_eq_true] at hg'
 have hd':=hg' d (List.mem_range.2 hd)
 rw [decide_eq_false (by omega),Bool.false_or,List.all_eq_true] at hd'
 have hw':=hd' w (List.mem_range.2 (by omega))
 unfold ya at hw'
 split at hw'
 ·rename_i x0 x1 hs
  simp only [Bool.and_eq_true,Bool.or_eq_true,beq_iff_eq,decide_eq_true_eq] at hw'
  exact ⟨x0,x1,(qj _ _ _ _).ok _ hs,hw'.1,⟨hw'.2.1.1.1,hw'.2.1.1.2⟩,hw'.2.1.2,hw'.2.2⟩
 ·cases hw'
end Go.Fx.D

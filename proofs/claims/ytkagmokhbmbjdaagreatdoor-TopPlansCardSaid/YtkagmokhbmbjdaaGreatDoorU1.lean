/-
  The law over plain data: true at all inputs. Conditions: none.
-/
import Derived.Test.YtkagmokhbmbjdaaGreatDoorU
import Derived.Test.YtkagmokhbmbjdaaGreatDoorFxC
namespace Go.Fx.D
open Go Go.Fx
set_option linter.unusedVariables false
set_option linter.unusedSimpArgs false
set_option maxRecDepth 1000000
theorem LB : ((List.range 8).all fun l => isT (am (0 : Nat) (8 : Nat) (l : Nat))) = true:=by kernel_rfl
theorem MG : ((List.range 8).all fun l => isT (am (1 : Nat) (8 : Nat) (l : Nat))) = true:=by kernel_rfl
theorem LC : ((List.range 8).all fun l => isT (am (2 : Nat) (8 : Nat) (l : Nat))) = true:=by kernel_rfl
theorem MB : ((List.range 8).all fun l => isT (am (3 : Nat) (8 : Nat) (l : Nat))) = true:=by kernel_rfl
theorem Lm : ((List.range 8).all fun l => isT (am (4 : Nat) (8 : Nat) (l : Nat))) = true:=by kernel_rfl
theorem LM : ((List.range 8).all fun l => isT (am (5 : Nat) (8 : Nat) (l : Nat))) = true:=by kernel_rfl
theorem LK : ((List.range 8).all fun l => isT (am (6 : Nat) (8 : Nat) (l : Nat))) = true:=by kernel_rfl
theorem Lf : ((List.range 8).all fun l => isT (am (7 : Nat) (8 : Nat) (l : Nat))) = true:=by kernel_rfl
theorem Mw : ((List.range 8).all fun l => isT (am (8 : Nat) (8 : Nat) (l : Nat))) = true:=by kernel_rfl
theorem plan8 (n : Nat) (h : n < 9) : ((List.range 8).all fun l => isT (am (n : Nat) (8 : Nat) (l : Nat))) = true:=by
 match n,h with
 | 0,_ => exact LB
 | 1,_ => exact MG
 | 2,_ => exact LC
 | 3,_ => exact MB
 | 4,_ => exact Lm
 | 5,_ => exact LM
 | 6,_ => exact LK
 | 7,_ => exact Lf
 | 8,_ => exact Mw
 | n + 9,h => omega
theorem Ml : ((List.range 8).all fun l => isT (am (0 : Nat) (0 : Nat) (l : Nat))) = true:=by kernel_rfl
theorem plan0 (n : Nat) (h : n < 1) : ((List.range 8).all fun l => isT (am (n : Nat) (0 : Nat) (l : Nat))) = true:=by
 match n,h with
 | 0,_ => exact Ml
 | n + 1,h => omega
end Go.Fx.D

/-
  The law over plain data: true at all inputs. Conditions: none.
-/
import Derived.Test.YtkagmokhbmbjdaaGreatDoorU
import Derived.Test.YtkagmokhbmbjdaaGreatDoorFxC
namespace Go.Fx.D
open Go Go.Fx
set_option linter.unusedVariables false
set_option linter.unusedSimpArgs false
set_option maxRecDepth 1000000
theorem Ms : ((List.range 8).all fun l => isT (am (0 : Nat) (7 : Nat) (l : Nat))) = true:=by kernel_rfl
theorem Lp : ((List.range 8).all fun l => isT (am (1 : Nat) (7 : Nat) (l : Nat))) = true:=by kernel_rfl
theorem K1 : ((List.range 8).all fun l => isT (am (2 : Nat) (7 : Nat) (l : Nat))) = true:=by kernel_rfl
theorem KQ : ((List.range 8).all fun l => isT (am (3 : Nat) (7 : Nat) (l : Nat))) = true:=by kernel_rfl
theorem Lr : ((List.range 8).all fun l => isT (am (4 : Nat) (7 : Nat) (l : Nat))) = true:=by kernel_rfl
theorem Mr : ((List.range 8).all fun l => isT (am (5 : Nat) (7 : Nat) (l : Nat))) = true:=by kernel_rfl
theorem KU : ((List.range 8).all fun l => isT (am (6 : Nat) (7 : Nat) (l : Nat))) = true:=by kernel_rfl
theorem K6 : ((List.range 8).all fun l => isT (am (7 : Nat) (7 : Nat) (l : Nat))) = true:=by kernel_rfl
theorem plan7 (n : Nat) (h : n < 8) : ((List.range 8).all fun l => isT (am (n : Nat) (7 : Nat) (l : Nat))) = true:=by
 match n,h with
 | 0,_ => exact Ms
 | 1,_ => exact Lp
 | 2,_ => exact K1
 | 3,_ => exact KQ
 | 4,_ => exact Lr
 | 5,_ => exact Mr
 | 6,_ => exact KU
 | 7,_ => exact K6
 | n + 8,h => omega
theorem Mv : ((List.range 8).all fun l => isT (am (0 : Nat) (1 : Nat) (l : Nat))) = true:=by kernel_rfl
theorem Ln : ((List.range 8).all fun l => isT (am (1 : Nat) (1 : Nat) (l : Nat))) = true:=by kernel_rfl
theorem plan1 (n : Nat) (h : n < 2) : ((List.range 8).all fun l => isT (am (n : Nat) (1 : Nat) (l : Nat))) = true:=by
 match n,h with
 | 0,_ => exact Mv
 | 1,_ => exact Ln
 | n + 2,h => omega
end Go.Fx.D

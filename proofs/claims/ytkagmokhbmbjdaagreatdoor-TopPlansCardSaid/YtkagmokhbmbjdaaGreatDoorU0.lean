/-
  The law over plain data: true at all inputs. Conditions: none.
-/
import Derived.Test.YtkagmokhbmbjdaaGreatDoorU
import Derived.Test.YtkagmokhbmbjdaaGreatDoorFxC
namespace Go.Fx.D
open Go Go.Fx
set_option linter.unusedVariables false
set_option linter.unusedSimpArgs false
set_option maxRecDepth 1000000
theorem KT : ((List.range 8).all fun l => isT (am (0 : Nat) (9 : Nat) (l : Nat))) = true:=by kernel_rfl
theorem L5 : ((List.range 8).all fun l => isT (am (1 : Nat) (9 : Nat) (l : Nat))) = true:=by kernel_rfl
theorem KV : ((List.range 8).all fun l => isT (am (2 : Nat) (9 : Nat) (l : Nat))) = true:=by kernel_rfl
theorem L9 : ((List.range 8).all fun l => isT (am (3 : Nat) (9 : Nat) (l : Nat))) = true:=by kernel_rfl
theorem MK : ((List.range 8).all fun l => isT (am (4 : Nat) (9 : Nat) (l : Nat))) = true:=by kernel_rfl
theorem ML : ((List.range 8).all fun l => isT (am (5 : Nat) (9 : Nat) (l : Nat))) = true:=by kernel_rfl
theorem Mf : ((List.range 8).all fun l => isT (am (6 : Nat) (9 : Nat) (l : Nat))) = true:=by kernel_rfl
theorem LT : ((List.range 8).all fun l => isT (am (7 : Nat) (9 : Nat) (l : Nat))) = true:=by kernel_rfl
theorem MP : ((List.range 8).all fun l => isT (am (8 : Nat) (9 : Nat) (l : Nat))) = true:=by kernel_rfl
theorem L8 : ((List.range 8).all fun l => isT (am (9 : Nat) (9 : Nat) (l : Nat))) = true:=by kernel_rfl
theorem plan9 (n : Nat) (h : n < 10) : ((List.range 8).all fun l => isT (am (n : Nat) (9 : Nat) (l : Nat))) = true:=by
 match n,h with
 | 0,_ => exact KT
 | 1,_ => exact L5
 | 2,_ => exact KV
 | 3,_ => exact L9
 | 4,_ => exact MK
 | 5,_ => exact ML
 | 6,_ => exact Mf
 | 7,_ => exact LT
 | 8,_ => exact MP
 | 9,_ => exact L8
 | n + 10,h => omega
end Go.Fx.D

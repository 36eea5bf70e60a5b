/-
  The law over plain data: true at all inputs. Conditions: none.
-/
import Derived.Test.YtkagmokhbmbjdaaGreatDoorU
import Derived.Test.YtkagmokhbmbjdaaGreatDoorFxC
namespace Go.Fx.D
open Go Go.Fx
set_option linter.unusedVariables false
set_option linter.unusedSimpArgs false
set_option maxRecDepth 1000000
theorem K8 : ((List.range 8).all fun l => isT (am (0 : Nat) (5 : Nat) (l : Nat))) = true:=by kernel_rfl
theorem MF : ((List.range 8).all fun l => isT (am (1 : Nat) (5 : Nat) (l : Nat))) = true:=by kernel_rfl
theorem Mp : ((List.range 8).all fun l => isT (am (2 : Nat) (5 : Nat) (l : Nat))) = true:=by kernel_rfl
theorem LA : ((List.range 8).all fun l => isT (am (3 : Nat) (5 : Nat) (l : Nat))) = true:=by kernel_rfl
theorem Lv : ((List.range 8).all fun l => isT (am (4 : Nat) (5 : Nat) (l : Nat))) = true:=by kernel_rfl
theorem Lt : ((List.range 8).all fun l => isT (am (5 : Nat) (5 : Nat) (l : Nat))) = true:=by kernel_rfl
theorem plan5 (n : Nat) (h : n < 6) : ((List.range 8).all fun l => isT (am (n : Nat) (5 : Nat) (l : Nat))) = true:=by
 match n,h with
 | 0,_ => exact K8
 | 1,_ => exact MF
 | 2,_ => exact Mp
 | 3,_ => exact LA
 | 4,_ => exact Lv
 | 5,_ => exact Lt
 | n + 6,h => omega
theorem LR : ((List.range 8).all fun l => isT (am (0 : Nat) (4 : Nat) (l : Nat))) = true:=by kernel_rfl
theorem Lj : ((List.range 8).all fun l => isT (am (1 : Nat) (4 : Nat) (l : Nat))) = true:=by kernel_rfl
theorem K2 : ((List.range 8).all fun l => isT (am (2 : Nat) (4 : Nat) (l : Nat))) = true:=by kernel_rfl
theorem Lk : ((List.range 8).all fun l => isT (am (3 : Nat) (4 : Nat) (l : Nat))) = true:=by kernel_rfl
theorem La : ((List.range 8).all fun l => isT (am (4 : Nat) (4 : Nat) (l : Nat))) = true:=by kernel_rfl
theorem plan4 (n : Nat) (h : n < 5) : ((List.range 8).all fun l => isT (am (n : Nat) (4 : Nat) (l : Nat))) = true:=by
 match n,h with
 | 0,_ => exact LR
 | 1,_ => exact Lj
 | 2,_ => exact K2
 | 3,_ => exact Lk
 | 4,_ => exact La
 | n + 5,h => omega
theorem MI : ((List.range 8).all fun l => isT (am (0 : Nat) (3 : Nat) (l : Nat))) = true:=by kernel_rfl
theorem LP : ((List.range 8).all fun l => isT (am (1 : Nat) (3 : Nat) (l : Nat))) = true:=by kernel_rfl
theorem Lh : ((List.range 8).all fun l => isT (am (2 : Nat) (3 : Nat) (l : Nat))) = true:=by kernel_rfl
theorem L4 : ((List.range 8).all fun l => isT (am (3 : Nat) (3 : Nat) (l : Nat))) = true:=by kernel_rfl
theorem plan3 (n : Nat) (h : n < 4) : ((List.range 8).all fun l => isT (am (n : Nat) (3 : Nat) (l : Nat))) = true:=by
 match n,h with
 | 0,_ => exact MI
 | 1,_ => exact LP
 | 2,_ => exact Lh
 | 3,_ => exact L4
 | n + 4,h => omega
end Go.Fx.D

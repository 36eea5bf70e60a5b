/-
  The law over plain data: true at all inputs. Conditions: none.
-/
import Derived.Test.YtkagmokhbmbjdaaGreatDoorU
import Derived.Test.YtkagmokhbmbjdaaGreatDoorFxC
namespace Go.Fx.D
open Go Go.Fx
set_option linter.unusedVariables false
set_option linter.unusedSimpArgs false
set_option maxRecDepth 1000000
theorem Lq : ((List.range 8).all fun l => isT (am (0 : Nat) (6 : Nat) (l : Nat))) = true:=by kernel_rfl
theorem ME : ((List.range 8).all fun l => isT (am (1 : Nat) (6 : Nat) (l : Nat))) = true:=by kernel_rfl
theorem Mz : ((List.range 8).all fun l => isT (am (2 : Nat) (6 : Nat) (l : Nat))) = true:=by kernel_rfl
theorem Li : ((List.range 8).all fun l => isT (am (3 : Nat) (6 : Nat) (l : Nat))) = true:=by kernel_rfl
theorem KX : ((List.range 8).all fun l => isT (am (4 : Nat) (6 : Nat) (l : Nat))) = true:=by kernel_rfl
theorem Mk : ((List.range 8).all fun l => isT (am (5 : Nat) (6 : Nat) (l : Nat))) = true:=by kernel_rfl
theorem LO : ((List.range 8).all fun l => isT (am (6 : Nat) (6 : Nat) (l : Nat))) = true:=by kernel_rfl
theorem plan6 (n : Nat) (h : n < 7) : ((List.range 8).all fun l => isT (am (n : Nat) (6 : Nat) (l : Nat))) = true:=by
 match n,h with
 | 0,_ => exact Lq
 | 1,_ => exact ME
 | 2,_ => exact Mz
 | 3,_ => exact Li
 | 4,_ => exact KX
 | 5,_ => exact Mk
 | 6,_ => exact LO
 | n + 7,h => omega
theorem Mu : ((List.range 8).all fun l => isT (am (0 : Nat) (2 : Nat) (l : Nat))) = true:=by kernel_rfl
theorem Lw : ((List.range 8).all fun l => isT (am (1 : Nat) (2 : Nat) (l : Nat))) = true:=by kernel_rfl
theorem Lx : ((List.range 8).all fun l => isT (am (2 : Nat) (2 : Nat) (l : Nat))) = true:=by kernel_rfl
theorem plan2 (n : Nat) (h : n < 3) : ((List.range 8).all fun l => isT (am (n : Nat) (2 : Nat) (l : Nat))) = true:=by
 match n,h with
 | 0,_ => exact Mu
 | 1,_ => exact Lw
 | 2,_ => exact Lx
 | n + 3,h => omega
end Go.Fx.D

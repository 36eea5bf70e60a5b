/-
  The law over plain data: true at all inputs. Conditions: none.
-/
import Derived.Test.YtkagmokhbmbjdaaGreatDoorU
import Derived.Test.YtkagmokhbmbjdaaGreatDoorFxC
namespace Go.Fx.D
open Go Go.Fx
set_option linter.unusedVariables false
set_option linter.unusedSimpArgs false
set_option maxRecDepth 1000000
theorem HY : ((List.range 5).all fun c => isT (ad [((4 : Nat) : Int),((c : Nat) : Int)] ((0 : Nat) : Int))) = true:=by kernel_rfl
theorem EU : ((List.range 5).all fun c => isT (ad [((4 : Nat) : Int),((0 : Nat) : Int),((c : Nat) : Int)] ((0 : Nat) : Int))) = true:=by kernel_rfl
theorem EL : ((List.range 5).all fun c => isT (ad [((4 : Nat) : Int),((1 : Nat) : Int),((c : Nat) : Int)] ((0 : Nat) : Int))) = true:=by kernel_rfl
theorem E4 : ((List.range 5).all fun c => isT (ad [((4 : Nat) : Int),((2 : Nat) : Int),((c : Nat) : Int)] ((0 : Nat) : Int))) = true:=by kernel_rfl
theorem FF : ((List.range 5).all fun c => isT (ad [((4 : Nat) : Int),((3 : Nat) : Int),((c : Nat) : Int)] ((0 : Nat) : Int))) = true:=by kernel_rfl
theorem Ef : ((List.range 5).all fun c => isT (ad [((4 : Nat) : Int),((4 : Nat) : Int),((c : Nat) : Int)] ((0 : Nat) : Int))) = true:=by kernel_rfl
theorem IN : ((List.range 5).all fun c => isT (ad [((4 : Nat) : Int),((c : Nat) : Int)] ((1 : Nat) : Int))) = true:=by kernel_rfl
theorem FN : ((List.range 5).all fun c => isT (ad [((4 : Nat) : Int),((0 : Nat) : Int),((c : Nat) : Int)] ((1 : Nat) : Int))) = true:=by kernel_rfl
theorem FS : ((List.range 5).all fun c => isT (ad [((4 : Nat) : Int),((1 : Nat) : Int),((c : Nat) : Int)] ((1 : Nat) : Int))) = true:=by kernel_rfl
theorem E1 : ((List.range 5).all fun c => isT (ad [((4 : Nat) : Int),((2 : Nat) : Int),((c : Nat) : Int)] ((1 : Nat) : Int))) = true:=by kernel_rfl
theorem EC : ((List.range 5).all fun c => isT (ad [((4 : Nat) : Int),((3 : Nat) : Int),((c : Nat) : Int)] ((1 : Nat) : Int))) = true:=by kernel_rfl
theorem Fa : ((List.range 5).all fun c => isT (ad [((4 : Nat) : Int),((4 : Nat) : Int),((c : Nat) : Int)] ((1 : Nat) : Int))) = true:=by kernel_rfl
theorem lo3x4 (b l : Nat) (hb : b < 5) (hl : l < 2) : ((List.range 5).all fun c => isT (ad [((4 : Nat) : Int),((b : Nat) : Int),((c : Nat) : Int)] ((l : Nat) : Int))) = true:=by
 match b,l,hb,hl with
 | 0,0,_,_ => exact EU
 | 0,1,_,_ => exact FN
 | 1,0,_,_ => exact EL
 | 1,1,_,_ => exact FS
 | 2,0,_,_ => exact E4
 | 2,1,_,_ => exact E1
 | 3,0,_,_ => exact FF
 | 3,1,_,_ => exact EC
 | 4,0,_,_ => exact Ef
 | 4,1,_,_ => exact Fa
 | n + 5,_,h,_ => omega
 | _,n + 2,_,h => omega
end Go.Fx.D

/-
  The law over plain data: true at all inputs. Conditions: none.
-/
import Derived.Test.YtkagmokhbmbjdaaGreatDoorU
import Derived.Test.YtkagmokhbmbjdaaGreatDoorFxC
namespace Go.Fx.D
open Go Go.Fx
set_option linter.unusedVariables false
set_option linter.unusedSimpArgs false
set_option maxRecDepth 1000000
theorem HT : ((List.range 5).all fun c => isT (ad [((1 : Nat) : Int),((c : Nat) : Int)] ((0 : Nat) : Int))) = true:=by kernel_rfl
theorem Ej : ((List.range 5).all fun c => isT (ad [((1 : Nat) : Int),((0 : Nat) : Int),((c : Nat) : Int)] ((0 : Nat) : Int))) = true:=by kernel_rfl
theorem Er : ((List.range 5).all fun c => isT (ad [((1 : Nat) : Int),((1 : Nat) : Int),((c : Nat) : Int)] ((0 : Nat) : Int))) = true:=by kernel_rfl
theorem Ed : ((List.range 5).all fun c => isT (ad [((1 : Nat) : Int),((2 : Nat) : Int),((c : Nat) : Int)] ((0 : Nat) : Int))) = true:=by kernel_rfl
theorem E6 : ((List.range 5).all fun c => isT (ad [((1 : Nat) : Int),((3 : Nat) : Int),((c : Nat) : Int)] ((0 : Nat) : Int))) = true:=by kernel_rfl
theorem ED : ((List.range 5).all fun c => isT (ad [((1 : Nat) : Int),((4 : Nat) : Int),((c : Nat) : Int)] ((0 : Nat) : Int))) = true:=by kernel_rfl
theorem Ie : ((List.range 5).all fun c => isT (ad [((1 : Nat) : Int),((c : Nat) : Int)] ((1 : Nat) : Int))) = true:=by kernel_rfl
theorem EH : ((List.range 5).all fun c => isT (ad [((1 : Nat) : Int),((0 : Nat) : Int),((c : Nat) : Int)] ((1 : Nat) : Int))) = true:=by kernel_rfl
theorem EO : ((List.range 5).all fun c => isT (ad [((1 : Nat) : Int),((1 : Nat) : Int),((c : Nat) : Int)] ((1 : Nat) : Int))) = true:=by kernel_rfl
theorem Fh : ((List.range 5).all fun c => isT (ad [((1 : Nat) : Int),((2 : Nat) : Int),((c : Nat) : Int)] ((1 : Nat) : Int))) = true:=by kernel_rfl
theorem D7 : ((List.range 5).all fun c => isT (ad [((1 : Nat) : Int),((3 : Nat) : Int),((c : Nat) : Int)] ((1 : Nat) : Int))) = true:=by kernel_rfl
theorem Fc : ((List.range 5).all fun c => isT (ad [((1 : Nat) : Int),((4 : Nat) : Int),((c : Nat) : Int)] ((1 : Nat) : Int))) = true:=by kernel_rfl
theorem lo3x1 (b l : Nat) (hb : b < 5) (hl : l < 2) : ((List.range 5).all fun c => isT (ad [((1 : Nat) : Int),((b : Nat) : Int),((c : Nat) : Int)] ((l : Nat) : Int))) = true:=by
 match b,l,hb,hl with
 | 0,0,_,_ => exact Ej
 | 0,1,_,_ => exact EH
 | 1,0,_,_ => exact Er
 | 1,1,_,_ => exact EO
 | 2,0,_,_ => exact Ed
 | 2,1,_,_ => exact Fh
 | 3,0,_,_ => exact E6
 | 3,1,_,_ => exact D7
 | 4,0,_,_ => exact ED
 | 4,1,_,_ => exact Fc
 | n + 5,_,h,_ => omega
 | _,n + 2,_,h => omega
end Go.Fx.D

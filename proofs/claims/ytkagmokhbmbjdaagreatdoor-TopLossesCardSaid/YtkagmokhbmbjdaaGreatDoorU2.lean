/-
  The law over plain data: true at all inputs. Conditions: none.
-/
import Derived.Test.YtkagmokhbmbjdaaGreatDoorU
import Derived.Test.YtkagmokhbmbjdaaGreatDoorFxC
namespace Go.Fx.D
open Go Go.Fx
set_option linter.unusedVariables false
set_option linter.unusedSimpArgs false
set_option maxRecDepth 1000000
theorem H5 : ((List.range 5).all fun c => isT (ad [((2 : Nat) : Int),((c : Nat) : Int)] ((0 : Nat) : Int))) = true:=by kernel_rfl
theorem EA : ((List.range 5).all fun c => isT (ad [((2 : Nat) : Int),((0 : Nat) : Int),((c : Nat) : Int)] ((0 : Nat) : Int))) = true:=by kernel_rfl
theorem FO : ((List.range 5).all fun c => isT (ad [((2 : Nat) : Int),((1 : Nat) : Int),((c : Nat) : Int)] ((0 : Nat) : Int))) = true:=by kernel_rfl
theorem Fk : ((List.range 5).all fun c => isT (ad [((2 : Nat) : Int),((2 : Nat) : Int),((c : Nat) : Int)] ((0 : Nat) : Int))) = true:=by kernel_rfl
theorem EW : ((List.range 5).all fun c => isT (ad [((2 : Nat) : Int),((3 : Nat) : Int),((c : Nat) : Int)] ((0 : Nat) : Int))) = true:=by kernel_rfl
theorem Fo : ((List.range 5).all fun c => isT (ad [((2 : Nat) : Int),((4 : Nat) : Int),((c : Nat) : Int)] ((0 : Nat) : Int))) = true:=by kernel_rfl
theorem HP : ((List.range 5).all fun c => isT (ad [((2 : Nat) : Int),((c : Nat) : Int)] ((1 : Nat) : Int))) = true:=by kernel_rfl
theorem Ee : ((List.range 5).all fun c => isT (ad [((2 : Nat) : Int),((0 : Nat) : Int),((c : Nat) : Int)] ((1 : Nat) : Int))) = true:=by kernel_rfl
theorem Fi : ((List.range 5).all fun c => isT (ad [((2 : Nat) : Int),((1 : Nat) : Int),((c : Nat) : Int)] ((1 : Nat) : Int))) = true:=by kernel_rfl
theorem EN : ((List.range 5).all fun c => isT (ad [((2 : Nat) : Int),((2 : Nat) : Int),((c : Nat) : Int)] ((1 : Nat) : Int))) = true:=by kernel_rfl
theorem E3 : ((List.range 5).all fun c => isT (ad [((2 : Nat) : Int),((3 : Nat) : Int),((c : Nat) : Int)] ((1 : Nat) : Int))) = true:=by kernel_rfl
theorem FK : ((List.range 5).all fun c => isT (ad [((2 : Nat) : Int),((4 : Nat) : Int),((c : Nat) : Int)] ((1 : Nat) : Int))) = true:=by kernel_rfl
theorem lo3x2 (b l : Nat) (hb : b < 5) (hl : l < 2) : ((List.range 5).all fun c => isT (ad [((2 : Nat) : Int),((b : Nat) : Int),((c : Nat) : Int)] ((l : Nat) : Int))) = true:=by
 match b,l,hb,hl with
 | 0,0,_,_ => exact EA
 | 0,1,_,_ => exact Ee
 | 1,0,_,_ => exact FO
 | 1,1,_,_ => exact Fi
 | 2,0,_,_ => exact Fk
 | 2,1,_,_ => exact EN
 | 3,0,_,_ => exact EW
 | 3,1,_,_ => exact E3
 | 4,0,_,_ => exact Fo
 | 4,1,_,_ => exact FK
 | n + 5,_,h,_ => omega
 | _,n + 2,_,h => omega
end Go.Fx.D

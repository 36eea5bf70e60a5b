/-
  The law over plain data: true at all inputs. Conditions: none.
-/
import Derived.Test.YtkagmokhbmbjdaaGreatDoorU
import Derived.Test.YtkagmokhbmbjdaaGreatDoorFxC
namespace Go.Fx.D
open Go Go.Fx
set_option linter.unusedVariables false
set_option linter.unusedSimpArgs false
set_option maxRecDepth 1000000
theorem lo1x0 : ((List.range 5).all fun c => isT (ad [((c : Nat) : Int)] ((0 : Nat) : Int))) = true:=by kernel_rfl
theorem HV : ((List.range 5).all fun c => isT (ad [((0 : Nat) : Int),((c : Nat) : Int)] ((0 : Nat) : Int))) = true:=by kernel_rfl
theorem EB : ((List.range 5).all fun c => isT (ad [((0 : Nat) : Int),((0 : Nat) : Int),((c : Nat) : Int)] ((0 : Nat) : Int))) = true:=by kernel_rfl
theorem Eu : ((List.range 5).all fun c => isT (ad [((0 : Nat) : Int),((1 : Nat) : Int),((c : Nat) : Int)] ((0 : Nat) : Int))) = true:=by kernel_rfl
theorem FH : ((List.range 5).all fun c => isT (ad [((0 : Nat) : Int),((2 : Nat) : Int),((c : Nat) : Int)] ((0 : Nat) : Int))) = true:=by kernel_rfl
theorem E8 : ((List.range 5).all fun c => isT (ad [((0 : Nat) : Int),((3 : Nat) : Int),((c : Nat) : Int)] ((0 : Nat) : Int))) = true:=by kernel_rfl
theorem FA : ((List.range 5).all fun c => isT (ad [((0 : Nat) : Int),((4 : Nat) : Int),((c : Nat) : Int)] ((0 : Nat) : Int))) = true:=by kernel_rfl
theorem lo1x1 : ((List.range 5).all fun c => isT (ad [((c : Nat) : Int)] ((1 : Nat) : Int))) = true:=by kernel_rfl
theorem If : ((List.range 5).all fun c => isT (ad [((0 : Nat) : Int),((c : Nat) : Int)] ((1 : Nat) : Int))) = true:=by kernel_rfl
theorem Fj : ((List.range 5).all fun c => isT (ad [((0 : Nat) : Int),((0 : Nat) : Int),((c : Nat) : Int)] ((1 : Nat) : Int))) = true:=by kernel_rfl
theorem FR : ((List.range 5).all fun c => isT (ad [((0 : Nat) : Int),((1 : Nat) : Int),((c : Nat) : Int)] ((1 : Nat) : Int))) = true:=by kernel_rfl
theorem D8 : ((List.range 5).all fun c => isT (ad [((0 : Nat) : Int),((2 : Nat) : Int),((c : Nat) : Int)] ((1 : Nat) : Int))) = true:=by kernel_rfl
theorem Fd : ((List.range 5).all fun c => isT (ad [((0 : Nat) : Int),((3 : Nat) : Int),((c : Nat) : Int)] ((1 : Nat) : Int))) = true:=by kernel_rfl
theorem Eh : ((List.range 5).all fun c => isT (ad [((0 : Nat) : Int),((4 : Nat) : Int),((c : Nat) : Int)] ((1 : Nat) : Int))) = true:=by kernel_rfl
theorem lo3x0 (b l : Nat) (hb : b < 5) (hl : l < 2) : ((List.range 5).all fun c => isT (ad [((0 : Nat) : Int),((b : Nat) : Int),((c : Nat) : Int)] ((l : Nat) : Int))) = true:=by
 match b,l,hb,hl with
 | 0,0,_,_ => exact EB
 | 0,1,_,_ => exact Fj
 | 1,0,_,_ => exact Eu
 | 1,1,_,_ => exact FR
 | 2,0,_,_ => exact FH
 | 2,1,_,_ => exact D8
 | 3,0,_,_ => exact E8
 | 3,1,_,_ => exact Fd
 | 4,0,_,_ => exact FA
 | 4,1,_,_ => exact Eh
 | n + 5,_,h,_ => omega
 | _,n + 2,_,h => omega
end Go.Fx.D

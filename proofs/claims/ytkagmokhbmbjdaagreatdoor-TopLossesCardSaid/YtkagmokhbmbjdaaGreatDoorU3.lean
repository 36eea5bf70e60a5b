/-
  The law over plain data: true at all inputs. Conditions: none.
-/
import Derived.Test.YtkagmokhbmbjdaaGreatDoorU
import Derived.Test.YtkagmokhbmbjdaaGreatDoorFxC
namespace Go.Fx.D
open Go Go.Fx
set_option linter.unusedVariables false
set_option linter.unusedSimpArgs false
set_option maxRecDepth 1000000
theorem HN : ((List.range 5).all fun c => isT (ad [((3 : Nat) : Int),((c : Nat) : Int)] ((0 : Nat) : Int))) = true:=by kernel_rfl
theorem Ek : ((List.range 5).all fun c => isT (ad [((3 : Nat) : Int),((0 : Nat) : Int),((c : Nat) : Int)] ((0 : Nat) : Int))) = true:=by kernel_rfl
theorem EK : ((List.range 5).all fun c => isT (ad [((3 : Nat) : Int),((1 : Nat) : Int),((c : Nat) : Int)] ((0 : Nat) : Int))) = true:=by kernel_rfl
theorem EV : ((List.range 5).all fun c => isT (ad [((3 : Nat) : Int),((2 : Nat) : Int),((c : Nat) : Int)] ((0 : Nat) : Int))) = true:=by kernel_rfl
theorem Ey : ((List.range 5).all fun c => isT (ad [((3 : Nat) : Int),((3 : Nat) : Int),((c : Nat) : Int)] ((0 : Nat) : Int))) = true:=by kernel_rfl
theorem EP : ((List.range 5).all fun c => isT (ad [((3 : Nat) : Int),((4 : Nat) : Int),((c : Nat) : Int)] ((0 : Nat) : Int))) = true:=by kernel_rfl
theorem Hu : ((List.range 5).all fun c => isT (ad [((3 : Nat) : Int),((c : Nat) : Int)] ((1 : Nat) : Int))) = true:=by kernel_rfl
theorem EY : ((List.range 5).all fun c => isT (ad [((3 : Nat) : Int),((0 : Nat) : Int),((c : Nat) : Int)] ((1 : Nat) : Int))) = true:=by kernel_rfl
theorem EI : ((List.range 5).all fun c => isT (ad [((3 : Nat) : Int),((1 : Nat) : Int),((c : Nat) : Int)] ((1 : Nat) : Int))) = true:=by kernel_rfl
theorem Fp : ((List.range 5).all fun c => isT (ad [((3 : Nat) : Int),((2 : Nat) : Int),((c : Nat) : Int)] ((1 : Nat) : Int))) = true:=by kernel_rfl
theorem Ew : ((List.range 5).all fun c => isT (ad [((3 : Nat) : Int),((3 : Nat) : Int),((c : Nat) : Int)] ((1 : Nat) : Int))) = true:=by kernel_rfl
theorem D6 : ((List.range 5).all fun c => isT (ad [((3 : Nat) : Int),((4 : Nat) : Int),((c : Nat) : Int)] ((1 : Nat) : Int))) = true:=by kernel_rfl
theorem lo3x3 (b l : Nat) (hb : b < 5) (hl : l < 2) : ((List.range 5).all fun c => isT (ad [((3 : Nat) : Int),((b : Nat) : Int),((c : Nat) : Int)] ((l : Nat) : Int))) = true:=by
 match b,l,hb,hl with
 | 0,0,_,_ => exact Ek
 | 0,1,_,_ => exact EY
 | 1,0,_,_ => exact EK
 | 1,1,_,_ => exact EI
 | 2,0,_,_ => exact EV
 | 2,1,_,_ => exact Fp
 | 3,0,_,_ => exact Ey
 | 3,1,_,_ => exact Ew
 | 4,0,_,_ => exact EP
 | 4,1,_,_ => exact D6
 | n + 5,_,h,_ => omega
 | _,n + 2,_,h => omega
end Go.Fx.D

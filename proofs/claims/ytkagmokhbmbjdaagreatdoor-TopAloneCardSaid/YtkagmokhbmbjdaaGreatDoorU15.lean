/-
  The law over plain data: true at all inputs. Conditions: none.
-/
import Derived.Test.YtkagmokhbmbjdaaGreatDoorU
import Derived.Test.YtkagmokhbmbjdaaGreatDoorFxC
namespace Go.Fx.D
open Go Go.Fx
set_option linter.unusedVariables false
set_option linter.unusedSimpArgs false
set_option maxRecDepth 1000000
theorem EB:((List.range 4).all λb=>isT (aa ((0:Nat):Int) ((b:Nat):Int) ((0:Nat):Int)))=true:=by kernel_rfl
theorem FQ:((List.range 4).all λb=>isT (aa ((0:Nat):Int) ((b+4:Nat):Int) ((0:Nat):Int)))=true:=by kernel_rfl
theorem EO:((List.range 4).all λb=>isT (aa ((4:Nat):Int) ((b+4:Nat):Int) ((3:Nat):Int)))=true:=by kernel_rfl
theorem FF:((List.range 4).all λb=>isT (aa ((5:Nat):Int) ((b:Nat):Int) ((7:Nat):Int)))=true:=by kernel_rfl
end Go.Fx.D

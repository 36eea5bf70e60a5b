/-
  The law over plain data: true at all inputs. Conditions: none.
-/
import Derived.Test.YtkagmokhbmbjdaaGreatDoorU
import Derived.Test.YtkagmokhbmbjdaaGreatDoorFxC
namespace Go.Fx.D
open Go Go.Fx
set_option linter.unusedVariables false
set_option linter.unusedSimpArgs false
set_option maxRecDepth 1000000
theorem EN:((List.range 4).all λb=>isT (aa ((0:Nat):Int) ((b+4:Nat):Int) ((2:Nat):Int)))=true:=by kernel_rfl
theorem DT:((List.range 4).all λb=>isT (aa ((2:Nat):Int) ((b+4:Nat):Int) ((2:Nat):Int)))=true:=by kernel_rfl
theorem FD:((List.range 4).all λb=>isT (aa ((4:Nat):Int) ((b+4:Nat):Int) ((2:Nat):Int)))=true:=by kernel_rfl
end Go.Fx.D

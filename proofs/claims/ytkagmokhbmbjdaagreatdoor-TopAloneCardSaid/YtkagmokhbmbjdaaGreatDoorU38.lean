/-
  The law over plain data: true at all inputs. Conditions: none.
-/
import Derived.Test.YtkagmokhbmbjdaaGreatDoorU
import Derived.Test.YtkagmokhbmbjdaaGreatDoorFxC
namespace Go.Fx.D
open Go Go.Fx
set_option linter.unusedVariables false
set_option linter.unusedSimpArgs false
set_option maxRecDepth 1000000
theorem FH:((List.range 4).all λb=>isT (aa ((1:Nat):Int) ((b+4:Nat):Int) ((1:Nat):Int)))=true:=by kernel_rfl
theorem D4:((List.range 4).all λb=>isT (aa ((6:Nat):Int) ((b+4:Nat):Int) ((1:Nat):Int)))=true:=by kernel_rfl
theorem Gt:((List.range 4).all λb=>isT (aa ((6:Nat):Int) ((b:Nat):Int) ((5:Nat):Int)))=true:=by kernel_rfl
end Go.Fx.D

/-
  The law over plain data: true at all inputs. Conditions: none.
-/
import Derived.Test.YtkagmokhbmbjdaaGreatDoorU
import Derived.Test.YtkagmokhbmbjdaaGreatDoorFxC
namespace Go.Fx.D
open Go Go.Fx
set_option linter.unusedVariables false
set_option linter.unusedSimpArgs false
set_option maxRecDepth 1000000
theorem Ll:isT (aa 1 0 true)=true:=by kernel_rfl
theorem Kn:isT (aa 1 0 false)=true:=by kernel_rfl
theorem J2:isT (aa 1 1 true)=true:=by kernel_rfl
theorem Kc:isT (aa 1 1 false)=true:=by kernel_rfl
end Go.Fx.D

/-
  What the texts on the state begin with. Conditions: none.
-/
import Derived.Test.YtdickabkndfjhaaGreatSDA
import Derived.Test.YtdickabkndfjhaaGreatD
import Derived.Test.YtdickabkndfjhaaGreatGv
namespace Go.Fx.D
end Go.Fx.D

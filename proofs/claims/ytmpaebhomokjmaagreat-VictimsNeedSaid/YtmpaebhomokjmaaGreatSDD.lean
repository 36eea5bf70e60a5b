/-
  What the texts on the state begin with. Conditions: none.
-/
import Derived.Test.YtmpaebhomokjmaaGreatSDA
import Derived.Test.YtmpaebhomokjmaaGreatD
import Derived.Test.YtmpaebhomokjmaaGreatGv
namespace Go.Fx.D
end Go.Fx.D

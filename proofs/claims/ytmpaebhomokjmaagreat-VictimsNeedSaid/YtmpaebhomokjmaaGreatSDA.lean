/-
  A short name. Conditions: none.
-/
import Derived.Test.YtmpaebhomokjmaaGreatA
namespace Go.Fx.D
end Go.Fx.D

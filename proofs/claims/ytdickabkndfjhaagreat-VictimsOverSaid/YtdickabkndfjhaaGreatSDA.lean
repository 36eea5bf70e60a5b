/-
  A short name. Conditions: none.
-/
import Derived.Test.YtdickabkndfjhaaGreatA
namespace Go.Fx.D
end Go.Fx.D

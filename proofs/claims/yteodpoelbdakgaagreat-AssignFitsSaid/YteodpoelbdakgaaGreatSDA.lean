/-
  A short name. Conditions: none.
-/
import Derived.Test.YteodpoelbdakgaaGreatA
namespace Go.Fx.D
end Go.Fx.D

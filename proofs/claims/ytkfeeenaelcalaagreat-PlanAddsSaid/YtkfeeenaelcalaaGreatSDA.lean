/-
  A short name. Conditions: none.
-/
import Derived.Test.YtkfeeenaelcalaaGreatA
namespace Go.Fx.D
abbrev Cap := Capacity
end Go.Fx.D

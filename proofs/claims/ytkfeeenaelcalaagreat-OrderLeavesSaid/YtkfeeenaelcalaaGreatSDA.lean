/-
  A short name. Conditions: none.
-/
import Derived.Test.YtkfeeenaelcalaaGreatA
namespace Go.Fx.D
/-- a short name -/
abbrev Cap := Capacity
end Go.Fx.D

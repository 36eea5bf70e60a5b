/-
  A short name. Conditions: none.
-/
import Derived.Test.YtbhbgldkokjndaaGreatA
namespace Go.Fx.D
end Go.Fx.D

/-
  The reference manager: what holds of its state after every script. Conditions: none.
-/
import Derived.Test.YteodpoelbdakgaaGreatS1
namespace Go.Fx.D
open Go Go.Fx
set_option linter.unusedVariables false
set_option linter.unusedSimpArgs false
structure PathOk (s : Str) : Prop where
 len : s.length ≤ 51
 deep : s.count 46 ≤ 3
 root : s = root ∨ (root ++ [46]) <+: s
end Go.Fx.D

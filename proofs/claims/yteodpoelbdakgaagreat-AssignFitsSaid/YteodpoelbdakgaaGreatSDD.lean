/-
  What the texts on the state begin with. Conditions: none.
-/
import Derived.Test.YteodpoelbdakgaaGreatD
import Derived.Test.YteodpoelbdakgaaGreatGv
import Derived.Test.YteodpoelbdakgaaGreatSDA

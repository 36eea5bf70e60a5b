/-
  What the texts on the state begin with. Conditions: none.
-/
import Derived.Test.YtkfeeenaelcalaaGreatD
import Derived.Test.YtkfeeenaelcalaaGreatGv
import Derived.Test.YtkfeeenaelcalaaGreatSDA

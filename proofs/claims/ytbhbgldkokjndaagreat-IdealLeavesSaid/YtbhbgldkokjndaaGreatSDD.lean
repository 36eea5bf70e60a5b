/-
  What the texts on the state begin with. Conditions: none.
-/
import Derived.Test.YtbhbgldkokjndaaGreatD
import Derived.Test.YtbhbgldkokjndaaGreatGv
import Derived.Test.YtbhbgldkokjndaaGreatSDA

/-
  NumKnown: its call, run.
-/
import Derived.Test.YthllpmannpolcaaDoorNumdA

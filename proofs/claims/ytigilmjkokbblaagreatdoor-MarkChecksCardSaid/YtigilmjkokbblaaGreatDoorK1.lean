/- Part 1 of the proof. -/
import Derived.Test.YtigilmjkokbblaaGreatDoorC34
set_option linter.all false
namespace Go.bd
open Go.Conc
section
variable{P:Program}(L:iG P)
end
attribute [simp] fits
end Go.bd

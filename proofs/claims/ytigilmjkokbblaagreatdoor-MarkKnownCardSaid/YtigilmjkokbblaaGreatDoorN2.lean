/- Part 2 of the proof. -/
import Derived.Test.YtigilmjkokbblaaGreatDoorN1
set_option linter.all false
namespace Go.bd
open Go.Conc
section
variable{P:Program}(L:iG P){m:Mo}
variable{fid n:Nat}{ro:Option Nat}{hold:List Entry}{K:Exit->St->Prop}{todo:List Item}
theorem ab.jP{env:Env}{σ:aa}{D:List lQ}{rc:Rec}(I:Env->Prop)(a:I env)(h:∀env,I env->ab P m fid n ro hold todo ⟨env,σ,D,rc⟩ K):ab P m fid n ro hold todo ⟨env,σ,D,rc⟩ K:=h env a
end
end Go.bd

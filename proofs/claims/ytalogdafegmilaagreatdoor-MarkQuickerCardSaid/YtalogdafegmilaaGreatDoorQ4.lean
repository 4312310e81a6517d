/- Part 4 of the proof. -/
import Derived.Test.YtalogdafegmilaaGreatDoorRows
import Derived.Test.YtalogdafegmilaaGreatDoorQ3
set_option linter.all false
namespace Go.Proofs.YtalogdafegmilaaGreatDoor
open Go Go.aN Go.ChangeShapes Go.WideShapes Go.RowKit
theorem fS:ownKnob Tryz.prog.godebug=none:=by kernel_rfl
noncomputable def cu (os:Os):World:=
 let w0:=World.holding Tryz.prog os ⟨#[],#[],[]⟩
 { w0 with heap:=w0.heap.modify 0 fun
   | .cells _ t frozen => .cells #[.iface 193 (.agg #[.pointer (some ⟨1,145,none⟩)])] t frozen
   | o=>o }
theorem bR (os:Os) (args:Array Value):laidMetH Tryz.prog [("errors.errorType",Rows.laid_errors_errorType)] ((cu os).forCall (fun _ _=>0) ⟨#[],args,[]⟩).memory:=
 laidMetH_of_parts (laidMet_nil _ _) (by kernel_rfl)
end Go.Proofs.YtalogdafegmilaaGreatDoor

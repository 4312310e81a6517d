/- Part 35 of the proof. -/
import Derived.Test.YtelgggdkahhhfaaGreatDoorRows
import Derived.Test.YtelgggdkahhhfaaGreatDoorC34
set_option linter.all false
namespace Go.Proofs.YtelgggdkahhhfaaGreatDoor
open Go Go.aZ Go.ChangeShapes Go.WideShapes Go.RowKit
theorem Fx:ownKnob Tryz.prog.godebug=none:=by kernel_rfl
noncomputable def ul (os:Os):World:=
 let w0:=World.holding Tryz.prog os ⟨#[],#[],[]⟩
 { w0 with heap:=w0.heap.modify 0 fun
   | .cells _ t frozen => .cells #[.iface 185 (.agg #[.pointer (some ⟨1,136,none⟩)])] t frozen
   | o=>o }
theorem sQ (os:Os) (args:Array Value):laidMetH Tryz.prog [("errors.errorType",Rows.laid_errors_errorType)] ((ul os).forCall (fun _ _=>0) ⟨#[],args,[]⟩).memory:=
 laidMetH_of_parts (laidMet_nil _ _) (by kernel_rfl)
end Go.Proofs.YtelgggdkahhhfaaGreatDoor

import Derived.Test.YtldmpfccgajobaaGreatDoorRows
import Derived.Test.YtldmpfccgajobaaGreatDoorW2
set_option linter.all false
namespace Go.Proofs.YtldmpfccgajobaaGreatDoor
open Go Go.bG Go.ChangeShapes Go.WideShapes Go.RowKit
theorem Gp:ownKnob Tryz.prog.godebug=none:=by kernel_rfl
noncomputable def wm (os:Os):World:=
 let a:=World.holding Tryz.prog os ⟨#[],#[],[]⟩
 { a with heap:=a.heap.modify 0 fun
   |.cells _ t frozen=>.cells #[.iface 212 (.agg #[.pointer (some ⟨1,162,none⟩)])] t frozen
   |o=>o}
theorem vE(os:Os)(args:Array Value):laidMetH Tryz.prog [("errors.errorType",Rows.laid_errors_errorType)] ((wm os).forCall (λ_ _=>0) ⟨#[],args,[]⟩).memory:=laidMetH_of_parts (laidMet_nil _ _) (by kernel_rfl)
end Go.Proofs.YtldmpfccgajobaaGreatDoor

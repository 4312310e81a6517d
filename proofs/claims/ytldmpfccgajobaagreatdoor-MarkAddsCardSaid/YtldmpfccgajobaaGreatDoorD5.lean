import Derived.Test.YtldmpfccgajobaaGreatDoorRows
import Derived.Test.YtldmpfccgajobaaGreatDoorD4
set_option linter.all false
namespace Go.Proofs.YtldmpfccgajobaaGreatDoor
open Go Go.aR Go.ChangeShapes Go.WideShapes Go.RowKit
theorem jA:ownKnob Tryz.prog.godebug=none:=by kernel_rfl
noncomputable def dJ (os:Os):World:=
 let a:=World.holding Tryz.prog os ⟨#[],#[],[]⟩
 { a with heap:=a.heap.modify 0 fun
   |.cells _ t frozen=>.cells #[.iface 212 (.agg #[.pointer (some ⟨1,162,none⟩)])] t frozen
   |o=>o}
theorem dA(os:Os)(args:Array Value):laidMetH Tryz.prog [("errors.errorType",Rows.laid_errors_errorType)] ((dJ os).forCall (λ_ _=>0) ⟨#[],args,[]⟩).memory:=laidMetH_of_parts (laidMet_nil _ _) (by kernel_rfl)
end Go.Proofs.YtldmpfccgajobaaGreatDoor

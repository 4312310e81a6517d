import Derived.Test.YtabmephejpgigaaGreatDoorRows
import Derived.Test.YtabmephejpgigaaGreatDoorT1
set_option linter.all false
namespace Go.Proofs.YtabmephejpgigaaGreatDoor
open Go Go.cr Go.ChangeShapes Go.WideShapes Go.RowKit
theorem JK:ownKnob Tryz.prog.godebug=none:=by kernel_rfl
noncomputable def yU (os:Os):World:=
 let a:=World.holding Tryz.prog os ⟨#[],#[],[]⟩
 { a with heap:=a.heap.modify 0 fun
   |.cells _ t frozen=>.cells #[.iface 231 (.agg #[.pointer (some ⟨1,127,none⟩)])] t frozen
   |o=>o}
theorem ym  os   args :laidMetH Tryz.prog [("errors.errorType",Rows.laid_errors_errorType)] ((yU os).forCall (λ_ _=>0) ⟨#[],args,[]⟩).memory:=laidMetH_of_parts (laidMet_nil _ _) (by kernel_rfl)

import Derived.Test.YtkcceaplmgdnfaaGreatDoorRows
import Derived.Test.YtkcceaplmgdnfaaGreatDoorF1
set_option linter.all false
namespace Go.Proofs.YtkcceaplmgdnfaaGreatDoor
open Go Go.cC Go.ChangeShapes Go.WideShapes Go.RowKit
theorem KQ:ownKnob Tryz.prog.godebug=none:=by kernel_rfl
noncomputable def zJ (os:Os):World:=
 let a:=World.holding Tryz.prog os ⟨#[],#[],[]⟩
 { a with heap:=a.heap.modify 0 fun
   |.cells _ t frozen=>.cells #[.iface 224 (.agg #[.pointer (some ⟨1,100,none⟩)])] t frozen
   |o=>o}
theorem yQ  os   args :laidMetH Tryz.prog [("errors.errorType",Rows.laid_errors_errorType)] ((zJ os).forCall (λ_ _=>0) ⟨#[],args,[]⟩).memory:=laidMetH_of_parts (laidMet_nil _ _) (by kernel_rfl)

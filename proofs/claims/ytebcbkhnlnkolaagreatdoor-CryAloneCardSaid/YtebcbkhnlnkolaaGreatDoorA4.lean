import Derived.Test.YtebcbkhnlnkolaaGreatDoorRows
import Derived.Test.YtebcbkhnlnkolaaGreatDoorA3
set_option linter.all false
namespace Go.Proofs.YtebcbkhnlnkolaaGreatDoor
open Go Go.bN Go.ChangeShapes Go.WideShapes Go.RowKit
theorem sm:ownKnob Tryz.prog.godebug=none:=by kernel_rfl
noncomputable def kh (os:Os):World:=
 let a:=World.holding Tryz.prog os ⟨#[],#[],[]⟩
 { a with heap:=a.heap.modify 0 fun
   |.cells _ t frozen=>.cells #[.iface 197 (.agg #[.pointer (some ⟨1,88,none⟩)])] t frozen
   |o=>o}
theorem jC  os   args :laidMetH Tryz.prog [("errors.errorType",Rows.laid_errors_errorType)] ((kh os).forCall (λ_ _=>0) ⟨#[],args,[]⟩).memory:=laidMetH_of_parts (laidMet_nil _ _) (by kernel_rfl)

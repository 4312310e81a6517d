import Derived.Test.YtebcbkhnlnkolaaGreatDoorRows
import Derived.Test.YtebcbkhnlnkolaaGreatDoorG1
set_option linter.all false
namespace Go.Proofs.YtebcbkhnlnkolaaGreatDoor
open Go Go.ck Go.ChangeShapes Go.WideShapes Go.RowKit
theorem MF:ownKnob Tryz.prog.godebug=none:=by kernel_rfl
noncomputable def AY (os:Os):World:=
 let a:=World.holding Tryz.prog os ⟨#[],#[],[]⟩
 { a with heap:=a.heap.modify 0 fun
   |.cells _ t frozen=>.cells #[.iface 197 (.agg #[.pointer (some ⟨1,88,none⟩)])] t frozen
   |o=>o}
theorem Ag  os   args :laidMetH Tryz.prog [("errors.errorType",Rows.laid_errors_errorType)] ((AY os).forCall (λ_ _=>0) ⟨#[],args,[]⟩).memory:=laidMetH_of_parts (laidMet_nil _ _) (by kernel_rfl)

/- Part 35 of the proof. -/
import Derived.Test.YtibjfmfdjncniaaGreatDoorRows
import Derived.Test.YtibjfmfdjncniaaGreatDoorC34
set_option linter.all false
namespace Go.Proofs.YtibjfmfdjncniaaGreatDoor
open Go Go.Pal Go.ChangeShapes Go.WideShapes Go.RowKit
theorem seat_own:ownKnob Tryz.prog.godebug=none:=by kernel_rfl
noncomputable def laidWorld (os:Os):World:=
  let w0:=World.holding Tryz.prog os ⟨#[],#[],[]⟩
  { w0 with heap:=w0.heap.modify 0 fun
      | .cells _ t frozen => .cells #[.iface 167 (.agg #[.pointer (some ⟨1,131,none⟩)])] t frozen
      | o=>o }
theorem laidWorld_met (os:Os) (args:Array Value):laidMetH Tryz.prog [("errors.errorType",Rows.laid_errors_errorType)] ((laidWorld os).forCall (fun _ _=>0) ⟨#[],args,[]⟩).memory:=
  laidMetH_of_parts (laidMet_nil _ _) (by kernel_rfl)
end Go.Proofs.YtibjfmfdjncniaaGreatDoor

/- Part 11 of the proof. -/
import Derived.Test.YtigilmjkokbblaaGreatDoorRows
import Derived.Test.YtigilmjkokbblaaGreatDoorK10
set_option linter.all false
namespace Go.Proofs.YtigilmjkokbblaaGreatDoor
open Go.Proofs.Tryz (prog)
open Go Go.bd Go.ChangeShapes Go.WideShapes Go.RowKit
theorem xj:ownKnob prog.godebug=none:=by kernel_rfl
theorem Bp:prog.globalNamed  "errors.errorType"=some 0:=by kernel_rfl
theorem pN:typeHandle prog 126=.pointer (some ⟨1,126,none⟩):=by kernel_rfl
noncomputable def nL (os:Os):World:=
 let a:=World.holding prog os ⟨#[],#[],[]⟩
 { a with heap:=a.heap.modify 0 fun
   |.cells _ t frozen=>.cells #[.iface 195 (.agg #[.pointer (some ⟨1,126,none⟩)])] t frozen
   |o=>o}
theorem m8(os:Os)(args:Array Value):laidMetH prog [("errors.errorType",Rows.laid_errors_errorType)] ((nL os).forCall (λ_ _=>0) ⟨#[],args,[]⟩).memory:=laidMetH_of_parts (laidMet_nil _ _) (by kernel_rfl)
theorem Bq:(prog.cutTypes.find? (·.1==  "internal/reflectlite.rtype")).map (·.2)=some 195:=by kernel_rfl
theorem xk:((List.range prog.types.size).filter λt=>prog.rowNamed t [101,114,114,111,114])=[126]:=by kernel_rfl
theorem lY{W:World}(h:laidMetH prog [("errors.errorType",Rows.laid_errors_errorType)] W):W.cell? ⟨0,0,none⟩=some (.iface 195 (.agg #[.pointer (some ⟨1,126,none⟩)])):=by
 have c:laidMet prog [] W/\handlesMet prog [("errors.errorType",Rows.laid_errors_errorType)] W:=h
 obtain⟨name,u,ty,d,e,f,g,a⟩:=c.2 _ (List.mem_singleton.2 rfl);have en:name=[101,114,114,111,114]:=(Option.some.inj d).symm;subst en;obtain rfl:=Option.some.inj (Bq.symm.trans e);have b:ty∈(List.range prog.types.size).filter λt=>prog.rowNamed t [101,114,114,111,114]:=List.mem_filter.2 ⟨List.mem_range.2 f,g⟩
 rw[xk]at b;obtain rfl:=List.mem_singleton.1 b;rw[pN]at a;simpa using World.var?_cell Bp a 0
theorem rC{W:World}{b i:Nat}{v:Value}(h:W.cell? ⟨b,i,none⟩=some v):∃s,W.shape? b=some s:=by
 unfold World.cell? at h;unfold World.shape?;simp only at h;split at h
 . exact⟨_,rfl⟩
 . cases h
theorem xl{W:World}(h:laidMetH prog [("errors.errorType",Rows.laid_errors_errorType)] W):Rel (ah.all W) ai.bot (zW 0 [oo]):=by
 have c:=lY h;refine C5 (rC c) λi a b=>?_
 match i with
 |0=>simp at b;subst b;exact⟨_,c,xm _ _,rfl⟩
 |i+1=>simp at b
end Go.Proofs.YtigilmjkokbblaaGreatDoor

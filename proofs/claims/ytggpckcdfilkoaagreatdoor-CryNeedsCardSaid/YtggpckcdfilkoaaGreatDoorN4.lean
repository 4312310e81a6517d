import Derived.Test.YtggpckcdfilkoaaGreatDoorRows
import Derived.Test.YtggpckcdfilkoaaGreatDoorN3
set_option linter.all false
namespace Go.Proofs.YtggpckcdfilkoaaGreatDoor
open Go Go.bu Go.ChangeShapes Go.WideShapes Go.RowKit
def oy:ownKnob Tryz.prog.godebug=none:=s8
def qE:Tryz.prog.globalNamed  "errors.errorType"=some 0:=s8
def jB:typeHandle Tryz.prog 110=.pointer (some ⟨1,110,none⟩):=s8
noncomputable def gQ (os:Os):World:=
 let a:=World.holding Tryz.prog os ⟨#[],#[],[]⟩
 { a with heap:=a.heap.modify 0 fun
   |.cells _ t frozen=>.cells #[.iface 230 (.agg #[.pointer (some ⟨1,110,none⟩)])] t frozen
   |o=>o}
def gE  os   args :laidMetH Tryz.prog [("errors.errorType",Rows.laid_errors_errorType)] ((gQ os).forCall (λ_ _=>0) ⟨#[],args,[]⟩).memory:=laidMetH_of_parts (laidMet_nil _ _) s8
def qF:(Tryz.prog.cutTypes.find? (·.1==  "internal/reflectlite.rtype")).map (·.2)=some 230:=s8
def oz:((List.range Tryz.prog.types.size).filter λt=>Tryz.prog.rowNamed t [101,114,114,111,114])=[110]:=s8
def fH{W:World}(h:laidMetH Tryz.prog [("errors.errorType",Rows.laid_errors_errorType)] W):W.cell? ⟨0,0,none⟩=some (.iface 230 (.agg #[.pointer (some ⟨1,110,none⟩)])):=by
 have c:laidMet Tryz.prog [] W/\handlesMet Tryz.prog [("errors.errorType",Rows.laid_errors_errorType)] W:=h
 obtain⟨name,u,ty,d,e,f,g,a⟩:=c.2 _ (sN.2 rfl);have en:name=[101,114,114,111,114]:=(KE d).symm;obtain rfl:=KE (qF.symm.trans e);have b:ty∈(List.range Tryz.prog.types.size).filter λt=>Tryz.prog.rowNamed t [101,114,114,111,114]:=am
 rw[oz]at b;obtain rfl:=sN.1 b;rw[jB]at a;simpa using World.var?_cell qE a 0
def kH{W:World}{b i:Nat}{v:Value}(h:W.cell? ⟨b,i,none⟩=some v):∃s,W.shape? b=some s:=by
 unfold World.cell? at h;unfold World.shape?;simp  at h;split at h
 . grind
 grind
def oA{W:World}(h:laidMetH Tryz.prog [("errors.errorType",Rows.laid_errors_errorType)] W):Rel (az.all W) au.bot (vL 0 [fW]):=by
 have b:=fH h;refine wE (kH b) λi a c=>?_
 match i with
 |0=>simp at c;subst c;exact⟨_,b,vd _ _,rfl⟩
 |i+1=>grind

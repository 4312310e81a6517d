/- The law CryFound. -/
import Derived.Test.YtebcbkhnlnkolaaGreatDoorRows
import Derived.Test.YtebcbkhnlnkolaaGreatDoorF3
set_option linter.all false
namespace Go.Proofs.YtebcbkhnlnkolaaGreatDoor
open Go.Proofs.Tryz (prog)
open Go Go.bU Go.ChangeShapes Go.WideShapes Go.RowKit
theorem rB:ownKnob prog.godebug=none:=by kernel_rfl
noncomputable def jK (os:Os):World:=
 let a:=World.holding prog os ⟨#[],#[],[]⟩
 { a with heap:=a.heap.modify 0 fun
   |.cells _ t frozen=>.cells #[.iface 197 (.agg #[.pointer (some ⟨1,88,none⟩)])] t frozen
   |o=>o}
theorem jo  os   args :laidMetH prog [("errors.errorType",Rows.laid_errors_errorType)] ((jK os).forCall (λ_ _=>0) ⟨#[],args,[]⟩).memory:=laidMetH_of_parts (laidMet_nil _ _) (by kernel_rfl)
set_option maxRecDepth 100000 in
theorem xj(os:Os)(started:os.Started)(H:Type)(enc:TypeId × Value->H)(F:Stop.Interp):
 ReturnsInLeavingWide Rows.cryFoundRow.assume Tryz.checked os 4 .any (λw args=>(Rows.cryFoundSpec.pre enc prog Tryz.f4 [] false w args/\laidMetH prog [("errors.errorType",Rows.laid_errors_errorType)] w)/\sizedMet enc prog Tryz.f4 (OpenSpec.ofChange Rows.cryFoundSpec) false w args)
  ((OpenSpec.ofChange Rows.cryFoundSpec).postWith enc prog Tryz.f4 F (outsideKept [.timePasses]) false true false):=by
 refine fV (C:=Tryz.checked) (X:=λw _=>laidMetH prog [("errors.errorType",Rows.laid_errors_errorType)] w) (λ_ _ _ c h=>h.of_heap c) rB started Tryz.func4
  (jS (enc:=enc) (C:=Tryz.checked) (os:=os) (X:=λw _=>laidMetH prog [("errors.errorType",Rows.laid_errors_errorType)] w) (jK os) #[.slice none 0 0] 8 rfl (by kernel_rfl) (by kernel_rfl) (by kernel_rfl) (by kernel_rfl) (by kernel_rfl) (jo os _)) ?_
 intro W base args ds gs before a d f _
 exact ov (C:=Tryz.checked) lay Tryz.func4 (by kernel_rfl) Tryz.params4 (t:=22) (e:=3) (tb:=4) Tryz.underlying22 Tryz.underlying3 (by kernel_rfl) (by kernel_rfl) (by kernel_rfl) Tryz.underlying4 rfl (abK (by kernel_rfl)) rfl (λ_=>rfl)
  (λb g=>EH rfl g λ_=>rfl) W base args ds gs before a d f
theorem DI:Rows.CryFoundSaid:=
 OpenClaim.holds_of_wide_leaving_time 4 Tryz.f4 rfl rfl rfl rfl rfl rfl rfl ⟨rfl,rfl,rfl,rfl,rfl⟩ rfl rfl rfl rfl rfl (by kernel_rfl) Tryz.func4 (by kernel_rfl)
  (abK (by kernel_rfl)) (by unfold Func.isWrapper;first|(rw[aav (by decide +kernel)];kernel_rfl)|(rw[aau (by decide +kernel)];exact⟨rfl,rfl⟩))
  (λos started H enc _ F=>xj os started H enc F)
theorem cryFound_card:Rows.CryFoundCardSaid:=
 gL [.handle] true (true,"50b66bdc54034c77c0585ee8934abba47c6085c2fb6bac4e3a81bcf04bbff935") true
  DI (by kernel_rfl) cryFound_row_tie rfl ⟨rfl,rfl⟩ (by kernel_rfl) rfl
  (fun f fn c a=>by
    obtain rfl:f=4:=abe ((show prog.funcNamed  "palfrey/palfreylaw07.CryFound"=some 4 by kernel_rfl).symm.trans c)|>.symm
    obtain rfl:fn=Tryz.f4:=(abe (Tryz.func4.symm.trans a)).symm
    exact⟨by kernel_rfl,λj t b=>by
     rw[Tryz.params4]at b
     have d:t=22:=by
      rcases j with _|j
      . simpa using b.symm
      . simp at b
     subst d;exact(show prog.wantsStandIn 22=false by kernel_rfl)⟩)
  (by kernel_rfl)

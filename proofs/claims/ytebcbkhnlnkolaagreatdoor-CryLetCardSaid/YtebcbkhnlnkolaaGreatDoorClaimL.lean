/- The law CryLet. -/
import Derived.Test.YtebcbkhnlnkolaaGreatDoorRows
import Derived.Test.YtebcbkhnlnkolaaGreatDoorL3
set_option linter.all false
namespace Go.Proofs.YtebcbkhnlnkolaaGreatDoor
open Go.Proofs.Tryz (prog)
open Go Go.bU Go.ChangeShapes Go.WideShapes Go.RowKit
theorem rB:ownKnob prog.godebug=none:=by kernel_rfl
noncomputable def jK (os:Os):World:=
 let a:=World.holding prog os ⟨#[],#[],[]⟩
 { a with heap:=a.heap.modify 0 fun
   |.cells _ t frozen=>.cells #[.iface 197 (.agg #[.pointer (some ⟨1,88,none⟩)])] t frozen
   |o=>o}
theorem jo  os   args :laidMetH prog [("errors.errorType",Rows.laid_errors_errorType)] ((jK os).forCall (λ_ _=>0) ⟨#[],args,[]⟩).memory:=laidMetH_of_parts (laidMet_nil _ _) (by kernel_rfl)
set_option maxRecDepth 100000 in
theorem AP(os:Os)(started:os.Started)(H:Type)(enc:TypeId × Value->H)(F:Stop.Interp):
 ReturnsInLeavingWide Rows.cryLetRow.assume Tryz.checked os 5 .any (λw args=>(Rows.cryLetSpec.pre enc prog Tryz.f5 [] false w args/\laidMetH prog [("errors.errorType",Rows.laid_errors_errorType)] w)/\sizedMet enc prog Tryz.f5 (OpenSpec.ofChange Rows.cryLetSpec) false w args)
  ((OpenSpec.ofChange Rows.cryLetSpec).postWith enc prog Tryz.f5 F (outsideKept [.timePasses]) false true false):=by
 refine fV (C:=Tryz.checked) (X:=λw _=>laidMetH prog [("errors.errorType",Rows.laid_errors_errorType)] w) (λ_ _ _ c h=>h.of_heap c) rB started Tryz.func5
  (jS (enc:=enc) (C:=Tryz.checked) (os:=os) (X:=λw _=>laidMetH prog [("errors.errorType",Rows.laid_errors_errorType)] w) (jK os) #[.slice none 0 0] 8 rfl (by kernel_rfl) (by kernel_rfl) (by kernel_rfl) (by kernel_rfl) (by kernel_rfl) (jo os _)) ?_
 intro W base args ds gs before a d f _
 exact ov (C:=Tryz.checked) lay Tryz.func5 (by kernel_rfl) Tryz.params5 (t:=22) (e:=3) (tb:=4) Tryz.underlying22 Tryz.underlying3 (by kernel_rfl) (by kernel_rfl) (by kernel_rfl) Tryz.underlying4 rfl (abK (by kernel_rfl)) rfl (λ_=>rfl)
  (λb g=>JL rfl g λ_=>rfl) W base args ds gs before a d f
theorem HY:Rows.CryLetSaid:=
 OpenClaim.holds_of_wide_leaving_time 5 Tryz.f5 rfl rfl rfl rfl rfl rfl rfl ⟨rfl,rfl,rfl,rfl,rfl⟩ rfl rfl rfl rfl rfl (by kernel_rfl) Tryz.func5 (by kernel_rfl)
  (abK (by kernel_rfl)) (by unfold Func.isWrapper;first|(rw[aav (by decide +kernel)];kernel_rfl)|(rw[aau (by decide +kernel)];exact⟨rfl,rfl⟩))
  (λos started H enc _ F=>AP os started H enc F)
theorem cryLet_card:Rows.CryLetCardSaid:=
 gL [.handle] true (true,"50b66bdc54034c77c0585ee8934abba47c6085c2fb6bac4e3a81bcf04bbff935") true
  HY (by kernel_rfl) cryLet_row_tie rfl ⟨rfl,rfl⟩ (by kernel_rfl) rfl
  (fun f fn c a=>by
    obtain rfl:f=5:=abe ((show prog.funcNamed  "palfrey/palfreylaw07.CryLet"=some 5 by kernel_rfl).symm.trans c)|>.symm
    obtain rfl:fn=Tryz.f5:=(abe (Tryz.func5.symm.trans a)).symm
    exact⟨by kernel_rfl,λj t b=>by
     rw[Tryz.params5]at b
     have d:t=22:=by
      rcases j with _|j
      . simpa using b.symm
      . simp at b
     subst d;exact(show prog.wantsStandIn 22=false by kernel_rfl)⟩)
  (by kernel_rfl)

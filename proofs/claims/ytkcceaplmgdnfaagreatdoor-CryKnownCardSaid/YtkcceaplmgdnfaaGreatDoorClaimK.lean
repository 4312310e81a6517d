/- The chapter's examples of layer 7 have the results given there -/
import Derived.Test.YtkcceaplmgdnfaaGreatDoorCards
import Derived.Test.YtkcceaplmgdnfaaGreatDoorTie
import Derived.Test.YtkcceaplmgdnfaaGreatDoorK3
set_option linter.all false
namespace Go.Proofs.YtkcceaplmgdnfaaGreatDoor
open Go.Proofs.Tryz (prog)
open Go Go.bu Go.ChangeShapes Go.WideShapes Go.RowKit
set_option maxRecDepth 100000 in
theorem Az:∀b:List AV,b.length=Tryz.f8.params.size->(∀(i:Nat) t a,Tryz.f8.params[i]?=some t->b[i]?=some a->FY prog 6 t a)->tp prog lay A7 8 b (λ_=>none) (λres _=>res=.val (.lit (.bool true))):=by intro b c h;rw[Tryz.params8]at c;obtain rfl:b=[]:=List.length_eq_zero_iff.1 c;exact CN.CP rfl λ_=>rfl
set_option maxRecDepth 100000 in
theorem uu(os:Os)(started:os.Started)(H:Type)(enc:TypeId × Value->H)(F:Stop.Interp):
 ReturnsInLeavingWide Rows.cryKnownRow.assume Tryz.checked os 8 .any (λw args=>(Rows.cryKnownSpec.pre enc prog Tryz.f8 [] false w args/\laidMetH prog [("errors.errorType",Rows.laid_errors_errorType)] w)/\sizedMet enc prog Tryz.f8 (OpenSpec.ofChange Rows.cryKnownSpec) false w args)
  ((OpenSpec.ofChange Rows.cryKnownSpec).postWith enc prog Tryz.f8 F (outsideKept [.timePasses]) false true false):=by
 refine r8 (C:=Tryz.checked) (X:=λw _=>laidMetH prog [("errors.errorType",Rows.laid_errors_errorType)] w) (λ_ _ _ b h=>h.of_heap b) IC started Tryz.func8
  (zn (enc:=enc) (C:=Tryz.checked) (os:=os) (X:=λw _=>laidMetH prog [("errors.errorType",Rows.laid_errors_errorType)] w) (yc os) #[] 8 rfl (by kernel_rfl) (by kernel_rfl) (by kernel_rfl) (by kernel_rfl) (by kernel_rfl) (xv os _)) ?_
 intro W base args ds gs before a c d e;refine FZ (C:=Tryz.checked) lay (tb:=4) (n:=6) Tryz.func8 (by kernel_rfl) (by kernel_rfl) (by kernel_rfl) (by kernel_rfl) Tryz.underlying4 rfl (of_decide_eq_true (by kernel_rfl)) rfl (λds hd=>?_) Az W JP base args ds gs before a c d;rw[Tryz.params8]at hd
 match ds,hd with
 |[],_=>rfl
theorem AA:Rows.CryKnownSaid:=
 OpenClaim.holds_of_wide_leaving_time 8 Tryz.f8 rfl rfl rfl rfl rfl rfl rfl ⟨rfl,rfl,rfl,rfl,rfl⟩ rfl rfl rfl rfl rfl (by kernel_rfl) Tryz.func8 (by kernel_rfl)
  (of_decide_eq_true (by kernel_rfl)) (by unfold Func.isWrapper;first|(rw[if_pos (by decide +kernel)];kernel_rfl)|(rw[if_neg (by decide +kernel)];exact⟨rfl,rfl⟩))
  (λos started H enc _ F=>uu os started H enc F)
theorem cryKnown_card:Rows.CryKnownCardSaid:=
 ua [.handle] true (true,"919e633fd0399a5782443ee8edd649b3545ac4bbac9db7728db8ea8f3a307293") true
  AA (by kernel_rfl) cryKnown_row_tie rfl ⟨rfl,rfl⟩ (by kernel_rfl) rfl
  (fun f fn c a=>by
    obtain rfl:f=8:=Option.some.inj ((show prog.funcNamed  "palfrey/palfreylaw07.CryKnown"=some 8 by kernel_rfl).symm.trans c)|>.symm
    obtain rfl:fn=Tryz.f8:=(Option.some.inj (Tryz.func8.symm.trans a)).symm
    exact⟨by kernel_rfl,λj t d=>by
     have b:(Tryz.f8.params.toList.all λt=>prog.wantsStandIn t==false)=true:=by kernel_rfl
     rw[List.all_eq_true]at b;have e:=b t (List.mem_iff_getElem?.2 ⟨j,by simpa using d⟩);exact(beq_iff_eq (α:=Bool)).1 e⟩)
  (by kernel_rfl)
end Go.Proofs.YtkcceaplmgdnfaaGreatDoor

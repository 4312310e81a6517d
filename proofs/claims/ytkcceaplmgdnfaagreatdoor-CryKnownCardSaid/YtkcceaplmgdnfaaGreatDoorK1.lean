import Derived.ChangeSlices
import Derived.RowKit
import Derived.LaidLaws
import Derived.LaidHandle
import Derived.JoinedOf
import Derived.SevenTiedAt
import Derived.Test.YtkcceaplmgdnfaaGreatDoorC37
set_option linter.all false
namespace Go.bu
open Go.Conc Go.ChangeShapes Go.WideShapes Go.RowKit
section
variable{H:Type}{enc:TypeId × Value->H}
theorem r8{X:World->Array Value->Prop}(u:∀w w' args,w.heap=w'.heap->X w args->X w' args){a:Assume}{C:Checked}{os:Os}{f:FuncId}{fn:Func}{s:ChangeSpec}{F:Stop.Interp}{conds:List PathCond}{apart fresh handsOn:Bool}
 (own:ownKnob C.prog.godebug=none) (started:os.Started) (k:C.prog.funcs[f]?=some fn)
 (witness:∃(w:World) (tape:Tape) (i:Input),w.os=os/\(w.forCall tape i).Shaped C.prog/\i.vars=[]/\Input.okWide C.prog (w.forCall tape i) .any w.heap.size f i/\
   ((s.pre enc C.prog fn conds apart (w.forCall tape i).memory i.args/\X (w.forCall tape i).memory i.args)/\sizedMet enc C.prog fn (OpenSpec.ofChange s) apart (w.forCall tape i).memory i.args)/\a.holds C.prog (lone (Frame.enter C.prog f i.args .normal) [] (w.forCall tape i)))
 (runs:∀(W:World) (base:Nat) (args:Array Value) (ds gs:List (DataW H)) (before:List MemPlace),
   (∀(j:Nat) t v,fn.params[j]?=some t->args[j]?=some v->Value.okWide C.prog W .any base t v) ->
   DataW.Whole enc C.prog fn.params.toList s.vars apart W args.toList ds gs before ->
   (DataW.weightsEach C.prog (fn.params.toList++s.plain.varTypes C.prog) (ds++gs)).all (·<=reachBytes)=true->X W args ->
   ∃ M last o w' g,runNT C.prog (M+1) (solo (G (Frame.enter C.prog f args .normal) []) W) #[]=(.ended o w',g)/\runN C.prog M (solo (G (Frame.enter C.prog f args .normal) []) W)=.next last/\
     step C.prog last=.ended o w'/\Conc.Good C.prog (λv p=>s.post enc C.prog fn apart fresh handsOn false W args v {p with os:=W.os}/\ConcM.OsLater W.os p.os) last o w' g):
 ReturnsInLeavingWide a C os f .any (λw args=>(s.pre enc C.prog fn conds apart w args/\X w args)/\sizedMet enc C.prog fn (OpenSpec.ofChange s) apart w args) ((OpenSpec.ofChange s).postWith enc C.prog fn F (outsideKept [.timePasses]) apart fresh handsOn):=by
 refine returnsInLeavingWide_of_good own started witness ?_;intro w tape i _ _ _ l b h;obtain⟨_,_,_,m,c,_,_,_,_,d⟩:=l;have e:m=fn:=Option.some.inj (c.symm.trans k);subst e;obtain⟨⟨⟨ds,gs,before,q,L⟩,x⟩,y⟩:=b;have n:=DataW.Whole.of_heap (w':=w.forCall tape i) (by rfl) q;obtain⟨M,last,o,w',g,z,A,B,D⟩:=runs (w.forCall tape i) w.heap.size i.args ds gs before d n (y.weights q) (u _ _ _ (by rfl) x);obtain⟨v,e,r,E,I,J,K⟩:=D;exact⟨M,last,o,w',g,z,A,B,v,e,postWith_blind (postWith_of_post r.1 r.2),E,I,J,K⟩
theorem xm.kept{W w':World}(h:xm W w')(may:MemPlace->Prop):W.keptBut {w' with os:=W.os} may:=by
 refine⟨rfl,h.output,λi a=>?_⟩;have:=h.block i a
 grind
theorem zn{C:Checked}{os:Os}{f:FuncId}{fn:Func}{s:ChangeSpec}{conds:List PathCond}{apart:Bool}{X:World->Array Value->Prop}(a:World)(args:Array Value)(fuel:Nat)(d:a.os=os)
 (g:(a.forCall (λ_ _=>0) ⟨#[],args,[]⟩).variablesB C.prog=true)
 (h:((a.forCall (λ_ _=>0) ⟨#[],args,[]⟩).heap.toList.drop C.prog.globals.size).take ((begin C.prog (λ_ _=>0) default).world.heap.size-C.prog.globals.size)=
   (begin C.prog (λ_ _=>0) default).world.heap.toList.drop C.prog.globals.size)
 (b:Input.okWideB C.prog (a.forCall (λ_ _=>0) ⟨#[],args,[]⟩) f ⟨#[],args,[]⟩=true)
 (c:s.preB enc C.prog fn conds apart (a.forCall (λ_ _=>0) ⟨#[],args,[]⟩).memory args fuel=true)
 (e:s.sizedB enc C.prog fn apart (a.forCall (λ_ _=>0) ⟨#[],args,[]⟩).memory args fuel=true)
 (j:X (a.forCall (λ_ _=>0) ⟨#[],args,[]⟩).memory args):
 ∃ (w:World) (tape:Tape) (i:Input),w.os=os/\(w.forCall tape i).Shaped C.prog/\i.vars=[]/\Input.okWide C.prog (w.forCall tape i) .any w.heap.size f i/\
   ((s.pre enc C.prog fn conds apart (w.forCall tape i).memory i.args/\X (w.forCall tape i).memory i.args)/\sizedMet enc C.prog fn (OpenSpec.ofChange s) apart (w.forCall tape i).memory i.args)/\({calm:=true}:Assume).holds C.prog (lone (Frame.enter C.prog f i.args .normal) [] (w.forCall tape i)):=
 ⟨a,λ_ _=>0,⟨#[],args,[]⟩,d,World.shaped_of_B g h,(Input.okWide_of_okWideB (base:=0) b).1,(Input.okWide_of_okWideB b).2,⟨⟨ChangeSpec.pre_of_preB c,j⟩,sizedMet_of_sizedB e⟩,by simp only[Assume.holds];exact⟨by simp,λ_ _ _ _=>rfl,by simp,by simp,by simp⟩⟩
end
theorem ua{p:Pinned}{s:OpenSpec}{c:OpenClaim}(kinds:List LaidKind)(a:Bool)(b:Bool × String)(lk:Bool)
 (i:c.holds p s) (k:c.wfByText s=true) (d:c.laidByTextAt .later p kinds a)
 (e:c.start=.entering) (g:c.noBlocks=false/\c.again=false) (l:p.checked.prog.mainIs=some (b.1,b.2.toList)) (m:(!b.1 && b.2.isEmpty && !lk)=false)
 (n:∀f fn,p.checked.prog.funcNamed c.func=some f->p.checked.prog.funcs[f]?=some fn->lk=p.checked.prog.looks []/\∀(j:Nat) t,fn.params[j]?=some t->p.checked.prog.wantsStandIn t=false)
 (o:true=c.goesBy p.checked.prog):
 Claim7.holds p (.plain s) {stood:={row:=c,standIns:=[],harness:=b,looks:=lk},kinds:=[],alts:=[],goes:=true,laidByText:=true,laidKinds:=kinds,laidTests:=a,laidLooks:=.later}:=by
 have q:∀r:OpenClaim,Claim7.isSixth {stood:={row:=r,standIns:=[],harness:=b,looks:=lk},kinds:=[]}=false:=λr=>by simpa[Claim7.isSixth]using m
 exact⟨Claim7.tied_new_at .later kinds a (Claim7.new_of_sixth i b lk e g l (q c) n) k,(λD u=>by cases u),d,(λh=>by cases h),o⟩
end Go.bu

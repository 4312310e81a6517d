import Derived.ChangeSlices
import Derived.RowKit
import Derived.LaidLaws
import Derived.LaidHandle
import Derived.JoinedOf
import Derived.SevenTiedAt
import Derived.Test.YtggpckcdfilkoaaGreatDoorN2
set_option linter.all false
namespace Go.bu
open Go.Conc Go.ChangeShapes Go.WideShapes Go.RowKit
section
variable{H:Type}{enc:TypeId × Value->H}
def dK{X:World->E7->Prop}(r:∀w w' args,w.heap=w'.heap->X w args->X w' args){a C os f fn s F conds apart fresh handsOn}
 (own:ownKnob C.prog.godebug=none) (started:os.Started) (u:C.prog.funcs[f]?=some fn)
 (witness:∃(w:World) (tape:Tape) (i:Input),w.os=os/\(w.forCall tape i).Shaped C.prog/\i.vars=[]/\Input.okWide C.prog (w.forCall tape i) .any w.heap.size f i/\
   ((s.pre enc C.prog fn conds apart (w.forCall tape i).memory i.args/\X (w.forCall tape i).memory i.args)/\sizedMet enc C.prog fn (OpenSpec.ofChange s) apart (w.forCall tape i).memory i.args)/\a.holds C.prog (lone (Frame.enter C.prog f i.args .normal) [] (w.forCall tape i)))
 (runs:∀  W   base   args   ds gs   before ,
   (∀(j:Nat) t v,fn.params[j]?=some t->args[j]?=some v->Value.okWide C.prog W .any base t v) ->
   DataW.Whole enc C.prog fn.params.toList s.vars apart W args.toList ds gs before ->
   (DataW.weightsEach C.prog (fn.params.toList++s.plain.varTypes C.prog) (ds++gs)).all (·<=reachBytes)=true->X W args ->
   ∃ M last o w' d,runNT C.prog (M+1) (solo (G (Frame.enter C.prog f args .normal) []) W) #[]=(.ended o w',d)/\runN C.prog M (solo (G (Frame.enter C.prog f args .normal) []) W)=.next last/\
     step C.prog last=.ended o w'/\Conc.Good C.prog (λv m=>s.post enc C.prog fn apart fresh handsOn false W args v {m with os:=W.os}/\ConcM.OsLater W.os m.os) last o w' d):
 ReturnsInLeavingWide a C os f .any (λw args=>(s.pre enc C.prog fn conds apart w args/\X w args)/\sizedMet enc C.prog fn (OpenSpec.ofChange s) apart w args) ((OpenSpec.ofChange s).postWith enc C.prog fn F (outsideKept [.timePasses]) apart fresh handsOn):=by
 refine returnsInLeavingWide_of_good own started witness ?_;intro w tape i _ _ _ h b g;obtain⟨_,_,_,k,n,_,_,_,_,c⟩:=h;have e:k=fn:=am;subst e;obtain⟨⟨⟨ds,gs,before,p,K⟩,x⟩,y⟩:=b;have l:=DataW.Whole.of_heap (w':=w.forCall tape i) (by rfl) p;obtain⟨M,last,o,w',d,z,A,B,D⟩:=runs _ w.heap.size i.args ds gs before c l (y.weights p) (r _ _ _ (by rfl) x);obtain⟨v,e,q,E,H,I,J⟩:=D;exact⟨M,last,o,w',d,z,A,B,v,e,postWith_blind (postWith_of_post q.1 q.2),E,H,I,J⟩
def vP.kept{W w'}(h:vP W w')  may :W.keptBut {w' with os:=W.os} may:=by
 refine⟨rfl,h.output,λi a=>?_⟩;have:=h.block i a
 grind
def iG{C:Checked}{os f fn s conds apart}{X:World->E7->Prop}(a:World)  args   fuel  (b:a.os=os)
 (e:(a.forCall (λ_ _=>0) ⟨#[],args,[]⟩).variablesB C.prog=true)
 (g:((a.forCall (λ_ _=>0) ⟨#[],args,[]⟩).heap.toList.drop C.prog.globals.size).take ((begin C.prog (λ_ _=>0) default).world.heap.size-C.prog.globals.size)=
   (begin C.prog (λ_ _=>0) default).world.heap.toList.drop C.prog.globals.size)
 (c:Input.okWideB C.prog (a.forCall (λ_ _=>0) ⟨#[],args,[]⟩) f ⟨#[],args,[]⟩=true)
 (d:s.preB enc C.prog fn conds apart (a.forCall (λ_ _=>0) ⟨#[],args,[]⟩).memory args fuel=true)
 (h:s.sizedB enc C.prog fn apart (a.forCall (λ_ _=>0) ⟨#[],args,[]⟩).memory args fuel=true)
 (j:X (a.forCall (λ_ _=>0) ⟨#[],args,[]⟩).memory args):
 ∃ (w:World) (tape:Tape) (i:Input),w.os=os/\(w.forCall tape i).Shaped C.prog/\i.vars=[]/\Input.okWide C.prog (w.forCall tape i) .any w.heap.size f i/\
   ((s.pre enc C.prog fn conds apart (w.forCall tape i).memory i.args/\X (w.forCall tape i).memory i.args)/\sizedMet enc C.prog fn (OpenSpec.ofChange s) apart (w.forCall tape i).memory i.args)/\({calm:=true}:Assume).holds C.prog (lone (Frame.enter C.prog f i.args .normal) [] (w.forCall tape i)):=
 ⟨a,λ_ _=>0,⟨#[],args,[]⟩,b,World.shaped_of_B e g,am,(Input.okWide_of_okWideB c).2,(by grind [ChangeSpec.pre_of_preB,sizedMet_of_sizedB]),by exact⟨ap,λ_ _ _ _=>rfl,ap,ap,ap⟩⟩
end
def eG{p s c}  kinds   a   b   lk
 (h:c.holds p s) (i:c.wfByText s=true) (d:c.laidByTextAt .later p kinds a)
 (e:c.start=.entering) (g:c.noBlocks=false/\c.again=false) (k:p.checked.prog.mainIs=some (b.1,b.2.toList)) (l:(!b.1 && b.2.isEmpty && !lk)=false)
 (m:∀f fn,p.checked.prog.funcNamed c.func=some f->p.checked.prog.funcs[f]?=some fn->lk=p.checked.prog.looks []/\∀(j:Nat) t,fn.params[j]?=some t->p.checked.prog.wantsStandIn t=false)
 (n:true=c.goesBy p.checked.prog):
 Claim7.holds p (.plain s) {stood:={row:=c,standIns:=[],harness:=b,looks:=lk},kinds:=[],alts:=[],goes:=true,laidByText:=true,laidKinds:=kinds,laidTests:=a,laidLooks:=.later}:=by
 have o:∀r:OpenClaim,Claim7.isSixth {stood:={row:=r,standIns:=[],harness:=b,looks:=lk},kinds:=[]}=false:=λr=>by simpa[Claim7.isSixth]using l
 exact⟨Claim7.tied_new_at .later kinds a (Claim7.new_of_sixth h b lk e g k (o c) m) i,am,d,am,n⟩

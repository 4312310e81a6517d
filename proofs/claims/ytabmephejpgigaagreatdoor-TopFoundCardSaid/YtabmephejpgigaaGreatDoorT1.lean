import Derived.ChangeSlices
import Derived.RowKit
import Derived.LaidLaws
import Derived.LaidHandle
import Derived.JoinedOf
import Derived.SevenTiedAt
import Derived.Test.YtabmephejpgigaaGreatDoorC21
set_option linter.all false
namespace Go.cr
open Go.Conc Go.ChangeShapes Go.WideShapes Go.RowKit
section
variable{H:Type}{enc:TypeId × Value->H}
def tu{X:World->aaS->Prop}(u:∀w w' args,w.heap=w'.heap->X w args->X w' args){a C os f fn s F conds apart fresh handsOn}
 (own:ownKnob C.prog.godebug=none) (started:os.Started) (k:C.prog.funcs[f]?=some fn)
 (witness:∃(w:World) (tape:Tape) (i:Input),w.os=os/\(w.forCall tape i).Shaped C.prog/\i.vars=[]/\Input.okWide C.prog (w.forCall tape i) .any w.heap.size f i/\
   ((s.pre enc C.prog fn conds apart (w.forCall tape i).memory i.args/\X (w.forCall tape i).memory i.args)/\sizedMet enc C.prog fn (OpenSpec.ofChange s) apart (w.forCall tape i).memory i.args)/\a.holds C.prog (lone (Frame.enter C.prog f i.args .normal) [] (w.forCall tape i)))
 (runs:∀  W   base   args   ds gs   before ,
   (∀(j:Nat) t v,fn.params[j]?=some t->args[j]?=some v->Value.okWide C.prog W .any base t v) ->
   DataW.Whole enc C.prog fn.params.toList s.vars apart W args.toList ds gs before ->
   (DataW.weightsEach C.prog (fn.params.toList++s.plain.varTypes C.prog) (ds++gs)).all (·<=reachBytes)=true->X W args ->
   ∃ M last o w' g,runNT C.prog (M+1) (solo (G (Frame.enter C.prog f args .normal) []) W) #[]=(.ended o w',g)/\runN C.prog M (solo (G (Frame.enter C.prog f args .normal) []) W)=.next last/\
     step C.prog last=.ended o w'/\Conc.Good C.prog (λv p=>s.post enc C.prog fn apart fresh handsOn false W args v {p with os:=W.os}/\ConcM.OsLater W.os p.os) last o w' g):
 ReturnsInLeavingWide a C os f .any (λw args=>(s.pre enc C.prog fn conds apart w args/\X w args)/\sizedMet enc C.prog fn (OpenSpec.ofChange s) apart w args) ((OpenSpec.ofChange s).postWith enc C.prog fn F (outsideKept [.timePasses]) apart fresh handsOn):=by
 refine returnsInLeavingWide_of_good own started witness ?_;intro w tape i _ _ _ l b h;obtain⟨_,_,_,m,c,_,_,_,_,d⟩:=l;have e:m=fn:=YX (c.symm.trans k);subst e;obtain⟨⟨⟨ds,gs,before,q,K⟩,x⟩,y⟩:=b;have n:=DataW.Whole.of_heap (w':=w.forCall tape i) (by rfl) q;obtain⟨M,last,o,w',g,z,A,B,D⟩:=runs (w.forCall tape i) w.heap.size i.args ds gs before d n (y.weights q) (u _ _ _ (by rfl) x);obtain⟨v,e,r,E,H,I,J⟩:=D;exact⟨M,last,o,w',g,z,A,B,v,e,postWith_blind (postWith_of_post r.1 r.2),E,H,I,J⟩
def vw.kept{W w'}(h:vw W w')  may :W.keptBut {w' with os:=W.os} may:=by
 refine⟨rfl,h.output,λi a=>?_⟩;have:=h.block i a
 grind
def GV{C:Checked}  L  {f fn}{s:ChangeSpec}{t e tb}{r:Nat}{apart fresh}(X:C.prog.funcs[f]?=some fn) (hi:C.prog.inits.idxOf? f=none) (l:fn.params=#[t]) (z:C.prog.underlying t=some (.slice e)) (Y:C.prog.underlying e=some (.int .i64))
 (I:C.prog.cellsOf e=1) (Z:C.prog.bytesOf e=8) (a7:fn.resultTypes=#[tb]) (a8:C.prog.underlying tb=some .bool) (J:fn.results=#[.tmp r]) (hr:r<fn.ntmps) (m:s.vars=[]) (u:∀d ,s.fn H [d]={results:=[.lit (.bool true)],args:=[d]})
 (law:∀c:abe,c.length<1152921504606846976->wy C.prog L FU f [.sl 1 (c.map λn=>AV.lit (.int .i64 n)) .any] (λ_=>none) (λres _=>res=.val (.lit (.bool true))))
  W   base   args   ds gs   before
 (A:∀(j:Nat) t v,fn.params[j]?=some t->args[j]?=some v->Value.okWide C.prog W .any base t v)
 (hW:DataW.Whole enc C.prog fn.params.toList s.vars apart W args.toList ds gs before)
 (hz:(DataW.weightsEach C.prog (fn.params.toList++s.plain.varTypes C.prog) (ds++gs)).all (·<=reachBytes)=true):
 ∃ M last o w' D,runNT C.prog (M+1) (solo (G (Frame.enter C.prog f args .normal) []) W) #[]=(.ended o w',D)/\runN C.prog M (solo (G (Frame.enter C.prog f args .normal) []) W)=.next last/\
   step C.prog last=.ended o w'/\Conc.Good C.prog (λv K=>s.post enc C.prog fn apart fresh false false W args v {K with os:=W.os}/\ConcM.OsLater W.os K.os) last o w' D:=by
 have a9:=hW;obtain⟨p,q,ad,hV,rfl,_,_⟩:=hW;have hA:DataW.TrodAll enc C.prog W 0 (λ_=>true) true fn.params.toList args.toList ds p:=ad
 rw[l]at hA A;obtain⟨v0,T,rfl,rfl,h0⟩:=trodAll_one hA;rw[m]at hV;obtain⟨rfl,rfl⟩:=trodVars_none hV;have y:=A 0 t v0 rfl rfl;obtain⟨F,len,cap,rfl⟩:=okWide_slice z y;obtain⟨fuel,hf⟩:=h0
 have fin:∀(c:abe),c.length<1152921504606846976->V (ao.all W) (.slice F len cap) (.sl 1 (c.map λn=>AV.lit (.int .i64 n)) .any) ->
  (∀w':World,vw W w'->∃pa,DataW.TrodAll enc C.prog {w' with os:=W.os} 0 (λb=>decide (b<W.heap.size)) true fn.params.toList [.slice F len cap] [T] pa) ->
  ∃ M last o w' D,runNT C.prog (M+1) (solo (G (Frame.enter C.prog f #[.slice F len cap] .normal) []) W) #[]=(.ended o w',D)/\runN C.prog M (solo (G (Frame.enter C.prog f #[.slice F len cap] .normal) []) W)=.next last/\
    step C.prog last=.ended o w'/\Conc.Good C.prog (λv K=>s.post enc C.prog fn apart fresh false false W #[.slice F len cap] v {K with os:=W.os}/\ConcM.OsLater W.os K.os) last o w' D:=λc hn hv E=>by
  obtain⟨M,last,o,w',D,h1,h2,h3,h4⟩:=Nw L (cargs:=[.slice F len cap]) X hi J hr (law c hn) (W:=W) (.cons hv .nil) JI;refine⟨M,last,o,w',D,h1,h2,h3,h4.mono λv hp=>?_⟩
  obtain⟨⟨k,av,σ,al,ax⟩,g⟩:=hp;cases ax;cases al;obtain⟨pa,b0⟩:=E w' g;refine⟨⟨[T],[],_,[],pa,[],a9,?_,?_,?_,g.kept _,λh=>by cases h⟩,g.os⟩
  . rw[a7]
    show DataW.TrodAll enc C.prog _ _ _ _ [tb] [.bool true] (s.fn H [T]).results [];rw[u];exact trodAll_mk1 (shut_bool a8 true)
  . simp_all
  rw[m];show DataW.TrodVars enc C.prog _ _ [] (s.fn H [T]).vars [];rw[u];rfl
 rcases open_ints z Y I hf with⟨w,O⟩|⟨a,aL,aO,U,w,_,hl,hm,P,O,x,ay⟩
 . simp[Value.cells]at w
   obtain⟨rfl,rfl,rfl⟩:=w;simp only[zG]at O;obtain⟨rfl,rfl⟩:=O;exact fin [] (by simp) (.Vz 1) λw' g=>⟨[],by rw[l];exact trodAll_mk1 (shut_slice_nil z)⟩
 simp[Value.cells]at w;obtain⟨rfl,rfl,rfl⟩:=w;simp only[zG]at O;obtain⟨rfl,rfl⟩:=O;simp only[YD]at P;have Q:=sized_slice hz (j:=0) (t:=t) (by simp_all) (by rfl) z
 rw[Z]at Q;have b1:=reachBytes_lt;have hlen:(U.take len).length=len:=by simp_all
 refine fin (U.take len) ?_ (JJ z Y y hl P x) λw' g=>?_
 . have:(U.take len).length+(U.drop len).length<=17592186044416:=by
    simp only[lits,YV]at Q;omega
   omega
 rw[l]
 have B:Cell.ok C.prog W .any base t (.slice (some a) len cap):=by simp only[Value.okWide,z,Cell.okWide]at y;exact y
 simp only[Cell.ok,z]at B;obtain⟨_,_,_,R,row,N,aC,_⟩:=B
 have S:a.block<W.heap.size:=by
  unfold World.shape? at aC
  grind
 refine⟨_,trodAll_mk1 ⟨_,shut_ints (base:=0) (spare:=λb=>decide (b<W.heap.size)) 0 z Y I (Nat.zero_le _) hl hm (by grind) (λi aE=>?_) ay⟩⟩
 rw[<-x i aE];have:=g.block a.block S;unfold World.cell?
 have b2:(a.add i).block=a.block:=by obtain⟨b,off,spot⟩:=a;simp only at R;subst R;rw[Go.WideShapes.add_plain]
 grind
def AA{C:Checked}{os f fn s conds apart}{X:World->aaS->Prop}(a:World)  args   fuel  (d:a.os=os)
 (g:(a.forCall (λ_ _=>0) ⟨#[],args,[]⟩).variablesB C.prog=true)
 (h:((a.forCall (λ_ _=>0) ⟨#[],args,[]⟩).heap.toList.drop C.prog.globals.size).take ((begin C.prog (λ_ _=>0) default).world.heap.size-C.prog.globals.size)=
   (begin C.prog (λ_ _=>0) default).world.heap.toList.drop C.prog.globals.size)
 (b:Input.okWideB C.prog (a.forCall (λ_ _=>0) ⟨#[],args,[]⟩) f ⟨#[],args,[]⟩=true)
 (c:s.preB enc C.prog fn conds apart (a.forCall (λ_ _=>0) ⟨#[],args,[]⟩).memory args fuel=true)
 (e:s.sizedB enc C.prog fn apart (a.forCall (λ_ _=>0) ⟨#[],args,[]⟩).memory args fuel=true)
 (j:X (a.forCall (λ_ _=>0) ⟨#[],args,[]⟩).memory args):
 ∃ (w:World) (tape:Tape) (i:Input),w.os=os/\(w.forCall tape i).Shaped C.prog/\i.vars=[]/\Input.okWide C.prog (w.forCall tape i) .any w.heap.size f i/\
   ((s.pre enc C.prog fn conds apart (w.forCall tape i).memory i.args/\X (w.forCall tape i).memory i.args)/\sizedMet enc C.prog fn (OpenSpec.ofChange s) apart (w.forCall tape i).memory i.args)/\({calm:=true}:Assume).holds C.prog (lone (Frame.enter C.prog f i.args .normal) [] (w.forCall tape i)):=
 ⟨a,λ_ _=>0,⟨#[],args,[]⟩,d,World.shaped_of_B g h,(Input.okWide_of_okWideB (base:=0) b).1,(Input.okWide_of_okWideB b).2,⟨⟨ChangeSpec.pre_of_preB c,j⟩,sizedMet_of_sizedB e⟩,by simp only[Assume.holds];exact⟨by simp,λ_ _ _ _=>rfl,by simp,by simp,by simp⟩⟩
end
def uW{p s c}  kinds   a   b   lk
 (i:c.holds p s) (k:c.wfByText s=true) (d:c.laidByTextAt .later p kinds a)
 (e:c.start=.entering) (g:c.noBlocks=false/\c.again=false) (l:p.checked.prog.mainIs=some (b.1,b.2.toList)) (m:(!b.1 && b.2.isEmpty && !lk)=false)
 (n:∀f fn,p.checked.prog.funcNamed c.func=some f->p.checked.prog.funcs[f]?=some fn->lk=p.checked.prog.looks []/\∀(j:Nat) t,fn.params[j]?=some t->p.checked.prog.wantsStandIn t=false)
 (o:true=c.goesBy p.checked.prog):
 Claim7.holds p (.plain s) {stood:={row:=c,standIns:=[],harness:=b,looks:=lk},kinds:=[],alts:=[],goes:=true,laidByText:=true,laidKinds:=kinds,laidTests:=a,laidLooks:=.later}:=by
 have q:∀r:OpenClaim,Claim7.isSixth {stood:={row:=r,standIns:=[],harness:=b,looks:=lk},kinds:=[]}=false:=λr=>by simpa[Claim7.isSixth]using m
 exact⟨Claim7.tied_new_at .later kinds a (Claim7.new_of_sixth i b lk e g l (q c) n) k,(λD u=>by cases u),d,(λh=>by cases h),o⟩

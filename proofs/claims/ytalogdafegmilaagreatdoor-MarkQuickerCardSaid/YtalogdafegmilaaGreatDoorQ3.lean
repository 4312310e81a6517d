/- Part 3 of the proof. -/
import Derived.ChangeSlices
import Derived.RowKit
import Derived.LaidLaws
import Derived.LaidHandle
import Derived.JoinedOf
import Derived.SevenTiedAt
import Derived.Test.YtalogdafegmilaaGreatDoorQ2
set_option linter.all false
namespace Go.aN
open Go.Conc Go.ChangeShapes Go.WideShapes Go.RowKit
section
variable {H:Type} {enc:TypeId × Value->H}
theorem bi {X:World->Array Value->Prop} (hX:∀ w w' args,w.heap=w'.heap->X w args->X w' args) {a:Assume} {C:Checked} {os:Os} {f:FuncId} {fn:Func} {s:ChangeSpec} {F:Stop.Interp} {conds:List PathCond} {apart fresh handsOn:Bool}
 (own:ownKnob C.prog.godebug=none) (started:os.Started) (hfn:C.prog.funcs[f]? = some fn)
 (witness:∃ (w:World) (tape:Tape) (i:Input),w.os=os∧(w.forCall tape i).Shaped C.prog∧i.vars=[]∧Input.okWide C.prog (w.forCall tape i) .any w.heap.size f i ∧
   ((s.pre enc C.prog fn conds apart (w.forCall tape i).memory i.args∧X (w.forCall tape i).memory i.args)∧sizedMet enc C.prog fn (OpenSpec.ofChange s) apart (w.forCall tape i).memory i.args)∧a.holds C.prog (lone (Frame.enter C.prog f i.args .normal) [] (w.forCall tape i)))
 (runs:∀ (W:World) (base:Nat) (args:Array Value) (ds gs:List (DataW H)) (before:List MemPlace),
   (∀ (j:Nat) t v,fn.params[j]? = some t->args[j]? = some v->Value.okWide C.prog W .any base t v) ->
   DataW.Whole enc C.prog fn.params.toList s.vars apart W args.toList ds gs before ->
   (DataW.weightsEach C.prog (fn.params.toList ++ s.plain.varTypes C.prog) (ds ++ gs)).all (· ≤ reachBytes)=true->X W args ->
   ∃ M last o w' t',runNT C.prog (M+1) (solo (G (Frame.enter C.prog f args .normal) []) W) #[]=(.ended o w',t')∧runN C.prog M (solo (G (Frame.enter C.prog f args .normal) []) W) = .next last ∧
     step C.prog last = .ended o w'∧Conc.Good C.prog (fun v W'=>s.post enc C.prog fn apart fresh handsOn false W args v { W' with os:=W.os }∧ConcM.OsLater W.os W'.os) last o w' t') :
 ReturnsInLeavingWide a C os f .any (fun w args=>(s.pre enc C.prog fn conds apart w args∧X w args)∧sizedMet enc C.prog fn (OpenSpec.ofChange s) apart w args) ((OpenSpec.ofChange s).postWith enc C.prog fn F (outsideKept [.timePasses]) apart fresh handsOn):=by
 refine returnsInLeavingWide_of_good own started witness ?_;intro w tape i _ _ _ hok hpre hholds;obtain⟨_,_,_,fn',hfn',_,_,_,_,hval⟩:=hok;have e:fn'=fn:=Option.some.inj (hfn'.symm.trans hfn);subst e;obtain⟨⟨⟨ds,gs,before,hw,hc⟩,hx⟩,hz⟩:=hpre;have hw':=DataW.Whole.of_heap (w':=w.forCall tape i) (by rfl) hw
 obtain⟨M,last,o,w',t',h1,h2,h3,h4⟩:=runs (w.forCall tape i) w.heap.size i.args ds gs before hval hw' (hz.weights hw) (hX _ _ _ (by rfl) hx)
 obtain⟨v,e,hp,r1,r2,r3,r4⟩:=h4;exact⟨M,last,o,w',t',h1,h2,h3,v,e,postWith_blind (postWith_of_post hp.1 hp.2),r1,r2,r3,r4⟩
theorem jx.kept {W w':World} (h:jx W w') (may:MemPlace->Prop):W.keptBut { w' with os:=W.os } may:=by
 refine⟨rfl,h.output,fun i hi=>?_⟩
 have:=h.block i hi
 show (match W.heap[i]?,w'.heap[i]? with
  | some (.cells c t fr),some (.cells c' t' fr')=>t'=t∧fr'=fr∧c'.size=c.size∧∀ j:Nat,¬ may (.cell i j)->c'[j]? = c[j]?
  | some (.map es clock),some (.map es' clock')=>may (.map i)∨(es'=es∧clock'=clock)
  | o,o'=>o'=o)
 rw[this];split <;> simp_all
theorem eD {C:Checked} (L:iE C.prog) {f:FuncId} {fn:Func} {s:ChangeSpec} {t e tb:TypeId} {r:Nat} {apart fresh:Bool} (hfn:C.prog.funcs[f]? = some fn) (hi:C.prog.inits.idxOf? f=none) (hpar:fn.params=#[t]) (ht:C.prog.underlying t=some (.slice e)) (he:C.prog.underlying e=some (.int .i64))
 (hce:C.prog.cellsOf e=1) (hbe:C.prog.bytesOf e=8) (hrt:fn.resultTypes=#[tb]) (htb:C.prog.underlying tb=some .bool) (hres:fn.results=#[.tmp r]) (hr:r<fn.ntmps) (hvars:s.vars=[]) (hspec:∀ d:DataW H,s.fn H [d] = { results:=[.lit (.bool true)],args:=[d] })
 (law:∀ nums:List Int,nums.length<1152921504606846976->gq C.prog L qw f [.sl 1 (nums.map fun n=>AV.lit (.int .i64 n)) .any] (fun _=>none) (fun res _=>res = .val (.lit (.bool true))))
 (W:World) (base:Nat) (args:Array Value) (ds gs:List (DataW H)) (before:List MemPlace)
 (hval:∀ (j:Nat) t v,fn.params[j]? = some t->args[j]? = some v->Value.okWide C.prog W .any base t v)
 (hW:DataW.Whole enc C.prog fn.params.toList s.vars apart W args.toList ds gs before)
 (hz:(DataW.weightsEach C.prog (fn.params.toList ++ s.plain.varTypes C.prog) (ds ++ gs)).all (· ≤ reachBytes)=true) :
 ∃ M last o w' t',runNT C.prog (M+1) (solo (G (Frame.enter C.prog f args .normal) []) W) #[]=(.ended o w',t')∧runN C.prog M (solo (G (Frame.enter C.prog f args .normal) []) W) = .next last ∧
   step C.prog last = .ended o w'∧Conc.Good C.prog (fun v W'=>s.post enc C.prog fn apart fresh false false W args v { W' with os:=W.os }∧ConcM.OsLater W.os W'.os) last o w' t':=by
 have hW':=hW;obtain⟨p,q,hA0,hV,rfl,_,_⟩:=hW;have hA:DataW.TrodAll enc C.prog W 0 (fun _=>true) true fn.params.toList args.toList ds p:=hA0
 rw[hpar] at hA hval;obtain⟨v0,d0,rfl,rfl,h0⟩:=trodAll_one hA;rw[hvars] at hV;obtain⟨rfl,rfl⟩:=trodVars_none hV;have hv0:=hval 0 t v0 rfl rfl;obtain⟨a0,len,cap,rfl⟩:=okWide_slice ht hv0;obtain⟨fuel,hf⟩:=h0
 have fin:∀ (nums:List Int),nums.length<1152921504606846976->V (ag.all W) (.slice a0 len cap) (.sl 1 (nums.map fun n=>AV.lit (.int .i64 n)) .any) ->
  (∀ w':World,jx W w'->∃ pa,DataW.TrodAll enc C.prog { w' with os:=W.os } 0 (fun b=>decide (b<W.heap.size)) true fn.params.toList [.slice a0 len cap] [d0] pa) ->
  ∃ M last o w' t',runNT C.prog (M+1) (solo (G (Frame.enter C.prog f #[.slice a0 len cap] .normal) []) W) #[]=(.ended o w',t')∧runN C.prog M (solo (G (Frame.enter C.prog f #[.slice a0 len cap] .normal) []) W) = .next last ∧
    step C.prog last = .ended o w'∧Conc.Good C.prog (fun v W'=>s.post enc C.prog fn apart fresh false false W #[.slice a0 len cap] v { W' with os:=W.os }∧ConcM.OsLater W.os W'.os) last o w' t':=fun nums hn hv hread=>by
  obtain⟨M,last,o,w',t',h1,h2,h3,h4⟩:=ot L (cargs:=[.slice a0 len cap]) hfn hi hres hr (law nums hn) (W:=W) (.cons hv .nil);refine⟨M,last,o,w',t',h1,h2,h3,h4.mono fun v hp=>?_⟩
  obtain⟨⟨k,av,σ,hvv,hav⟩,hfr⟩:=hp;cases hav;cases hvv;obtain⟨pa,hpa⟩:=hread w' hfr;refine⟨⟨[d0],[],_,[],pa,[],hW',?_,?_,?_,hfr.kept _,fun h=>by cases h⟩,hfr.os⟩
  . rw[hrt]
    show DataW.TrodAll enc C.prog _ _ _ _ [tb] [.bool true] (s.fn H [d0]).results [];rw[hspec];exact trodAll_mk1 (shut_bool htb true)
  . show DataW.TrodAll enc C.prog _ _ _ _ _ _ (s.fn H [d0]).args _
    rw[hspec];exact hpa
  . rw[hvars]
    show DataW.TrodVars enc C.prog _ _ [] (s.fn H [d0]).vars [];rw[hspec];rfl
 rcases open_ints ht he hce hf with ⟨hcs,hx⟩|⟨a,len',cap',zs,hcs,_,hl,hm,hzl,hx,hcell,hwz⟩
 . simp[Value.cells] at hcs
   obtain⟨rfl,rfl,rfl⟩:=hcs;simp only[Prod.mk.injEq] at hx;obtain⟨rfl,rfl⟩:=hx;exact fin [] (by simp) (.slnil 1) fun w' hfr=>⟨[],by rw[hpar];exact trodAll_mk1 (shut_slice_nil ht)⟩
 . simp[Value.cells] at hcs
   obtain⟨rfl,rfl,rfl⟩:=hcs;simp only[Prod.mk.injEq] at hx;obtain⟨rfl,rfl⟩:=hx;simp only[if_true] at hzl;have hsz:=sized_slice hz (j:=0) (t:=t) (by rw[hpar];rfl) (by rfl) ht
   rw[hbe] at hsz;have hlt:=reachBytes_lt;have hlen:(zs.take len).length=len:=by rw[List.length_take];omega
   refine fin (zs.take len) ?_ (lY ht he hv0 hl hzl hcell) fun w' hfr=>?_
   . have:(zs.take len).length+(zs.drop len).length≤17592186044416:=by
      simp only[lits,List.length_map] at hsz;omega
     omega
   . rw[hpar]
     have hok':Cell.ok C.prog W .any base t (.slice (some a) len cap):=by
      simp only[Value.okWide,ht,Cell.okWide] at hv0;exact hv0
     simp only[Cell.ok,ht] at hok';obtain⟨_,_,_,hsp,row,N,hsh,_⟩:=hok'
     have hblk:a.block<W.heap.size:=by
      unfold World.shape? at hsh;split at hsh
      . next h=>exact (Array.getElem?_eq_some_iff.1 h).1
      . cases hsh
     refine⟨_,trodAll_mk1 ⟨_,shut_ints (base:=0) (spare:=fun b=>decide (b<W.heap.size)) 0 ht he hce (Nat.zero_le _) hl hm (by rw[if_pos (by simpa using hblk)];exact hzl) (fun i hiz=>?_) hwz⟩⟩
     rw[← hcell i hiz];have:=hfr.block a.block hblk;unfold World.cell?
     have hb2:(a.add i).block=a.block:=by
      obtain⟨b,off,spot⟩:=a;simp only at hsp;subst hsp;rw[Go.WideShapes.add_plain]
     rw[hb2];show (match w'.heap[a.block]? with|_=>_)=_
     rw[this]
theorem cC {C:Checked} {os:Os} {f:FuncId} {fn:Func} {s:ChangeSpec} {conds:List PathCond} {apart:Bool} {X:World->Array Value->Prop} (w0:World) (args:Array Value) (fuel:Nat) (hos:w0.os=os)
 (hv:(w0.forCall (fun _ _=>0) ⟨#[],args,[]⟩).variablesB C.prog=true)
 (hr:((w0.forCall (fun _ _=>0) ⟨#[],args,[]⟩).heap.toList.drop C.prog.globals.size).take ((begin C.prog (fun _ _=>0) default).world.heap.size-C.prog.globals.size) =
   (begin C.prog (fun _ _=>0) default).world.heap.toList.drop C.prog.globals.size)
 (hok:Input.okWideB C.prog (w0.forCall (fun _ _=>0) ⟨#[],args,[]⟩) f ⟨#[],args,[]⟩=true)
 (hpre:s.preB enc C.prog fn conds apart (w0.forCall (fun _ _=>0) ⟨#[],args,[]⟩).memory args fuel=true)
 (hsz:s.sizedB enc C.prog fn apart (w0.forCall (fun _ _=>0) ⟨#[],args,[]⟩).memory args fuel=true)
 (hx:X (w0.forCall (fun _ _=>0) ⟨#[],args,[]⟩).memory args) :
 ∃ (w:World) (tape:Tape) (i:Input),w.os=os∧(w.forCall tape i).Shaped C.prog∧i.vars=[]∧Input.okWide C.prog (w.forCall tape i) .any w.heap.size f i ∧
   ((s.pre enc C.prog fn conds apart (w.forCall tape i).memory i.args∧X (w.forCall tape i).memory i.args)∧sizedMet enc C.prog fn (OpenSpec.ofChange s) apart (w.forCall tape i).memory i.args)∧({ calm:=true }:Assume).holds C.prog (lone (Frame.enter C.prog f i.args .normal) [] (w.forCall tape i)):=
 ⟨w0,fun _ _=>0,⟨#[],args,[]⟩,hos,World.shaped_of_B hv hr,(Input.okWide_of_okWideB (base:=0) hok).1,(Input.okWide_of_okWideB hok).2,⟨⟨ChangeSpec.pre_of_preB hpre,hx⟩,sizedMet_of_sizedB hsz⟩,by
   simp only[Assume.holds];exact⟨by simp,fun _ _ _ _=>rfl,by simp,by simp,by simp⟩⟩
end
theorem bp {p:Pinned} {s:OpenSpec} {c:OpenClaim} (kinds:List LaidKind) (tests:Bool) (har:Bool × String) (lk:Bool)
 (hc:c.holds p s) (hw:c.wfByText s=true) (htie:c.laidByTextAt .later p kinds tests)
 (hst:c.start = .entering) (hnb:c.noBlocks=false∧c.again=false) (hm:p.checked.prog.mainIs=some (har.1,har.2.toList)) (hn:(!har.1 && har.2.isEmpty && !lk)=false)
 (hl:∀ f fn,p.checked.prog.funcNamed c.func=some f->p.checked.prog.funcs[f]? = some fn->lk=p.checked.prog.looks []∧∀ (j:Nat) t,fn.params[j]? = some t->p.checked.prog.wantsStandIn t=false)
 (hg:true=c.goesBy p.checked.prog) :
 Claim7.holds p (.plain s) { stood:={ row:=c,standIns:=[],harness:=har,looks:=lk },kinds:=[],alts:=[],goes:=true,laidByText:=true,laidKinds:=kinds,laidTests:=tests,laidLooks:=.later }:=by
 have h6:∀ r:OpenClaim,Claim7.isSixth { stood:={ row:=r,standIns:=[],harness:=har,looks:=lk },kinds:=[] }=false:=fun r=>by simpa[Claim7.isSixth] using hn
 exact⟨Claim7.tied_new_at .later kinds tests (Claim7.new_of_sixth hc har lk hst hnb hm (h6 c) hl) hw,(fun D hD=>by cases hD),htie,(fun h=>by cases h),hg⟩
end Go.aN

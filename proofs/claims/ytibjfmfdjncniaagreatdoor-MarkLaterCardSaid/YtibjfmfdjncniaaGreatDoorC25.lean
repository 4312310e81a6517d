/- Part 25 of the proof. -/
import Derived.Test.YtibjfmfdjncniaaGreatDoorC24
set_option linter.all false
namespace Go.Pal
open Go.Conc
open Go.ConcN (sumTo upd sumTo_upd upd_ne upd_same)
section
variable {P:Program} (L:Lay P) {o:Oper} {env:Env} {σ:Store} {K:AV->Store->Prop} {Kp:AV->Store->Prop}
theorem kind_chan {i:TI} {d:TypeDesc} {e:Nat} (h:kindOK P i d=true) (hk:i.kind = .chan e):∃ dir,d = .chan dir e:=by
  cases d <;> simp_all [kindOK]
theorem os_makeChan {t e:Nat} {x:Operand} {i ie:TI} {kd:IntKind} {n:Int} (ho:o.op = .makeChan t x) (ht:L.tt t=some i) (hk:i.kind = .chan e) (he:L.tt e=some ie) (hx:aeval env x = .lit (.int kd n)) (h0:0≤n∧n≤1000000∧ie.bytes≤1000000)
    (hK:∀ b,σ b=none->K (.chan b) (σ.set b (.raw (.chan n.toNat #[] false 0 0 false)))):OpSem P o env σ K Kp:=
  OpSem.val (s:=fun ρ=>Instr.makeChan t (ρ x)) (fun ρ=>by simp[execOp,ho]) fun k O ρ hv hr=>by
    have hvx:=hv x (by simp[ho,Op.operands])
    rw[hx] at hvx;rw[asInt_lit hvx];unfold Instr.makeChan;refine swp_bind' (swp_pure ?_);refine swp_bind' (swp_underlying L ht fun d _ hd=>?_)
    obtain⟨dir,rfl⟩:=kind_chan hd hk;simp only;refine swp_bind' (swp_typeInfo L he fun info _ _ hb _=>?_)
    have hle:((info.bytes:Int)*n)≤1000000*1000000:=by
      rw[hb];exact Int.mul_le_mul (by omega) (by omega) (by omega) (by omega)
    have hno : ¬ (n<0∨n > IntKind.i64.max∨(info.bytes:Int)*n > 2 ^ 48-112):=by
      have:IntKind.i64.max=9223372036854775807:=rfl;omega
    rw[if_neg hno];refine swp_bind' (s:=newObj _) ⟨rfl,fun r hr'=>swp_pure ?_⟩
    exact .here ⟨.made hr'.2.2,_,_,.chan r,(hr.mono (.made hr'.2.2)).set (.raw _ rfl),hK r (hr.isNone hr'.1 hr'.2.2)⟩
end
def startG (P:Program) (d:Deferred):Goroutine:=G { (default:Frame) with fn:=P.funcs.size,defers:=[d],mode:=.panicking [goexitEntry] } []
def calmI:Item->Bool
  | .inRegion _ []=>true
  | .inBlock _=>true
  | .inScope _=>true
  | .code .skip=>true
  | .code .ret=>true
  | _=>false
theorem quits_tail {P:Program} {f:FuncId} {fn:Func} {tmps:Array Value} (hf:P.funcs[f]? = some fn) (hr:fn.results=#[]):∀ (todo:List Item),todo.all calmI=true->∃ n,QuitsD P n 0 (G ⟨f,tmps,todo,[],.run,.deferred,none⟩ [botG P])
  | [],_=>⟨_,.ctl rfl (fun w=>by simp[G,stepG,stepG.exec,wEnd]) (quits_end hf hr (todo:=[]) (tmps:=tmps))⟩
  | i :: k,h=>by
    simp only[List.all_cons,Bool.and_eq_true] at h;obtain⟨n,ih⟩:=quits_tail (tmps:=tmps) hf hr k h.2
    by_cases hret:i = .code .ret
    . subst hret
      exact⟨_,.ctl rfl (fun w=>by simp[G,stepG,stepG.exec,wEnd]) (quits_end hf hr (todo:=.code .ret :: k) (tmps:=tmps))⟩
    . refine⟨_,.ctl rfl (fun w=>?_) ih⟩
      cases i with
      | code c=>cases c <;> first | (exact absurd rfl hret) | (simp[calmI] at h;done) | simp[G,stepG,stepG.exec]
      | inRegion ops l=>cases l <;> first | (simp[calmI] at h;done) | simp[G,stepG,stepG.exec]
      | _=>first | (simp[calmI] at h;done) | simp[G,stepG,stepG.exec]
section
variable {P:Program} {fid n:Nat} {ro:Option Nat} {s:St} {k:List Item} {K:Exit->St->Prop} {A:Mart} {Fin:Know->OwnM->Goroutine->Prop}
theorem Cont.none {m:Mo} {Q:Know->OwnM->Goroutine->Prop} {kind:CallKind} {cs:List Frame} {kn:Know}:Cont P m Q fid n ro kind cs (fun _ _=>False) kn:=⟨fun _ _ _ _ _ _ _ _ _ _ h=>h.elim,fun _ _ _ _ _ _ _ _ _ _ _ h=>h.elim⟩
theorem seen_none3 {fn:FuncId}:seen P fn #[]=#[]:=rfl
theorem apply_comm {fr:Frame} {cs:List Frame} {x:Sem Go.Next} {w:World} {cases:Array CommCase} {b:Bool} {sh:CommShape} (h:x.runT P w #[]=(.ok (.comm cases b sh) w,#[])):stepG.apply P true fr cs none x w = .comm (G fr cs) cases b sh w #[]:=by
  simp only[stepG.apply,if_true,h,ite_self,seen_none3,GStep.after];rfl
theorem apply_spawn {fr:Frame} {cs:List Frame} {x:Sem Go.Next} {w:World} {f:Fn} {cap:Array Value} {args:Array Value} (h:x.runT P w #[]=(.ok (.spawn { target:=.fn f cap,args }) w,#[])):stepG.apply P true fr cs none x w = .spawn (G (fr.finish undef) cs) (startG P { target:=.fn f cap,args }) w #[]:=by
  simp only[stepG.apply,if_true,h,ite_self,seen_none3,GStep.after];simp[startG,G]
theorem stepG_send {b:Bool} {ops:Array Oper} {i:Nat} {rest:List Nat} {o:Oper} {ch x:Operand} {tmps:Array Value} {defs:List Deferred} {kind:CallKind} {cs:List Frame} {m:Mo} {env:Env} {kn:Know} {c:Nat} (ho:ops[i]? = some o) (hop:o.op = .send ch x) (hs:tmps.size=n) (he:EnvRel kn tmps env) (hw:Wanted ops n env o)
    (hok:Oper.ok n o=true) (hch:aeval env ch = .chan c) (w:World) :
    ∃ v,V kn v (aeval env x)∧stepG P m.main (G ⟨fid,tmps,.inRegion ops (i :: rest) :: k,defs,.run,kind,ro⟩ cs) w = .comm (G ⟨fid,tmps,.inRegion ops (i :: rest) :: k,defs,.run,kind,ro⟩ cs) #[scase c v (.tuple #[])] true .send w #[] ∧
      v=Frame.eval ⟨fid,tmps,.inRegion ops (i :: rest) :: k,defs,.run,kind,ro⟩ x:=by
  have hops:∀ y∈o.op.operands,V kn (Frame.eval ⟨fid,tmps,.inRegion ops (i :: rest) :: k,defs,.run,kind,ro⟩ y) (aeval env y):=fun y hy=>by
    refine V.eval he hs y ?_;simp only[Oper.ok,Bool.and_eq_true,Array.all_eq_true_iff_forall_mem] at hok;exact hok.1 y hy
  have hc:=hops ch (by rw[hop];simp[Op.operands])
  have hx:=hops x (by rw[hop];simp[Op.operands])
  rw[hch] at hc;generalize hv:Frame.eval ⟨fid,tmps,.inRegion ops (i :: rest) :: k,defs,.run,kind,ro⟩ ch=vc at hc;cases hc;refine⟨_,hx,?_,rfl⟩;rw[stepG_oper' ho (wanted_of hs he hw) (.inr fun c e=>by rw[hop] at e;cases e) w]
  have he':execOp (Frame.eval ⟨fid,tmps,.inRegion ops (i :: rest) :: k,defs,.run,kind,ro⟩) o=pure (.comm #[scase c (Frame.eval ⟨fid,tmps,.inRegion ops (i :: rest) :: k,defs,.run,kind,ro⟩ x) (.tuple #[])] true .send):=by
    simp[execOp,hop,hv,scase]
  rw[he']
  by_cases hk:(kind == CallKind.early)=true <;> simp[stepG.apply,Sem.runT,seen,hk,GStep.after,G]
theorem runT_underlying {α:Type} {f:TypeDesc->Sem α} {t:TypeId} {d:TypeDesc} {w:World} {es:Array Event} (h:P.underlying t=some d):(underlying t >>= f).runT P w es=(f d).runT P w es:=by
  unfold underlying;show Sem.runT P ((match P.underlying t with|some d=>pure d|none=>stuck  "no such type") >>= f) w es=_
  rw[h];rfl
theorem runT_zeroValue {α:Type} {f:Value->Sem α} {t:TypeId} {info:TypeInfo} {z:Value} {w:World} {es:Array Event} (h:P.info? t=some info) (hz:info.zero=some z):(zeroValue t >>= f).runT P w es=(f z).runT P w es:=by
  unfold zeroValue typeInfo;show Sem.runT P ((do let i ← (match P.info? t with|some i=>pure i|none=>stuck  "no such type");match i.zero with|some v=>pure v|none=>unsupported (.resourceLimit  "a value of more than 2^22 cells")) >>= f) w es=_
  rw[h];show Sem.runT P ((match info.zero with|some v=>pure v|none=>unsupported (.resourceLimit  "a value of more than 2^22 cells")) >>= f) w es=_
  rw[hz];rfl
theorem stepG_recv (L:Lay P) {ok:Bool} {ops:Array Oper} {i:Nat} {rest:List Nat} {o:Oper} {ct ce:Nat} {ic ie:TI} {ch:Operand} {tmps:Array Value} {defs:List Deferred} {kind:CallKind} {cs:List Frame} {m:Mo} {env:Env} {kn:Know} {c:Nat} (ho:ops[i]? = some o) (hop:o.op = .recv ct ch ok) (hct:L.tt ct=some ic) (hck:ic.kind = .chan ce) (hce:L.tt ce=some ie)
    (hs:tmps.size=n) (he:EnvRel kn tmps env) (hw:Wanted ops n env o) (hok:Oper.ok n o=true) (hch:aeval env ch = .chan c) (w:World) :
    stepG P m.main (G ⟨fid,tmps,.inRegion ops (i :: rest) :: k,defs,.run,kind,ro⟩ cs) w = .comm (G ⟨fid,tmps,.inRegion ops (i :: rest) :: k,defs,.run,kind,ro⟩ cs) #[rcase c ie.zero] true (.recv ok) w #[]:=by
  have hc:V kn (Frame.eval ⟨fid,tmps,.inRegion ops (i :: rest) :: k,defs,.run,kind,ro⟩ ch) (aeval env ch):=by
    refine V.eval he hs ch ?_;simp only[Oper.ok,Bool.and_eq_true,Array.all_eq_true_iff_forall_mem] at hok;exact hok.1 ch (by rw[hop];simp[Op.operands])
  rw[hch] at hc;generalize hv:Frame.eval ⟨fid,tmps,.inRegion ops (i :: rest) :: k,defs,.run,kind,ro⟩ ch=vc at hc;cases hc;rw[stepG_oper' ho (wanted_of hs he hw) (.inr fun c e=>by rw[hop] at e;cases e) w]
  obtain⟨⟨d,hd1,hd2⟩,_⟩:=L.facts hct;obtain⟨dir,rfl⟩:=kind_chan hd2 hck;obtain⟨_,info,hi1,_,_,hi4,_⟩:=L.facts hce
  have he':(execOp (Frame.eval ⟨fid,tmps,.inRegion ops (i :: rest) :: k,defs,.run,kind,ro⟩) o).runT P w #[]=(.ok (.comm #[rcase c ie.zero] true (.recv ok)) w,#[]):=by
    simp only[execOp,hop,hv];rw[runT_underlying hd1];simp only;rw[runT_zeroValue hi1 hi4];rfl
  exact apply_comm he'
theorem stepG_go {ops:Array Oper} {i:Nat} {rest:List Nat} {o:Oper} {fo:Operand} {args:Array Operand} {tys:Array TypeId} {f:Fn} {first cap:List AV} {tmps:Array Value} {defs:List Deferred} {kind:CallKind} {cs:List Frame} {m:Mo} {env:Env} {kn:Know} (ho:ops[i]? = some o) (hop:o.op = .go ⟨.value fo,args,tys⟩)
    (hs:tmps.size=n) (he:EnvRel kn tmps env) (hw:Wanted ops n env o) (hok:Oper.ok n o=true) (hfo:aeval env fo = .fn f first cap) :
    ∃ cc ca,Vs kn cc cap∧Vs kn ca (first ++ args.toList.map (aeval env))∧∀ w,stepG P m.main (G ⟨fid,tmps,.inRegion ops (i :: rest) :: k,defs,.run,kind,ro⟩ cs) w =
      .spawn (G (Frame.finish ⟨fid,tmps,.inRegion ops (i :: rest) :: k,defs,.run,kind,ro⟩ undef) cs) (startG P { target:=.fn f cc.toArray,args:=ca.toArray }) w #[]:=by
  have hops:∀ x∈o.op.operands,V kn (Frame.eval ⟨fid,tmps,.inRegion ops (i :: rest) :: k,defs,.run,kind,ro⟩ x) (aeval env x):=fun x hx=>by
    refine V.eval he hs x ?_;simp only[Oper.ok,Bool.and_eq_true,Array.all_eq_true_iff_forall_mem] at hok;exact hok.1 x hx
  have hf:=hops fo (by simp[hop,Op.operands,Call.operands])
  rw[hfo] at hf;generalize hq:Frame.eval _ fo=cf at hf;cases hf with
  | fn _ c1 c2 l1 l2 g1 g2 g3 g4=>
    have hm:=Vs.ofArray (k:=kn) (ρ:=Frame.eval ⟨fid,tmps,.inRegion ops (i :: rest) :: k,defs,.run,kind,ro⟩) (env:=env) (xs:=args) (fun x hx=>hops x (by simp[hop,Op.operands,Call.operands,hx]))
    refine⟨c2.toList,c1.toList ++ (args.map (Frame.eval ⟨fid,tmps,.inRegion ops (i :: rest) :: k,defs,.run,kind,ro⟩)).toList,⟨by simpa using g3,fun i v a hv ha=>g4 i v a (by simpa using hv) ha⟩,Vs.append ⟨by simpa using g1,fun i v a hv ha=>g2 i v a (by simpa using hv) ha⟩ ⟨by simpa using hm.1,fun i v a hv ha=>hm.2 i v a (by simpa using hv) ha⟩,fun w=>?_⟩
    rw[stepG_oper' ho (wanted_of hs he hw) (.inr fun c e=>by rw[hop] at e;cases e) w]
    refine (apply_spawn (f:=f) (cap:=c2) (args:=c1 ++ args.map (Frame.eval ⟨fid,tmps,.inRegion ops (i :: rest) :: k,defs,.run,kind,ro⟩)) ?_).trans ?_
    . simp only[execOp,hop,resolve,hq,Deferred.ofValue]
      rfl
    . have e1:∀ x:Array Value,(c1.toList ++ x.toList).toArray=c1 ++ x:=fun x=>by apply Array.ext';simp
      rw[e1,Array.toArray_toList]
theorem call_T {m:Mo} {Q:Know->OwnM->Goroutine->Prop} {kk:Know} {O:OwnM} {tmps:Array Value} {defs:List Deferred} {kind:CallKind} {cs:List Frame} {f:FuncId} {fn:Func} {ops:Array Oper} {i:Nat} {rest:List Nat} {o:Oper} {args:Array Operand} {tys:Array TypeId} (ho:ops[i]? = some o) (hop:o.op = .call ⟨.value (.func f),args,tys⟩) (hw:Wanted ops n s.env o) (hok:Oper.ok n o=true)
    (hf:P.funcs[f]? = some fn) (hb:fn.body.isSome=true) (hnm:(fn.name ==  "runtime.NumGoroutine")=false) (h2:SRel n kk O tmps defs kind cs s)
    (h:∀ cargs,Vs kk cargs (args.toList.map (aeval s.env))->T P m Q kk O (G (Frame.enter P f cargs.toArray .normal) (⟨fid,tmps,.inRegion ops (i :: rest) :: k,defs,.run,kind,ro⟩ :: csOf s.rc cs))):T P m Q kk O (G ⟨fid,tmps,.inRegion ops (i :: rest) :: k,defs,.run,kind,ro⟩ (csOf s.rc cs)):=by
  refine T.ofApply (fun w=>stepG_oper' ho (wanted_of h2.size h2.env hw) (.inr fun c e=>by rw[hop] at e;cases e) w) (apply_of_swp ?_)
  have hops:∀ x∈o.op.operands,V kk (Frame.eval ⟨fid,tmps,.inRegion ops (i :: rest) :: k,defs,.run,kind,ro⟩ x) (aeval s.env x):=fun x hx=>by
    refine V.eval h2.env h2.size x ?_;simp only[Oper.ok,Bool.and_eq_true,Array.all_eq_true_iff_forall_mem] at hok;exact hok.1 x hx
  have hm:=Vs.ofArray (k:=kk) (ρ:=Frame.eval ⟨fid,tmps,.inRegion ops (i :: rest) :: k,defs,.run,kind,ro⟩) (env:=s.env) (xs:=args) (fun x hx=>hops x (by simp[hop,Op.operands,Call.operands,hx]))
  have hb':fn.body.isNone=false:=by cases hx:fn.body <;> simp_all
  simp only[execOp,hop,resolve];refine swp_bind' ?_;show swp P (Deferred.ofValue (.func (.func f) #[] #[]) _) kk O _ _;simp only[Deferred.ofValue];refine swp_pure ?_;simp only[invoke,callFunc];refine swp_bind' (swp_program ?_);rw[hf];simp only[hnm,hb',Bool.false_eq_true,if_false];refine swp_pure fun _=>⟨fun d w r s l=>by simp,?_⟩
  have:=h (args.map (Frame.eval ⟨fid,tmps,.inRegion ops (i :: rest) :: k,defs,.run,kind,ro⟩)).toList ⟨by simpa using hm.1,fun i v a hv ha=>hm.2 i v a (by simpa using hv) ha⟩
  have key:∀ x:Array Value,x=(args.map (Frame.eval ⟨fid,tmps,.inRegion ops (i :: rest) :: k,defs,.run,kind,ro⟩)).toList.toArray->T P m Q kk O (G (Frame.enter P f x .normal) (⟨fid,tmps,.inRegion ops (i :: rest) :: k,defs,.run,kind,ro⟩ :: csOf s.rc cs)):=fun x e=>by rw[e];exact this
  refine key _ ?_;apply Array.ext';simp
def FinOK (P:Program) (m:Mo) (fid n:Nat) (ro:Option Nat) (K:Exit->St->Prop) (kd:CallKind) (cs0:List Frame) (k0:Know) (Fin:Know->OwnM->Goroutine->Prop):Prop:=
  ∀ todo s k' O' tmps defs,Go P m fid n ro todo s K->s.rc = .no->SRel n k' O' tmps defs kd cs0 s->k0.Le k'->Fin k' O' (G ⟨fid,tmps,todo,defs,.run,kd,ro⟩ cs0)
theorem Go.addM {m:Nat} {ops:Array Oper} {i:Nat} {rest:List Nat} {o:Oper} {args:Array Operand} {tys:Array TypeId} {fn:Func} (ho:ops[i]? = some o) (hop:o.op = .call ⟨.value (.func A.ng.add),args,tys⟩) (hw:Wanted ops n s.env o) (hok:Oper.ok n o=true)
    (hf:P.funcs[A.ng.add]? = some fn) (hb:fn.body.isSome=true) (hnm:(fn.name ==  "runtime.NumGoroutine")=false) (ha:args.toList.map (aeval s.env)=[.ref A.gb 0,.lit (.int .i64 1)])
    (h:Go P (moS P A Fin m) fid n ro (.inRegion ops rest :: k) { s with env:=putA s.env o.dst (.tup []) } (fun _ _=>False)):Go P (moA P A Fin (m+1)) fid n ro (.inRegion ops (i :: rest) :: k) s K:=by
  intro Q kk O tmps defs kind cs h1 h2 h3;refine call_T ho hop hw hok hf hb hnm h2 fun cargs hv=>?_
  rw[ha] at hv;obtain⟨hl,hvv⟩:=hv
  have e:cargs.toArray=#[.pointer (some ⟨A.gb,0,none⟩),.int .i64 1]:=by
    match cargs,hl,hvv with
    | [x,y],_,hvv=>
      have h0:=hvv 0 x _ rfl rfl;have h1:=hvv 1 y _ rfl rfl;cases h0;cases h1;rfl
  rw[e];refine .talk noQ rfl ⟨rfl,_,_,rfl,?_⟩ (fun _ _ _ h=>h.elim)
  obtain⟨tmps',e1,e2⟩:=h2.put (fid:=fid) (ro:=ro) (rest:=rest) (kk:=k) (σ':=s.σ) (v:=.tuple #[]) (a:=.tup []) (.refl kk) ho (.tup _ _ rfl fun i v a h=>by simp at h) h2.rel
  show T P (moS P A Fin m) noQ kk O (G (Frame.finish ⟨fid,tmps,.inRegion ops (i :: rest) :: k,defs,.run,kind,ro⟩ (.tuple #[])) (csOf s.rc cs));rw[e1];exact h noQ kk O tmps' defs kind cs h1 e2 .none
def awayσ (b:Nat):Store:=fun c=>if c=b then some .away else none
theorem child_T {m:Mo} {f:FuncId} {fn:Func} {body:Code} {cap args:List AV} {σ0:Store} {KE:Know->Exit->St->Prop} (hf:P.funcs[f]? = some fn) (hb:fn.body=some body) (hnm:(fn.name ==  "runtime.NumGoroutine")=false) (hn:(args ++ cap).length≤fn.ntmps) {kk:Know} (hσ:Rel kk OwnM.bot σ0)
    (hK:Cont P m noQ f fn.ntmps none .deferred [botG P] (KE kk) kk)
    (h:∀ k0,Go P m f fn.ntmps none [.code body] ⟨argsEnv (args ++ cap),σ0,[],.told .deferred [botG P] k0⟩ (KE k0)) {cc ca:List Value} (hcc:Vs kk cc cap) (hca:Vs kk ca args) :
    T P m noQ kk OwnM.bot (startG P { target:=.fn (.func f) cc.toArray,args:=ca.toArray }):=by
  have hb':fn.body.isNone=false:=by simp[hb]
  have hinv:∀ w,(invoke (.fn (.func f) cc.toArray) ca.toArray).runT P w #[]=(.ok (.enter f (ca ++ cc).toArray) w,#[]):=fun w=>by
    show Sem.runT P (callFunc f (ca.toArray ++ cc.toArray)) w #[]=_;unfold callFunc;rw[runT_program_bind,hf];simp only[hnm,hb',Bool.false_eq_true,if_false];simp
  refine T.silent (g':=G (Frame.enter P f (ca ++ cc).toArray .deferred) [botG P]) rfl (fun w=>?_) ?_
  . simp only[startG,G,stepG,unwind,callDeferred,hinv]
    simp;rfl
  . have hargs:=hca.append hcc
    have e:Frame.enter P f (ca ++ cc).toArray .deferred=⟨f,(ca ++ cc).toArray ++ Array.replicate (fn.ntmps-(ca ++ cc).length) undef,[.code body],[],.run,.deferred,none⟩:=by
      simp[Frame.enter,hf,hb]
    have hsz:((ca ++ cc).toArray ++ Array.replicate (fn.ntmps-(ca ++ cc).length) undef).size=fn.ntmps:=by
      have:=hargs.1;simp at this hn ⊢;omega
    rw[e];exact h kk noQ kk OwnM.bot _ [] .deferred [botG P] (by simp) ⟨hsz,enter_rel hargs _,hσ,trivial,rfl,rfl,.refl kk⟩ hK
def EndW (P:Program) (A:Mart) (fn:Func):Exit->St->Prop:=fun e s=>fn.results=#[]∧(e = .leave none∨e = .leave (some .ret))∧(∃ k0,s.rc = .told .deferred [botG P] k0)∧∃ r,s.D=[.mark r,.call (.func A.ng.done) [] [.ref A.gb 0]]∧s.σ r=some (.raw (.deferred (some [])))
theorem endW_cont {f:FuncId} {fn fd:Func} (hf:P.funcs[f]? = some fn) (hfd:P.funcs[A.ng.done]? = some fd) (hbd:fd.body.isSome=true) (hnmd:(fd.name ==  "runtime.NumGoroutine")=false) {kk:Know}:Cont P (moW0 P A) noQ f fn.ntmps none .deferred [botG P] (EndW P A fn) kk where
  leave k' O' tmps defs s todo jump hle hs hl hK:=by
    obtain⟨hres,hj,⟨k0,hrc⟩,r,hD,hr⟩:=hK;obtain⟨env,σ,D,rc⟩:=s;simp only at hrc hD hr;subst hrc hD;show T P (moW0 P A) noQ k' O' (G ⟨f,tmps,todo,defs,.run,.deferred,none⟩ [botG P]);have hds:=hs.ds
    match defs,hds with
    | [d1,d2],⟨q1,q2,_⟩=>
      simp only[DefRel] at q1 q2;obtain⟨cc,ca,rfl,hcc,hca⟩:=q2;subst q1;have e1:cc=#[]:=by have:=hcc.1;simpa using this
      have e2:ca=#[.pointer (some ⟨A.gb,0,none⟩)]:=by
        obtain⟨v,hv,hvv⟩:=Vs.one hca;cases hvv;apply Array.ext';simpa using hv
      subst e1 e2;refine T.silent (g':=G ⟨f,tmps,todo,[{ target:=.collected r,args:=#[] },{ target:=.fn (.func A.ng.done) #[],args:=#[.pointer (some ⟨A.gb,0,none⟩)] }],.returning,.deferred,none⟩ [botG P]) rfl (fun w=>?_) ?_
      . rcases hl with ⟨rfl,rfl⟩|⟨kk,rfl,rfl⟩|⟨_,_,_,_,rfl⟩
        . simp[G,stepG,stepG.exec]
        . simp[G,stepG,stepG.exec]
        . simp at hj
      . refine T.ofSem (fid:=f) (s:=Instr.takeDeferred r) rfl (K:=fun calls k2 O2=>calls=[]∧k2=k') (nxt:=fun calls w => .go (G ⟨f,tmps,todo,calls ++ [{ target:=.fn (.func A.ng.done) #[],args:=#[.pointer (some ⟨A.gb,0,none⟩)] }],.returning,.deferred,none⟩ [botG P]) w) ?_ ?_ ?_
        . rintro calls k2 O2 w' _ _ ⟨rfl,rfl⟩
          refine⟨_,rfl,?_⟩
          have hinv:∀ w,(invoke (.fn (.func A.ng.done) #[]) #[.pointer (some ⟨A.gb,0,none⟩)]).runT P w #[]=(.ok (.enter A.ng.done #[.pointer (some ⟨A.gb,0,none⟩)]) w,#[]):=fun w=>by
            show Sem.runT P (callFunc A.ng.done _) w #[]=_;unfold callFunc;have hb':fd.body.isNone=false:=by cases hx:fd.body <;> simp_all
            rw[runT_program_bind,hfd];simp only[hnmd,hb',Bool.false_eq_true,if_false];simp
          refine T.silent (g':=G (Frame.enter P A.ng.done #[.pointer (some ⟨A.gb,0,none⟩)] .deferred) [wEnd P f tmps todo,botG P]) rfl (fun w=>?_) ?_
          . simp only[G,stepG,unwind,callDeferred,hinv,List.nil_append]
            simp;rfl
          . exact .talk noQ rfl ⟨rfl,f,fn,tmps,todo,hf,hres,rfl⟩ (fun _ _ _ h=>h.elim)
        . intro w v w' hrun
          simp only[G,stepG,unwind];rw[show (Instr.takeDeferred r).runT P w #[]=(((Instr.takeDeferred r).runT P w #[]).1,((Instr.takeDeferred r).runT P w #[]).2) from rfl,hrun]
        . obtain⟨x,hx,hxr⟩:=hs.rel.1 r _ hr (by simp)
          cases hxr with
          | raw _ hc=>
            unfold Instr.takeDeferred;refine swp_bind' (s:=getObj r) ⟨_,hx,rfl,?_⟩;exact swp_bind' (s:=setObj r _) ⟨⟨_,hx,rfl⟩,rfl,swp_pure ⟨rfl,rfl⟩⟩
  panic k' O' tmps defs s todo cv av hle hs hcv hK:=by
    obtain⟨_,h|h,_⟩:=hK <;> cases h
theorem away_bot {kk:Know} {O:OwnM} {σ:Store} {b:Nat} (hr:Rel kk O σ) (h:σ b=some .away):Rel kk OwnM.bot (awayσ b):=by
  refine⟨fun c a e hn=>?_,fun c e=>?_⟩
  . unfold awayσ at e
    split at e
    . cases e;exact absurd rfl hn
    . cases e
  . unfold awayσ at e
    split at e
    . next q=>subst q;exact⟨rfl,(hr.2 _ h).2⟩
    . cases e
theorem Go.goW {m:Nat} {ops:Array Oper} {i:Nat} {rest:List Nat} {o:Oper} {fo:Operand} {args:Array Operand} {tys:Array TypeId} {f:FuncId} {fn:Func} {body:Code} {first cap:List AV} (ho:ops[i]? = some o) (hop:o.op = .go ⟨.value fo,args,tys⟩) (hw:Wanted ops n s.env o) (hok:Oper.ok n o=true)
    (hfo:aeval s.env fo = .fn (.func f) first cap) (hf:P.funcs[f]? = some fn) (hb:fn.body=some body) (hnm:(fn.name ==  "runtime.NumGoroutine")=false) (hn:((first ++ args.toList.map (aeval s.env)) ++ cap).length≤fn.ntmps) (hσ:s.σ A.fb=some .away)
    (hc:∀ k0,Go P (moW1 P A (A.n-(m+1))) f fn.ntmps none [.code body] ⟨argsEnv ((first ++ args.toList.map (aeval s.env)) ++ cap),awayσ A.fb,[],.told .deferred [botG P] k0⟩ (fun _ _=>False))
    (h:Go P (moA P A Fin m) fid n ro (.inRegion ops rest :: k) { s with env:=putA s.env o.dst .junk } (fun _ _=>False)):Go P (moS P A Fin m) fid n ro (.inRegion ops (i :: rest) :: k) s K:=by
  intro Q kk O tmps defs kind cs h1 h2 h3;obtain⟨cc,ca,hcc,hca,hst⟩:=stepG_go (P:=P) (fid:=fid) (k:=k) (rest:=rest) (defs:=defs) (kind:=kind) (ro:=ro) (cs:=csOf s.rc cs) (m:=moS P A Fin m) ho hop h2.size h2.env hw hok hfo;obtain⟨tmps',e1,e2⟩:=h2.put (fid:=fid) (ro:=ro) (rest:=rest) (kk:=k) (σ':=s.σ) (.refl kk) ho (.junk undef) h2.rel;refine .talk noQ rfl ⟨rfl,_,_,fun w _=>hst w,child_T (KE:=fun _ _ _=>False) hf hb hnm hn (away_bot h2.rel hσ) .none hc hcc hca,?_⟩ (fun _ _ _ h=>h.elim)
  rw[e1];exact h noQ kk O tmps' defs kind cs h1 e2 .none
theorem Go.goC {ops:Array Oper} {i:Nat} {rest:List Nat} {o:Oper} {fo:Operand} {args:Array Operand} {tys:Array TypeId} {f:FuncId} {fn:Func} {body:Code} {first cap:List AV} (ho:ops[i]? = some o) (hop:o.op = .go ⟨.value fo,args,tys⟩) (hw:Wanted ops n s.env o) (hok:Oper.ok n o=true)
    (hfo:aeval s.env fo = .fn (.func f) first cap) (hf:P.funcs[f]? = some fn) (hb:fn.body=some body) (hnm:(fn.name ==  "runtime.NumGoroutine")=false) (hn:((first ++ args.toList.map (aeval s.env)) ++ cap).length≤fn.ntmps) (hσ:s.σ A.fb=some .away)
    (hc:∀ k0,Go P (moC1 P A) f fn.ntmps none [.code body] ⟨argsEnv ((first ++ args.toList.map (aeval s.env)) ++ cap),awayσ A.fb,[],.told .deferred [botG P] k0⟩ (fun _ _=>False))
    (h:Go P (moR P A Fin A.n (List.range A.n)) fid n ro (.inRegion ops rest :: k) { s with env:=putA s.env o.dst .junk } (fun _ _=>False)):Go P (moA P A Fin 0) fid n ro (.inRegion ops (i :: rest) :: k) s K:=by
  intro Q kk O tmps defs kind cs h1 h2 h3;obtain⟨cc,ca,hcc,hca,hst⟩:=stepG_go (P:=P) (fid:=fid) (k:=k) (rest:=rest) (defs:=defs) (kind:=kind) (ro:=ro) (cs:=csOf s.rc cs) (m:=moA P A Fin 0) ho hop h2.size h2.env hw hok hfo;obtain⟨tmps',e1,e2⟩:=h2.put (fid:=fid) (ro:=ro) (rest:=rest) (kk:=k) (σ':=s.σ) (.refl kk) ho (.junk undef) h2.rel;refine .talk noQ rfl ⟨rfl,_,_,fun w _=>hst w,child_T (KE:=fun _ _ _=>False) hf hb hnm hn (away_bot h2.rel hσ) .none hc hcc hca,?_⟩ (fun _ _ _ h=>h.elim)
  rw[e1];exact h noQ kk O tmps' defs kind cs h1 e2 .none
theorem Go.sendM {j:Nat} {ops:Array Oper} {i:Nat} {rest:List Nat} {o:Oper} {ch x:Operand} {fn fd:Func} {k0:Know} (ho:ops[i]? = some o) (hop:o.op = .send ch x) (hok:Oper.ok n o=true) (hw:Wanted ops n s.env o) (hch:aeval s.env ch = .chan A.cF) (hx:aeval s.env x=A.res j)
    (hσ:s.σ A.fb=some .away) (hrc:s.rc = .told .deferred [botG P] k0) (hro:ro=none) (hf:P.funcs[fid]? = some fn) (hn:n=fn.ntmps) (hfd:P.funcs[A.ng.done]? = some fd) (hbd:fd.body.isSome=true) (hnmd:(fd.name ==  "runtime.NumGoroutine")=false)
    (h:Go P (moW0 P A) fid n ro (.inRegion ops rest :: k) { s with env:=putA s.env o.dst (.lit undef) } (EndW P A fn)):Go P (moW1 P A j) fid n ro (.inRegion ops (i :: rest) :: k) s K:=by
  intro Q kk O tmps defs kind cs h1 h2 h3;have hrel:=h2.rc;rw[hrc] at hrel;obtain⟨rfl,rfl,hk0⟩:=hrel;subst hro hn;obtain⟨tmps',e1,e2⟩:=h2.put (fid:=fid) (ro:=none) (rest:=rest) (kk:=k) (σ':=s.σ) (.refl kk) ho (.lit undef) h2.rel;have ht:=h noQ kk O tmps' defs .deferred [botG P] h1 e2 (endW_cont hf hfd hbd hnmd);refine .talk noQ rfl (.inr (.inr ⟨rfl,(h2.rel.2 _ hσ).1,G ⟨fid,tmps,.inRegion ops (i :: rest) :: k,defs,.run,.deferred,none⟩ (csOf s.rc [botG P]),.tuple #[],Frame.eval ⟨fid,tmps,.inRegion ops (i :: rest) :: k,defs,.run,.deferred,none⟩ x,fun w _=>?_,?_,?_⟩)) (fun _ _ _ h=>h.elim)
  . obtain⟨v,_,e,rfl⟩:=stepG_send (P:=P) (m:=moW1 P A j) (b:=false) ho hop h2.size h2.env hw hok hch w (fid:=fid) (ro:=none) (k:=k) (rest:=rest) (defs:=defs) (kind:=.deferred) (cs:=csOf s.rc [botG P])
    exact e
  . obtain⟨v,hv,_,rfl⟩:=stepG_send (P:=P) (m:=moW1 P A j) (b:=false) ho hop h2.size h2.env hw hok hch default (fid:=fid) (ro:=none) (k:=k) (rest:=rest) (defs:=defs) (kind:=.deferred) (cs:=csOf s.rc [botG P])
    rw[← hx];exact hv
  . show T P (moW0 P A) noQ kk O (G (Frame.finish ⟨fid,tmps,.inRegion ops (i :: rest) :: k,defs,.run,.deferred,none⟩ undef) (csOf s.rc [botG P]))
    rw[e1];exact ht
theorem Go.waitM {ops:Array Oper} {i:Nat} {rest:List Nat} {o:Oper} {args:Array Operand} {tys:Array TypeId} {fn:Func} (ho:ops[i]? = some o) (hop:o.op = .call ⟨.value (.func A.ng.wait),args,tys⟩) (hw:Wanted ops n s.env o) (hok:Oper.ok n o=true)
    (hf:P.funcs[A.ng.wait]? = some fn) (hb:fn.body.isSome=true) (hnm:(fn.name ==  "runtime.NumGoroutine")=false) (ha:args.toList.map (aeval s.env)=[.ref A.gb 0])
    (h:Go P (moC0 P A) fid n ro (.inRegion ops rest :: k) { s with env:=putA s.env o.dst (.tup []) } (fun _ _=>False)):Go P (moC1 P A) fid n ro (.inRegion ops (i :: rest) :: k) s K:=by
  intro Q kk O tmps defs kind cs h1 h2 h3;refine call_T ho hop hw hok hf hb hnm h2 fun cargs hv=>?_
  rw[ha] at hv;obtain⟨v,rfl,hvv⟩:=Vs.one hv;cases hvv;refine .talk noQ rfl ⟨rfl,_,_,rfl,fun k' hle=>?_⟩ (fun _ _ _ h=>h.elim)
  obtain⟨tmps',e1,e2⟩:=h2.put (fid:=fid) (ro:=ro) (rest:=rest) (kk:=k) (σ':=s.σ) (v:=.tuple #[]) (a:=.tup []) hle ho (.tup _ _ rfl fun i v a h=>by simp at h) (h2.rel.mono hle)
  show T P (moC0 P A) noQ k' O (G (Frame.finish ⟨fid,tmps,.inRegion ops (i :: rest) :: k,defs,.run,kind,ro⟩ (.tuple #[])) (csOf s.rc cs));rw[e1];exact h noQ k' O tmps' defs kind cs h1 e2 .none
theorem runT_close {c s r:Nat} {tm:Bool} {w:World} {tys:Array TypeId} {ty:TypeId} {cs:Array Bool} (h:w.heap[c]? = some (.chan 0 #[] false s r tm)) :
    (invoke (.builtin .close tys ty cs) #[.chan (some c)]).runT P w #[]=(.ok (.value (.tuple #[])) { w with heap:=w.heap.setIfInBounds c (.chan 0 #[] true s r tm) },#[⟨.obj c,false,true⟩,⟨.obj c,true,true⟩]):=by
  change Sem.runT P (Sem.getObj c _) w #[]=_
  rw[Sem.runT,h]
  change Sem.runT P (Sem.setObj c _ _) w _=_
  rw[Sem.runT,h];rfl
theorem apply_value {fr:Frame} {cs:List Frame} {x:Sem Go.Next} {w w':World} {v:Value} {es:Array Event} (hk:(fr.kind == .early)=false) (h:x.runT P w #[]=(.ok (.value v) w',es)) (hs:seen P fr.fn es=es):stepG.apply P true fr cs none x w = .go (G (fr.finish v) cs) w' es:=by
  simp only[stepG.apply,if_true,h,hk,GStep.after];simp[hs,G]
theorem Go.closeM {ops:Array Oper} {i:Nat} {rest:List Nat} {o:Oper} {ch:Operand} {tys:Array TypeId} {fn:Func} {k0:Know} (ho:ops[i]? = some o) (hop:o.op = .call ⟨.builtin .close,#[ch],tys⟩) (hok:Oper.ok n o=true) (hg:o.guard=none) (hch:aeval s.env ch = .chan A.cF)
    (hrc:s.rc = .told .deferred [botG P] k0) (hD:s.D=[]) (hro:ro=none) (hf:P.funcs[fid]? = some fn) (hr:fn.results=#[]) (hc:(Item.inRegion ops rest :: k).all calmI=true):Go P (moC0 P A) fid n ro (.inRegion ops (i :: rest) :: k) s K:=by
  intro Q kk O tmps defs kind cs h1 h2 h3;obtain⟨env,σ,D,rc⟩:=s;simp only at hrc hD;subst hrc;subst hD;subst hro;obtain⟨rfl,rfl,hk0⟩:=h2.rc;have hdefs:defs=[]:=by cases defs with|nil=>rfl|cons _ _=>exact h2.ds.elim
  subst hdefs;obtain⟨tmps',e1,e2⟩:=h2.put (fid:=fid) (ro:=none) (rest:=rest) (kk:=k) (σ':=σ) (v:=.tuple #[]) (.refl kk) ho (.junk _) h2.rel;obtain⟨N,hq⟩:=quits_tail (tmps:=tmps') hf hr _ hc
  have hv:V kk (Frame.eval ⟨fid,tmps,.inRegion ops (i :: rest) :: k,[],.run,.deferred,none⟩ ch) (aeval env ch):=by
    refine V.eval h2.env h2.size ch ?_;simp only[Oper.ok,Bool.and_eq_true,Array.all_eq_true_iff_forall_mem] at hok;exact hok.1 ch (by rw[hop];simp[Op.operands,Call.operands])
  simp only at hch;rw[hch] at hv;generalize hvc:Frame.eval ⟨fid,tmps,.inRegion ops (i :: rest) :: k,[],.run,.deferred,none⟩ ch=vc at hv;cases hv;refine .talk noQ rfl ⟨rfl,G (Frame.finish ⟨fid,tmps,.inRegion ops (i :: rest) :: k,[],.run,.deferred,none⟩ (.tuple #[])) [botG P],N,?_,fun w s r tm hw hch=>?_,?_⟩ (fun _ _ _ h=>h.elim)
  . simp[mayWake,G,csOf,ho,hop]
  . have hwt:Region.wanted o (yielded ops tmps)=true:=by simp[Region.wanted,hg]
    have he':(execOp (Frame.eval ⟨fid,tmps,.inRegion ops (i :: rest) :: k,[],.run,.deferred,none⟩) o).runT P w #[]=(.ok (.value (.tuple #[])) { w with heap:=w.heap.setIfInBounds A.cF (.chan 0 #[] true s r tm) },#[⟨.obj A.cF,false,true⟩,⟨.obj A.cF,true,true⟩]):=by
      simp only[execOp,hop,resolve];have:(#[ch].map (Frame.eval ⟨fid,tmps,.inRegion ops (i :: rest) :: k,[],.run,.deferred,none⟩))=#[.chan (some A.cF)]:=by simp[hvc]
      rw[this];exact runT_close (cs:=#[]) hch
    rw[show csOf (Rec.told CallKind.deferred [botG P] k0) [botG P]=[botG P] from rfl]
    refine (stepG_oper' (m:=moC0 P A) ho hwt (.inl rfl) w).trans ?_;exact apply_value (by simp) he' (by simp[seen])
  . rw[e1]
    exact hq
theorem Go.recvM (L:Lay P) {m:Nat} {R:List Nat} {ops:Array Oper} {i:Nat} {rest:List Nat} {o:Oper} {ct ce:Nat} {ic ie:TI} {ch:Operand} (ho:ops[i]? = some o) (hop:o.op = .recv ct ch true) (hct:L.tt ct=some ic) (hck:ic.kind = .chan ce) (hce:L.tt ce=some ie)
    (hok:Oper.ok n o=true) (hw:Wanted ops n s.env o) (hch:aeval s.env ch = .chan A.cF)
    (h:∀ j∈R,Go P (moR P A Fin m (R.erase j)) fid n ro (.inRegion ops rest :: k) { s with env:=putA s.env o.dst (.tup [A.res j,.lit (.bool true)]) } (fun _ _=>False)):Go P (moR P A Fin (m+1) R) fid n ro (.inRegion ops (i :: rest) :: k) s K:=by
  intro Q kk O tmps defs kind cs g1 g2 g3;have hst:=stepG_recv (P:=P) (fid:=fid) (k:=k) (rest:=rest) (defs:=defs) (kind:=kind) (ro:=ro) (cs:=csOf s.rc cs) (m:=moR P A Fin (m+1) R) L ho hop hct hck hce g2.size g2.env hw hok hch;refine .talk noQ rfl ⟨rfl,_,_,fun w _=>hst w,fun w _=>hst w,rfl,fun j hj k' v hle hv=>?_⟩ (fun _ _ _ h=>h.elim)
  have hval:V k' (.tuple #[v,.bool true]) (.tup [A.res j,.lit (.bool true)]):=.tup _ _ rfl fun i u a hu ha=>by
    match i with
    | 0=>simp at hu ha;subst hu;subst ha;exact hv
    | 1=>simp at hu ha;subst hu;subst ha;exact .lit _
    | i+2=>simp at ha
  obtain⟨tmps',e1,e2⟩:=g2.put (fid:=fid) (ro:=ro) (rest:=rest) (kk:=k) (σ':=s.σ) hle ho hval (g2.rel.mono hle);show T P (moR P A Fin m (R.erase j)) noQ k' O (G (Frame.finish ⟨fid,tmps,.inRegion ops (i :: rest) :: k,defs,.run,kind,ro⟩ _) (csOf s.rc cs));rw[e1];exact h j hj noQ k' O tmps' defs kind cs g1 e2 .none
theorem Go.recvEnd (L:Lay P) {m:Mo} {K':Exit->St->Prop} {kd:CallKind} {cs0:List Frame} {k0:Know} {R:List Nat} {ops:Array Oper} {i:Nat} {rest:List Nat} {o:Oper} {ct ce:Nat} {ic ie:TI} {ch:Operand} (ho:ops[i]? = some o) (hop:o.op = .recv ct ch true) (hct:L.tt ct=some ic) (hck:ic.kind = .chan ce) (hce:L.tt ce=some ie)
    (hok:Oper.ok n o=true) (hw:Wanted ops n s.env o) (hch:aeval s.env ch = .chan A.cF) (hσ:s.σ A.fb=some .away) (hrc:s.rc = .told kd cs0 k0) (hfin:FinOK P m fid n ro K' kd cs0 k0 Fin)
    (h:∀ a,A.GI a->Go P m fid n ro (.inRegion ops rest :: k) { s with env:=putA s.env o.dst (.tup [.junk,.lit (.bool false)]),σ:=(s.σ.set A.mb a).set A.fb (.part (lockEnd A.fo)),rc:=.no } K'):Go P (moR P A Fin 0 R) fid n ro (.inRegion ops (i :: rest) :: k) s K:=by
  intro Q kk O tmps defs kind cs g1 g2 g3;have hst:=stepG_recv (P:=P) (fid:=fid) (k:=k) (rest:=rest) (defs:=defs) (kind:=kind) (ro:=ro) (cs:=csOf s.rc cs) (m:=moR P A Fin 0 R) L ho hop hct hck hce g2.size g2.env hw hok hch;have hrel:=g2.rc;rw[hrc] at hrel;obtain⟨rfl,rfl,hk0⟩:=hrel;refine .talk noQ rfl ⟨rfl,_,_,fun w _=>hst w,fun w _=>hst w,rfl,(g2.rel.2 _ hσ).2,fun k' x a hle hor hgi=>?_⟩ (fun _ _ _ h=>h.elim)
  have hval:V k' (.tuple #[ie.zero,.bool false]) (.tup [.junk,.lit (.bool false)]):=.tup _ _ rfl fun i u a hu ha=>by
    match i with
    | 0=>simp at hu ha;subst hu;subst ha;exact .junk _
    | 1=>simp at hu ha;subst hu;subst ha;exact .lit _
    | i+2=>simp at ha
  obtain⟨tmps',e1,e2⟩:=g2.put (fid:=fid) (ro:=ro) (rest:=rest) (kk:=k) (σ':=(s.σ.set A.mb a).set A.fb (.part (lockEnd A.fo))) (O':=(O.set A.mb x).set A.fb (.part (lockEnd A.fo))) hle ho hval (((g2.rel.mono hle).set hor).set (.part _));show Fin k' _ (G (Frame.finish ⟨fid,tmps,.inRegion ops (i :: rest) :: k,defs,.run,kind,ro⟩ _) (csOf s.rc cs));rw[e1,hrc];exact hfin _ _ k' _ tmps' defs (h a hgi) rfl ⟨e2.size,e2.env,e2.rel,e2.ds,trivial⟩ (hk0.trans hle)
theorem Go.mart {m:Mo} {todo:List Item} (hsolo:m.solo=true) (B:MartP) (C:GrChk P B.ng) (X:GrExt P B.ng) (CM:MuChk P B.nm) (XM:MuExt P B.nm) (F:MuFn P B.nm) {tm:Bool} {a:AObj}
    (hF:s.σ B.cF=some (.raw (.chan 0 #[] false 0 0 tm))) (hG:s.σ B.gb=some (.cells [.lit (.int .u64 0),.lit (.int .u32 0)])) (hL:s.σ B.fb=some (.part (lockEnd B.fo))) (hM:s.σ B.mb=some a) (hna:a ≠ .away) (hgi:B.GI a) (hrc:s.rc = .no)
    (h:∀ (b:Nat) (hb:0<b) (Fin:Know->OwnM->Goroutine->Prop) (kd:CallKind) (cs0:List Frame) (k0:Know),FinOK P m fid n ro K kd cs0 k0 Fin ->
      Go P (moA P (B.at b hb) Fin B.n) fid n ro todo { s with σ:=((((s.σ.del B.cF).del B.gb).del B.mb).set B.fb .away),rc:=.told kd cs0 k0 } (fun _ _=>False)):Go P m fid n ro todo s K:=by
  intro Q kk O tmps defs kind cs h1 h2 h3;rw[hrc];refine T.sat rfl fun ⟨w,hsat⟩=>?_
  obtain⟨xF,oF,rF⟩:=h2.rel.1 _ _ hF (by simp)
  obtain⟨xG,oG,rG⟩:=h2.rel.1 _ _ hG (by simp)
  obtain⟨xM,oM,rM⟩:=h2.rel.1 _ _ hM hna;have oL:=h2.rel.part1 hL;cases rF;cases rG with
  | cells cg eg _ q1 q2 q3=>
    have hg:∀ (i:Nat) (v:Value),([.lit (.int .u64 0),.lit (.int .u32 0)]:List AV)[i]? = some (AV.lit v)->cg[i]? = some v:=fun i v hv=>by
      have hlt:i<cg.size:=by rw[q1];exact (List.getElem?_eq_some_iff.1 hv).1
      have hvv:=q2 i cg[i] _ (by simp[hlt]) hv
      generalize hq:cg[i]=u at hvv;cases hvv;simp[hlt,hq]
    obtain⟨ec,cc,_,hshL,_⟩:=hsat.part _ _ oL;refine .phase (fun k' O' g'=>T P m Q k' O' g') hsolo (fun _ _ _ h=>h) (mart_phase B C X CM XM F oF oG (hg 0 _ rfl) (hg 1 _ rfl) oL oM rM hgi fun b hb=>?_)
    have hfin:FinOK P m fid n ro K kind cs kk (fun k' O' g'=>T P m Q k' O' g'):=fun todo' s' k' O' tmps' defs' hgo hn hs hle=>by
      have:=hgo Q k' O' tmps' defs' kind cs h1 hs (h3.mono hle);rw[hn] at this;exact this
    have hgo:=h b hb _ kind cs kk hfin;refine hgo noQ kk _ tmps defs kind cs h1 ⟨h2.size,h2.env,?_,h2.ds,rfl,rfl,.refl kk⟩ .none;refine⟨fun d y e hy=>?_,fun d e=>?_⟩
    . by_cases d1:d=B.fb
      . subst d1;simp[Store.set] at e;exact absurd e.symm hy
      by_cases d2:d=B.mb
      . subst d2;simp[Store.set,Store.del,d1] at e
      by_cases d3:d=B.gb
      . subst d3;simp[Store.set,Store.del,d1,d2] at e
      by_cases d4:d=B.cF
      . subst d4;simp[Store.set,Store.del,d1,d2,d3] at e
      simp only[Store.set,Store.del,d1,d2,d3,d4,if_false] at e;obtain⟨x,z1,z2⟩:=h2.rel.1 d y e hy;exact⟨x,by simp[MartP.rest,d1,d2,d3,d4,z1],z2⟩
    . by_cases d1:d=B.fb
      . subst d1;exact⟨by simp[MartP.rest],_,hshL⟩
      by_cases d2:d=B.mb
      . subst d2;simp[Store.set,Store.del,d1] at e
      by_cases d3:d=B.gb
      . subst d3;simp[Store.set,Store.del,d1,d2] at e
      by_cases d4:d=B.cF
      . subst d4;simp[Store.set,Store.del,d1,d2,d3] at e
      simp only[Store.set,Store.del,d1,d2,d3,d4,if_false] at e;obtain⟨z1,z2⟩:=h2.rel.2 d e;exact⟨by simp[MartP.rest,d1,d2,d3,d4,z1],z2⟩
end
end Go.Pal
namespace Go.Pal
open Go.Conc
section
variable {P:Program} {m:Mo} {fid n:Nat} {ro:Option Nat} {hold:List Entry} {K:Exit->St->Prop} {todo:List Item}
theorem Go.wenv {env env':Env} {σ:Store} {D:List ADef} {rc:Rec} (hw:∀ t,(env t).W (env' t)) (h:Go P m fid n ro todo ⟨env',σ,D,rc⟩ K):Go P m fid n ro todo ⟨env,σ,D,rc⟩ K:=fun Q k O tmps defs kind cs h1 h2 h3=>
  h Q k O tmps defs kind cs h1 ⟨h2.size,fun t ht=>hw t _ _ (h2.env t ht),h2.rel,h2.ds,h2.rc⟩ h3
theorem Resume.wenv {env env':Env} {σ:Store} {D:List ADef} {rc:Rec} (hw:∀ t,(env t).W (env' t)) (h:Resume P m fid n ro hold todo ⟨env',σ,D,rc⟩ K):Resume P m fid n ro hold todo ⟨env,σ,D,rc⟩ K:=fun hpl=>Go.wenv hw (h hpl)
theorem Resume.wat {env:Env} {σ:Store} {D:List ADef} {rc:Rec} (t:Nat) {a':AV} (hw:(env t).W a') (h:Resume P m fid n ro hold todo ⟨env.upd t a',σ,D,rc⟩ K):Resume P m fid n ro hold todo ⟨env,σ,D,rc⟩ K:=
  Resume.wenv (fun u=>by
    by_cases e:u=t
    . subst e;simpa[Env.upd] using hw
    . simp only[Env.upd,e,if_false];exact .refl _) h
theorem Tok.up {σ0 σ σ':Store} {a:AV} {kk:Nat} {es:List AV} (h:Tok σ0 σ a kk es) (hle:σ.Le σ'):Tok σ0 σ' a kk es:=by
  refine⟨Store.le_trans h.1 hle,?_⟩
  rcases h.2 with h|h|⟨b,e,h1,h2,h3⟩
  . exact .inl h
  . exact .inr (.inl h)
  . exact .inr (.inr ⟨b,e,h1,h2,hle _ _ h3⟩)
theorem Resume.freezeAt {env:Env} {σ:Store} {D:List ADef} {rc:Rec} (t:Nat) {b:Nat} {l:List AV} (v:AV) (hb:σ b=some (.cells l)) (ht:env t = .ref b 0) (hv:v.cells=l) (h:Resume P m fid n ro hold todo ⟨env.upd t (.cp v 0),σ.del b,D,rc⟩ K):Resume P m fid n ro hold todo ⟨env,σ,D,rc⟩ K:=
  Resume.freeze b l hb (fun u=>Fz.upd (t:=t) (a':=.cp v 0) (by
    rw[ht];exact .cp 0 0 v (by rw[hv];simp) (fun j a h=>by rw[hv] at h;simpa using h)) u) (SFz.del _ _ _) h
theorem methOK_own (L:Lay P) {t f:Nat} {name:String} {i:TI} {info:TypeInfo} {mt:Method} {a:AV} (ht:L.tt t=some i) (hi:P.info? t=some info) (hm:info.methods.find? (·.name == name)=some mt) (hp:mt.path.toList=[]) (hf:mt.func=some (f,false)) (hk:i.kind = .struct):MethOK P t name f a a:=by
  intro k O v K Kp hv hK;have hd0:Made.depth≠0:=by decide
  obtain⟨N,hN⟩:∃ N,P.types.size+Made.depth=N+1:=Nat.exists_eq_succ_of_ne_zero (by omega)
  rw[hN];unfold method;refine swp_bind' (swp_typeInfo L ht fun info' hi' _ _ _=>?_)
  rw[hi] at hi';cases hi';simp only[hm,hp];unfold follow;refine swp_bind' (swp_pure ?_);simp only[hf];refine swp_bind' ?_;unfold receiverAt;refine swp_bind' (swp_underlying L ht fun d' _ hd'=>?_)
  obtain⟨fs',rfl,_⟩:=kind_struct' hd' hk;simp only[Place.get];exact swp_pure (swp_pure (hK _ hv))
theorem Store.Le.none {σ σ':Store} (h:σ.Le σ') {b:Nat} (hb:σ' b=Option.none):σ b=Option.none:=by
  cases e:σ b with
  | none=>rfl
  | some x=>rw[h b x e] at hb;cases hb
end
def AObj.plain:AObj->Bool
  | .part _=>false
  | .away=>false
  | .map _=>false
  | _=>true
structure LkM (P:Program) (m:Mo) (nm:MuN) (b o mb:Nat) (kd:IntKind) (GI:List (Int × AV)->Prop) (Un:Store->Prop) (Ld:Store->List (Int × AV)->Prop):Prop where
  lock:∀ {a:AV} {σ:Store} {KF:Res->Store->Prop},AtLock b o a->Un σ->(∀ σ' l,Ld σ' l->GI l->(∀ c,c≠b->c≠mb->σ' c=σ c)->(∀ y,σ mb=some y->y.plain=false)->KF (.val (.tup [])) σ')->FnOK P m nm.lock [a] σ KF
  unlock:∀ {a:AV} {σ:Store} {l:List (Int × AV)} {KF:Res->Store->Prop},AtLock b o a->Ld σ l->GI l->(∀ σ',Un σ'->(∀ c,c≠b->c≠mb->σ' c=σ c)->KF (.val (.tup [])) σ')->FnOK P m nm.unlock [a] σ KF
  map:∀ {σ:Store} {l:List (Int × AV)},Ld σ l->σ mb=some (mapA kd l)
  put:∀ {σ:Store} {l l':List (Int × AV)},Ld σ l->Ld (σ.set mb (mapA kd l')) l'
  un:∀ {σ σ':Store},(∀ c,c=b∨c=mb->(∃ x,σ c=some x∧x.plain=false)->σ' c=σ c)->Un σ->Un σ'
  ld:∀ {σ σ':Store} {l:List (Int × AV)},(∀ c,c=b∨c=mb->(∃ x,σ c=some x∧x.plain=false)->σ' c=σ c)->Ld σ l->Ld σ' l
  unb:∀ {σ:Store},Un σ->∃ x,σ b=some x∧x.plain=false
  ldb:∀ {σ:Store} {l:List (Int × AV)},Ld σ l->∃ x,σ b=some x∧x.plain=false
def UnS (b o mb:Nat) (kd:IntKind) (GI:List (Int × AV)->Prop) (σ:Store):Prop:=σ b=some (.part (lockEnd o))∧∃ l,σ mb=some (mapA kd l)∧GI l
def LdS (b o mb:Nat) (kd:IntKind) (σ:Store) (l:List (Int × AV)):Prop:=σ b=some (.part (lockHeld o))∧σ mb=some (mapA kd l)
def UnW (b:Nat) (σ:Store):Prop:=σ b=some .away
def LdW (b mb:Nat) (kd:IntKind) (σ:Store) (l:List (Int × AV)):Prop:=σ b=some (.part tokF)∧σ mb=some (mapA kd l)
section
variable {P:Program} {nm:MuN} (C:MuChk P nm) (X:MuExt P nm) (F:MuFn P nm)
include C X F in
theorem lkM_solo {m:Mo} (hs:m.solo=true) {b o mb:Nat} (hne:b≠mb) {kd:IntKind} {GI:List (Int × AV)->Prop}:LkM P m nm b o mb kd GI (UnS b o mb kd GI) (LdS b o mb kd) where
  lock {a σ KF} ha hu h:=by
    obtain⟨h1,l,h2,h3⟩:=hu;exact lock_solo C X F hs ha h1 (h _ l ⟨Store.set_same _ _ _,by rw[Store.set_ne _ _ (Ne.symm hne)];exact h2⟩ h3 (fun c hc _=>Store.set_ne _ _ hc) (fun y hy=>by rw[h2] at hy;cases hy;rfl))
  unlock {a σ l KF} ha hl hg h:=unlock_solo C X F hs ha hl.1 (h _ ⟨Store.set_same _ _ _,l,by rw[Store.set_ne _ _ (Ne.symm hne)];exact hl.2,hg⟩ (fun c hc _=>Store.set_ne _ _ hc))
  map h:=h.2
  put {σ l l'} h:=⟨by rw[Store.set_ne _ _ hne];exact h.1,Store.set_same _ _ _⟩
  un {σ σ'} he h:=by
    obtain⟨h1,l,h2,h3⟩:=h;exact⟨by rw[he b (.inl rfl) ⟨_,h1,rfl⟩];exact h1,l,by rw[he mb (.inr rfl) ⟨_,h2,rfl⟩];exact h2,h3⟩
  ld {σ σ' l} he h:=⟨by rw[he b (.inl rfl) ⟨_,h.1,rfl⟩];exact h.1,by rw[he mb (.inr rfl) ⟨_,h.2,rfl⟩];exact h.2⟩
  unb h:=⟨_,h.1,rfl⟩
  ldb h:=⟨_,h.1,rfl⟩
theorem lkM_work {A:Mart} {j:Nat} {kd:IntKind} {GI:List (Int × AV)->Prop} (hG:∀ x,A.GI x ↔ ∃ l,x=mapA kd l∧GI l):LkM P (moW1 P A j) A.nm A.fb A.fo A.mb kd GI (UnW A.fb) (LdW A.fb A.mb kd) where
  lock {a σ KF} ha hu h:=lock_work ha hu fun x hx hm=>by
    obtain⟨l,rfl,hl⟩:=(hG x).1 hx;exact h _ l ⟨Store.set_same _ _ _,by rw[Store.set_ne _ _ (Ne.symm A.d5),Store.set_same]⟩ hl (fun c h1 h2=>by rw[Store.set_ne _ _ h1,Store.set_ne _ _ h2]) (fun y hy=>by rw[hm y hy];rfl)
  unlock {a σ l KF} ha hl hg h:=unlock_work ha hl.1 hl.2 ((hG _).2 ⟨l,rfl,hg⟩) (by simp[mapA]) (h _ (Store.set_same _ _ _) (fun c h1 h2=>by rw[Store.set_ne _ _ h1];simp[Store.del,h2]))
  map h:=h.2
  put {σ l l'} h:=⟨by rw[Store.set_ne _ _ A.d5];exact h.1,Store.set_same _ _ _⟩
  un {σ σ'} he h:=by
    have h:σ A.fb=some .away:=h;show σ' A.fb=some .away;rw[he _ (.inl rfl) ⟨_,h,rfl⟩];exact h
  ld {σ σ' l} he h:=⟨by rw[he _ (.inl rfl) ⟨_,h.1,rfl⟩];exact h.1,by rw[he _ (.inr rfl) ⟨_,h.2,rfl⟩];exact h.2⟩
  unb h:=⟨_,h,rfl⟩
  ldb h:=⟨_,h.1,rfl⟩
end
def structChk (ft:Nat):Option TypeDesc->Bool
  | some (.struct fs)=>(match fs.toList with | [f]=>f.name !=  "_" && f.type == ft && f.offset == 0|_=>false)
  | _=>false
theorem MapK.of {P:Program} {mt kt et ft:Nat} {kd:IntKind} (h1:P.underlying mt=some (.map kt et)) (h2:structChk ft (P.underlying kt)=true) (h3:P.underlying ft=some (.int kd)) (h4:P.stoodInHeld kt=false):MapK P mt kt et ft kd:=by
  refine⟨h1,?_,h3,h4⟩;generalize P.underlying kt=d at h2;unfold structChk at h2;split at h2
  . next fs=>
    split at h2
    . next f hf=>
      simp only[Bool.and_eq_true,bne_iff_ne,beq_iff_eq] at h2;refine⟨f,?_,h2.1.1,h2.1.2,h2.2⟩;congr 2;apply Array.ext';rw[hf]
    . cases h2
  . cases h2
def LKeep (b mb:Nat) (σ σ':Store):Prop := ∀ c x,σ c=some x->c≠b->(c≠mb∨x.plain=true)->σ' c=some x
theorem LKeep.refl (b mb:Nat) (σ:Store):LKeep b mb σ σ:=fun _ _ h _ _=>h
section
variable {P:Program} (L:Lay P) {m:Mo} {fid n:Nat} {ro:Option Nat} {hold:List Entry} {s:St} {k:List Item} {K:Exit->St->Prop} {A:Mart} {Fin:Know->OwnM->Goroutine->Prop}
theorem Resume.runN (mu:List Nat) (N:Nat) {todo:List Item} (h:wrun L m fid n ro mu hold N todo s K):Resume P m fid n ro hold todo s K:=fun hpl=>Go.wrun L mu hold N hpl h
theorem Resume.unroll {c:Code} (h:Resume P m fid n ro hold (.code c :: .inLoop c :: k) s K):Resume P m fid n ro hold (.code (.loop c) :: k) s K:=fun hpl => .loop0 (h (by simpa[okT,okP] using hpl))
theorem Resume.again {c:Code} (hc:okP hold c=true) (h:Resume P m fid n ro hold (.code c :: .inLoop c :: k) s K):Resume P m fid n ro hold (.inLoop c :: k) s K:=fun hpl => .inLoop (h (by
  simp only[okT,List.all_cons,Bool.and_eq_true] at hpl ⊢;exact⟨hc,trivial,hpl.2⟩))
theorem Resume.mart {todo:List Item} (hsolo:m.solo=true) (B:MartP) (C:GrChk P B.ng) (X:GrExt P B.ng) (CM:MuChk P B.nm) (XM:MuExt P B.nm) (F:MuFn P B.nm) {tm:Bool} {a:AObj}
    (hF:s.σ B.cF=some (.raw (.chan 0 #[] false 0 0 tm))) (hG:s.σ B.gb=some (.cells [.lit (.int .u64 0),.lit (.int .u32 0)])) (hL:s.σ B.fb=some (.part (lockEnd B.fo))) (hM:s.σ B.mb=some a) (hna:a ≠ .away) (hgi:B.GI a) (hrc:s.rc = .no)
    (h:∀ (b:Nat) (hb:0<b) (Fin:Know->OwnM->Goroutine->Prop) (kd:CallKind) (cs0:List Frame) (k0:Know),FinOK P m fid n ro K kd cs0 k0 Fin ->
      Resume P (moA P (B.at b hb) Fin B.n) fid n ro hold todo { s with σ:=((((s.σ.del B.cF).del B.gb).del B.mb).set B.fb .away),rc:=.told kd cs0 k0 } (fun _ _=>False)):Resume P m fid n ro hold todo s K:=fun hpl=>
  Go.mart hsolo B C X CM XM F hF hG hL hM hna hgi hrc fun b hb Fin kd cs0 k0 hf=>h b hb Fin kd cs0 k0 hf hpl
theorem Resume.addM {m:Nat} {ops:Array Oper} {i:Nat} {rest:List Nat} {o:Oper} {args:Array Operand} {tys:Array TypeId} {fn:Func} (ho:ops[i]? = some o) (hop:o.op = .call ⟨.value (.func A.ng.add),args,tys⟩) (hg:o.guard=none) (hok:Oper.ok n o=true)
    (hf:P.funcs[A.ng.add]? = some fn) (hb:fn.body.isSome=true) (hnm:(fn.name ==  "runtime.NumGoroutine")=false) (ha:args.toList.map (aeval s.env)=[.ref A.gb 0,.lit (.int .i64 1)])
    (h:Resume P (moS P A Fin m) fid n ro hold (.inRegion ops rest :: k) { s with env:=putA s.env o.dst (.tup []) } (fun _ _=>False)):Resume P (moA P A Fin (m+1)) fid n ro hold (.inRegion ops (i :: rest) :: k) s K:=fun hpl=>
  Go.addM ho hop (wanted_none hg) hok hf hb hnm ha (h (by simpa[okT,okP] using hpl))
theorem Resume.goW {m:Nat} {ops:Array Oper} {i:Nat} {rest:List Nat} {o:Oper} {fo:Operand} {args:Array Operand} {tys:Array TypeId} {f:FuncId} {fn:Func} {body:Code} {first cap:List AV} {hold':List Entry} (ho:ops[i]? = some o) (hop:o.op = .go ⟨.value fo,args,tys⟩) (hg:o.guard=none) (hok:Oper.ok n o=true)
    (hfo:aeval s.env fo = .fn (.func f) first cap) (hf:P.funcs[f]? = some fn) (hb:fn.body=some body) (hnm:(fn.name ==  "runtime.NumGoroutine")=false) (hn:((first ++ args.toList.map (aeval s.env)) ++ cap).length≤fn.ntmps) (hσ:s.σ A.fb=some .away) (hpl':okT hold' [.code body]=true)
    (hc:∀ k0,Resume P (moW1 P A (A.n-(m+1))) f fn.ntmps none hold' [.code body] ⟨argsEnv ((first ++ args.toList.map (aeval s.env)) ++ cap),awayσ A.fb,[],.told .deferred [botG P] k0⟩ (fun _ _=>False))
    (h:Resume P (moA P A Fin m) fid n ro hold (.inRegion ops rest :: k) { s with env:=putA s.env o.dst .junk } (fun _ _=>False)):Resume P (moS P A Fin m) fid n ro hold (.inRegion ops (i :: rest) :: k) s K:=fun hpl=>
  Go.goW ho hop (wanted_none hg) hok hfo hf hb hnm hn hσ (fun k0=>hc k0 hpl') (h (by simpa[okT,okP] using hpl))
theorem Resume.goC {ops:Array Oper} {i:Nat} {rest:List Nat} {o:Oper} {fo:Operand} {args:Array Operand} {tys:Array TypeId} {f:FuncId} {fn:Func} {body:Code} {first cap:List AV} {hold':List Entry} (ho:ops[i]? = some o) (hop:o.op = .go ⟨.value fo,args,tys⟩) (hg:o.guard=none) (hok:Oper.ok n o=true)
    (hfo:aeval s.env fo = .fn (.func f) first cap) (hf:P.funcs[f]? = some fn) (hb:fn.body=some body) (hnm:(fn.name ==  "runtime.NumGoroutine")=false) (hn:((first ++ args.toList.map (aeval s.env)) ++ cap).length≤fn.ntmps) (hσ:s.σ A.fb=some .away) (hpl':okT hold' [.code body]=true)
    (hc:∀ k0,Resume P (moC1 P A) f fn.ntmps none hold' [.code body] ⟨argsEnv ((first ++ args.toList.map (aeval s.env)) ++ cap),awayσ A.fb,[],.told .deferred [botG P] k0⟩ (fun _ _=>False))
    (h:Resume P (moR P A Fin A.n (List.range A.n)) fid n ro hold (.inRegion ops rest :: k) { s with env:=putA s.env o.dst .junk } (fun _ _=>False)):Resume P (moA P A Fin 0) fid n ro hold (.inRegion ops (i :: rest) :: k) s K:=fun hpl=>
  Go.goC ho hop (wanted_none hg) hok hfo hf hb hnm hn hσ (fun k0=>hc k0 hpl') (h (by simpa[okT,okP] using hpl))
theorem Resume.sendM {j:Nat} {ops:Array Oper} {i:Nat} {rest:List Nat} {o:Oper} {ch x:Operand} {fn fd:Func} {k0:Know} (ho:ops[i]? = some o) (hop:o.op = .send ch x) (hok:Oper.ok n o=true) (hg:o.guard=none) (hch:aeval s.env ch = .chan A.cF) (hx:aeval s.env x=A.res j)
    (hσ:s.σ A.fb=some .away) (hrc:s.rc = .told .deferred [botG P] k0) (hro:ro=none) (hf:P.funcs[fid]? = some fn) (hn:n=fn.ntmps) (hfd:P.funcs[A.ng.done]? = some fd) (hbd:fd.body.isSome=true) (hnmd:(fd.name ==  "runtime.NumGoroutine")=false)
    (h:Resume P (moW0 P A) fid n ro hold (.inRegion ops rest :: k) { s with env:=putA s.env o.dst (.lit undef) } (EndW P A fn)):Resume P (moW1 P A j) fid n ro hold (.inRegion ops (i :: rest) :: k) s K:=fun hpl=>
  Go.sendM ho hop hok (wanted_none hg) hch hx hσ hrc hro hf hn hfd hbd hnmd (h (by simpa[okT,okP] using hpl))
theorem Resume.waitM {ops:Array Oper} {i:Nat} {rest:List Nat} {o:Oper} {args:Array Operand} {tys:Array TypeId} {fn:Func} (ho:ops[i]? = some o) (hop:o.op = .call ⟨.value (.func A.ng.wait),args,tys⟩) (hg:o.guard=none) (hok:Oper.ok n o=true)
    (hf:P.funcs[A.ng.wait]? = some fn) (hb:fn.body.isSome=true) (hnm:(fn.name ==  "runtime.NumGoroutine")=false) (ha:args.toList.map (aeval s.env)=[.ref A.gb 0])
    (h:Resume P (moC0 P A) fid n ro hold (.inRegion ops rest :: k) { s with env:=putA s.env o.dst (.tup []) } (fun _ _=>False)):Resume P (moC1 P A) fid n ro hold (.inRegion ops (i :: rest) :: k) s K:=fun hpl=>
  Go.waitM ho hop (wanted_none hg) hok hf hb hnm ha (h (by simpa[okT,okP] using hpl))
theorem Resume.closeM {ops:Array Oper} {i:Nat} {rest:List Nat} {o:Oper} {ch:Operand} {tys:Array TypeId} {fn:Func} {k0:Know} (ho:ops[i]? = some o) (hop:o.op = .call ⟨.builtin .close,#[ch],tys⟩) (hok:Oper.ok n o=true) (hg:o.guard=none) (hch:aeval s.env ch = .chan A.cF)
    (hrc:s.rc = .told .deferred [botG P] k0) (hD:s.D=[]) (hro:ro=none) (hf:P.funcs[fid]? = some fn) (hr:fn.results=#[]) (hc:(Item.inRegion ops rest :: k).all calmI=true):Resume P (moC0 P A) fid n ro hold (.inRegion ops (i :: rest) :: k) s K:=fun _=>
  Go.closeM ho hop hok hg hch hrc hD hro hf hr hc
theorem Resume.recvM {m:Nat} {R:List Nat} {ops:Array Oper} {i:Nat} {rest:List Nat} {o:Oper} {ct ce:Nat} {ic ie:TI} {ch:Operand} (ho:ops[i]? = some o) (hop:o.op = .recv ct ch true) (hct:L.tt ct=some ic) (hck:ic.kind = .chan ce) (hce:L.tt ce=some ie)
    (hok:Oper.ok n o=true) (hg:o.guard=none) (hch:aeval s.env ch = .chan A.cF)
    (h:∀ j∈R,Resume P (moR P A Fin m (R.erase j)) fid n ro hold (.inRegion ops rest :: k) { s with env:=putA s.env o.dst (.tup [A.res j,.lit (.bool true)]) } (fun _ _=>False)):Resume P (moR P A Fin (m+1) R) fid n ro hold (.inRegion ops (i :: rest) :: k) s K:=fun hpl=>
  Go.recvM L ho hop hct hck hce hok (wanted_none hg) hch fun j hj=>h j hj (by simpa[okT,okP] using hpl)
theorem Resume.recvEnd {K':Exit->St->Prop} {kd:CallKind} {cs0:List Frame} {k0:Know} {R:List Nat} {ops:Array Oper} {i:Nat} {rest:List Nat} {o:Oper} {ct ce:Nat} {ic ie:TI} {ch:Operand} (ho:ops[i]? = some o) (hop:o.op = .recv ct ch true) (hct:L.tt ct=some ic) (hck:ic.kind = .chan ce) (hce:L.tt ce=some ie)
    (hok:Oper.ok n o=true) (hg:o.guard=none) (hch:aeval s.env ch = .chan A.cF) (hσ:s.σ A.fb=some .away) (hrc:s.rc = .told kd cs0 k0) (hfin:FinOK P m fid n ro K' kd cs0 k0 Fin)
    (h:∀ a,A.GI a->Resume P m fid n ro hold (.inRegion ops rest :: k) { s with env:=putA s.env o.dst (.tup [.junk,.lit (.bool false)]),σ:=(s.σ.set A.mb a).set A.fb (.part (lockEnd A.fo)),rc:=.no } K'):Resume P (moR P A Fin 0 R) fid n ro hold (.inRegion ops (i :: rest) :: k) s K:=fun hpl=>
  Go.recvEnd L ho hop hct hck hce hok (wanted_none hg) hch hσ hrc hfin fun a ha=>h a ha (by simpa[okT,okP] using hpl)
end
section
variable {P:Program} (L:Lay P) {m:Mo}
theorem FnOK.startN {f:FuncId} {fn:Func} {args:List AV} {σ:Store} {KF:Res->Store->Prop} {body:Code} (mu:List Nat) (hold:List Entry) (N k:Nat) (hf:P.funcs[f]? = some fn) (hb:fn.body=some body) (hk:args.length=k) (hc:fnCheck fn k=true) (hpl:okP hold body=true)
    (h:wrun L m f fn.ntmps none mu hold N [.code body] ⟨argsEnv args,σ,[],.no⟩ (FnK L m fn.results.toList (Thaw KF))):FnOK P m f args σ KF:=by
  simp only[fnCheck,Bool.and_eq_true] at hc;refine FnOK.thaw (FnOK.intro L hf hb (by rw[hk];exact Nat.le_of_ble_eq_true hc.1) ?_ (Go.wrun L mu hold N (by simpa[okT] using hpl) h))
  have:=hc.2;simpa using this
variable {fid n:Nat} {ro:Option Nat} {hold:List Entry} {K:Exit->St->Prop} {todo:List Item}
@[simp] theorem wrun_zero {mu:List Nat} {s:St}:wrun L m fid n ro mu hold 0 todo s K=Resume P m fid n ro hold todo s K:=propext Iff.rfl
theorem Resume.stand {env:Env} {σ:Store} {D:List ADef} {rc:Rec} (I:Env->Store->Prop) (h0:I env σ) (h:∀ env σ,I env σ->Resume P m fid n ro hold todo ⟨env,σ,D,rc⟩ K):Resume P m fid n ro hold todo ⟨env,σ,D,rc⟩ K:=h env σ h0
end
section
variable {P:Program} (L:Lay P) {o:Oper} {env:Env} {σ:Store} {K:AV->Store->Prop} {Kp:AV->Store->Prop}
theorem os_makeSlice {t e:Nat} {x y:Operand} {it ie:TI} {n:Int} {za:AV} (ho:o.op = .makeSlice t x y) (ht:L.tt t=some it) (hk:it.kind = .slice e) (he:L.tt e=some ie) (hs:ie.size=1) (hb:ie.bytes≤1024)
    (hz:(zav ie.zero).cells=[za]) (hzf:za.flat=true) (hx:aeval env x = .lit (.int .i64 n)) (hy:aeval env y = .lit (.int .i64 n)) (hn:0≤n∧n≤1000000)
    (hK:∀ b,σ b=none->K (.msl b 0 n.toNat n.toNat) (σ.set b (.cells (List.replicate n.toNat za)))):OpSem P o env σ K Kp:=
  OpSem.val (s:=fun ρ=>Instr.makeSlice t (ρ x) (ρ y)) (fun ρ=>by simp[execOp,ho]) fun k O ρ hρ hr=>by
    have h1:=hρ x (by simp[ho,Op.operands])
    have h2:=hρ y (by simp[ho,Op.operands])
    rw[hx] at h1;rw[hy] at h2;have e1:=asInt_lit h1;have e2:=asInt_lit h2
    have hw:IntKind.i64.wrap n=n:=by
      simp[IntKind.wrap,IntKind.signed,IntKind.bits];omega
    have hzs:ie.zero.cells.size=1:=by obtain⟨_,_,_,_,_,_,h⟩:=L.facts he;rw[h];exact hs
    have hzr:=zcells (k:=k) (z:=ie.zero) (by rw[hz];simp[hzf])
    rw[hz] at hzr;rw[e1,e2];unfold Instr.makeSlice;refine swp_bind' (swp_underlying L ht fun d _ hd=>?_)
    rw[kind_slice hd hk];dsimp only;refine swp_bind' (s:=asInt (.int .i64 n)) (swp_pure ?_);refine swp_bind' (s:=asInt (.int .i64 n)) (swp_pure ?_);refine swp_bind' (swp_typeInfo L he fun info _ _ hib _=>?_)
    dsimp only;rw[hw]
    have hno:((decide (n<0) || decide ((info.bytes:Int)*n > 2 ^ 48)) || decide (n<0) || decide (n > n))=false:=by
      have q:(info.bytes:Int)*n≤1024*1000000:=by
        rw[hib];exact Int.mul_le_mul (by omega) hn.2 hn.1 (by omega)
      have q2 : ¬ ((info.bytes:Int)*n > 2 ^ 48):=by omega
      simp[q2];omega
    simp only[hno,Bool.false_eq_true,if_false];refine swp_bind' (swp_askRoom ?_);refine swp_bind' (swp_sizeOf L he ?_);rw[hs]
    have hfin:∀ zero:Array Value,(n.toNat≠0->zero=ie.zero.cells)->swp P (do let a ← newRow e ((Array.range (n.toNat*1)).map (zero[· % zero.size]!));pure (Value.slice (some a) n.toNat n.toNat)) k O (fun v k' O'=>Turns k' O' fun k2 O2=>k.Le k2∧∃ a σ',V k2 v a∧Rel k2 O2 σ'∧K a σ') (fun v k' O'=>k.Le k'∧∃ a σ',V k' v a∧Rel k' O' σ'∧Kp a σ'):=fun zero hzero=>by
      have hcell:∀ (i:Nat) v,((Array.range (n.toNat*1)).map (zero[· % zero.size]!))[i]? = some v->i<n.toNat∧ie.zero.cells[0]? = some v:=fun i v hv=>by
        have hi:=(Array.getElem?_eq_some_iff.1 hv).1;obtain⟨hlt,heq⟩:=Array.getElem?_eq_some_iff.1 hv;simp at hi heq;rw[hzero (by omega),hzs] at heq
        refine⟨by omega,?_⟩
        subst heq;simp[Nat.mod_one,hzs]
      refine swp_bind' (swp_newRow_own (l:=List.replicate n.toNat za) hr (by simp) (fun i v a hv ha=>?_) (fun i v hv=>?_) fun r k' O' hn' hle hrel=>swp_pure (.here ⟨hle,.msl r 0 n.toNat n.toNat,_,.msl ..,hrel,hK r hn'⟩))
      . obtain⟨h1,h2⟩:=hcell i v hv
        have:a=za:=(List.mem_replicate.1 (List.mem_of_getElem? ha)).2;subst this;exact hzr.2.1 0 v a h2 rfl
      . exact hzr.2.2 0 v (hcell i v hv).2
    by_cases h0:n.toNat*1=0
    . rw[if_pos h0]
      refine swp_bind' (swp_pure ?_);exact hfin _ (fun h=>by omega)
    . rw[if_neg h0]
      refine swp_bind' (swp_zeroValue L he (swp_bind' (swp_pure ?_)));exact hfin _ (fun _=>rfl)
end
section
variable {P:Program} {m:Mo} {fid n:Nat} {ro:Option Nat} {hold:List Entry} {K:Exit->St->Prop} {todo:List Item}
theorem Resume.thawRow {env:Env} {σ:Store} {D:List ADef} {rc:Rec} {b d i:Nat} {l cs:List AV} {es:List AV} {sp:Spare} {at_:Nat} (hd:d≠b) (hb:σ b=some (.cells l)) (hl:∀ e∈l,e.cells=[e]) (hc:σ d=some (.cells cs)) (hat:cs[at_]? = some (.sl 1 es sp)) (hes:∀ e∈es,e.cells=[e]) (hi:es[i]? = some (.msl b 0 l.length l.length))
    (hR:Resume P m fid n ro hold todo ⟨env,(σ.del b).set d (.cells (cs.set at_ (.sl 1 (es.set i (.sl 1 l .any)) sp))),D,rc⟩ K):Resume P m fid n ro hold todo ⟨env,σ,D,rc⟩ K:=by
  have hfl:=flatten_self hl;refine Resume.freeze b l hb (fun u => .refl _) (fun y x hy=>?_) hR
  by_cases e:y=d
  . subst e
    simp[Store.set] at hy;subst hy;refine⟨hd,.inr ⟨cs,_,hc,rfl,by simp,fun j a a' h1 h2=>?_⟩⟩
    by_cases ej:j=at_
    . subst ej
      rw[hat] at h1;cases h1;have hlt:=(List.getElem?_eq_some_iff.1 hat).1;rw[List.getElem?_set_self hlt] at h2;cases h2;refine .rows es _ sp (by simp) hes (fun x hx=>?_) (fun p a a' g1 g2=>?_)
      . rcases List.mem_or_eq_of_mem_set hx with hx|rfl
        . exact hes x hx
        . rfl
      . by_cases ep:p=i
        . subst ep
          rw[hi] at g1;cases g1;have hlt:=(List.getElem?_eq_some_iff.1 hi).1;rw[List.getElem?_set_self hlt] at g2;cases g2;exact .sl 0 l.length 1 l .any (Nat.le_refl _) (by omega) (fun e he=>by rw[hl e he];rfl) (fun j a h=>by rw[hfl] at h;simpa using h) (.inl rfl)
        . rw[List.getElem?_set_ne (Ne.symm ep)] at g2
          rw[g1] at g2;cases g2;exact .refl _
    . rw[List.getElem?_set_ne (Ne.symm ej)] at h2
      rw[h1] at h2;cases h2;exact .refl _
  . rw[Store.set_ne _ _ e] at hy
    unfold Store.del at hy;split at hy
    . cases hy
    . next hne=>exact⟨hne,.inl hy⟩
end
end Go.Pal

/- Part 26 of the proof. -/
import Derived.Test.YtalogdafegmilaaGreatDoorC25
set_option linter.all false
namespace Go.aN
open Go.Conc
open Go.ConcN (sumTo upd sumTo_upd upd_ne upd_same)
section
variable{P:Program}(L:iE P){o:Oper}{env:Env}{σ:aa}{K:AV->aa->Prop}{Kp:AV->aa->Prop}
theorem xD{i:TI}{d:TypeDesc}{e:Nat}(h:di P i d=true)(hk:i.kind=.chan e):∃dir,d=.chan dir e:=by cases d<;>simp_all [di]
theorem Bf{t e:Nat}{x:Operand}{i ie:TI}{kd:IntKind}{n:Int}(ho:o.op=.makeChan t x)(ht:L.tt t=some i)(hk:i.kind=.chan e)(he:L.tt e=some ie)(hx:ap env x=.lit (.int kd n))(h0:0<=n/\n<=1000000/\ie.bytes<=1000000)
 (hK:∀b,σ b=none->K (.chan b) (σ.set b (.raw (.chan n.toNat #[] false 0 0 false)))):aG P o env σ K Kp:=
 aG.val (s:=λρ=>Instr.makeChan t (ρ x)) (λρ=>by simp[execOp,ho]) λk O ρ hv hr=>by
  have hvx:=hv x (by simp[ho,Op.operands])
  rw[hx]at hvx;rw[cJ hvx];unfold Instr.makeChan;refine af (aj ?_);refine af (aB L ht λd _ hd=>?_)
  obtain⟨dir,rfl⟩:=xD hd hk;simp only;refine af (cD L he λinfo _ _ hb _=>?_)
  have hle:((info.bytes:Int)*n)<=1000000*1000000:=by rw[hb];exact Int.mul_le_mul (by omega) (by omega) (by omega) (by omega)
  have hno:¬(n<0\/n>IntKind.i64.max\/(info.bytes:Int)*n>2 ^ 48-112):=by have:IntKind.i64.max=9223372036854775807:=rfl;omega
  rw[if_neg hno];refine af (s:=newObj _) ⟨rfl,λr hr'=>aj ?_⟩
  exact .here ⟨.made hr'.2.2,_,_,.chan r,(hr.mono (.made hr'.2.2)).set (.raw _ rfl),hK r (hr.isNone hr'.1 hr'.2.2)⟩
end
def vE(P:Program)(d:Deferred):Goroutine:=G {(default:Frame)with fn:=P.funcs.size,defers:=[d],mode:=.panicking [goexitEntry]} []
def xE:Item->Bool
 |.inRegion _ []=>true
 |.inBlock _=>true
 |.inScope _=>true
 |.code .skip=>true
 |.code .ret=>true
 |_=>false
theorem vF{P:Program}{f:FuncId}{fn:Func}{tmps:Array Value}(hf:P.funcs[f]?=some fn)(hr:fn.results=#[]):∀(todo:List Item),todo.all xE=true->∃n,QuitsD P n 0 (G ⟨f,tmps,todo,[],.run,.deferred,none⟩ [cR P])
 |[],_=>⟨_,.ctl rfl (λw=>by simp[G,stepG,stepG.exec,jX]) (sd hf hr (todo:=[]) (tmps:=tmps))⟩
 | i ::k,h=>by
   simp only[List.all_cons,Bool.and_eq_true]at h;obtain⟨n,ih⟩:=vF (tmps:=tmps) hf hr k h.2;by_cases hret:i=.code .ret
   . subst hret
     exact⟨_,.ctl rfl (λw=>by simp[G,stepG,stepG.exec,jX]) (sd hf hr (todo:=.code .ret::k) (tmps:=tmps))⟩
   . refine⟨_,.ctl rfl (λw=>?_) ih⟩
     cases i with
     |code c=>cases c<;>first|(exact absurd rfl hret)|(simp[xE]at h;done)|simp[G,stepG,stepG.exec]
     |inRegion ops l=>cases l<;>first|(simp[xE]at h;done)|simp[G,stepG,stepG.exec]
     |_=>first|(simp[xE]at h;done)|simp[G,stepG,stepG.exec]
section
variable{P:Program}{fid n:Nat}{ro:Option Nat}{s:St}{k:List Item}{K:Exit->St->Prop}{A:dM}{Fin:ag->ah->Goroutine->Prop}
theorem x9.none{m:Mo}{Q:ag->ah->Goroutine->Prop}{kind:CallKind}{cs:List Frame}{kn:ag}:x9 P m Q fid n ro kind cs (λ_ _=>False) kn:=⟨λ_ _ _ _ _ _ _ _ _ _ h=>h.elim,λ_ _ _ _ _ _ _ _ _ _ _ h=>h.elim⟩
theorem vG{fn:FuncId}:seen P fn #[]=#[]:=rfl
theorem CN{fr:Frame}{cs:List Frame}{x:Sem Go.Next}{w:World}{cases:Array CommCase}{b:Bool}{sh:CommShape}(h:x.runT P w #[]=(.ok (.comm cases b sh) w,#[])):stepG.apply P true fr cs none x w=.comm (G fr cs) cases b sh w #[]:=by simp only[stepG.apply,if_true,h,ite_self,vG,GStep.after];rfl
theorem Bg{fr:Frame}{cs:List Frame}{x:Sem Go.Next}{w:World}{f:Fn}{cap:Array Value}{args:Array Value}(h:x.runT P w #[]=(.ok (.spawn {target:=.fn f cap,args}) w,#[])):stepG.apply P true fr cs none x w=.spawn (G (fr.finish undef) cs) (vE P {target:=.fn f cap,args}) w #[]:=by simp only[stepG.apply,if_true,h,ite_self,vG,GStep.after];simp[vE,G]
theorem vH{b:Bool}{ops:Array Oper}{i:Nat}{rest:List Nat}{o:Oper}{ch x:Operand}{tmps:Array Value}{defs:List Deferred}{kind:CallKind}{cs:List Frame}{m:Mo}{env:Env}{kn:ag}{c:Nat}(ho:ops[i]?=some o)(hop:o.op=.send ch x)(hs:tmps.size=n)(he:fe kn tmps env)(hw:bS ops n env o)
 (hok:Oper.ok n o=true) (hch:ap env ch=.chan c) (w:World):
 ∃ v,V kn v (ap env x)/\stepG P m.main (G ⟨fid,tmps,.inRegion ops (i::rest)::k,defs,.run,kind,ro⟩ cs) w=.comm (G ⟨fid,tmps,.inRegion ops (i::rest)::k,defs,.run,kind,ro⟩ cs) #[scase c v (.tuple #[])] true .send w #[]/\
   v=Frame.eval ⟨fid,tmps,.inRegion ops (i::rest)::k,defs,.run,kind,ro⟩ x:=by
 have hops:∀y∈o.op.operands,V kn (Frame.eval ⟨fid,tmps,.inRegion ops (i::rest)::k,defs,.run,kind,ro⟩ y) (ap env y):=λy hy=>by refine V.eval he hs y ?_;simp only[Oper.ok,Bool.and_eq_true,Array.all_eq_true_iff_forall_mem]at hok;exact hok.1 y hy
 have hc:=hops ch (by rw[hop];simp[Op.operands])
 have hx:=hops x (by rw[hop];simp[Op.operands])
 rw[hch]at hc;generalize hv:Frame.eval ⟨fid,tmps,.inRegion ops (i::rest)::k,defs,.run,kind,ro⟩ ch=vc at hc;cases hc;refine⟨_,hx,?_,rfl⟩;rw[dT ho (iq hs he hw) (.inr λc e=>by rw[hop]at e;cases e) w]
 have he':execOp (Frame.eval ⟨fid,tmps,.inRegion ops (i::rest)::k,defs,.run,kind,ro⟩) o=pure (.comm #[scase c (Frame.eval ⟨fid,tmps,.inRegion ops (i::rest)::k,defs,.run,kind,ro⟩ x) (.tuple #[])] true .send):=by simp[execOp,hop,hv,scase]
 rw[he']
 by_cases hk:(kind==CallKind.early)=true<;>simp[stepG.apply,Sem.runT,seen,hk,GStep.after,G]
theorem tL{α:Type}{f:TypeDesc->Sem α}{t:TypeId}{d:TypeDesc}{w:World}{es:Array Event}(h:P.underlying t=some d):(underlying t >>=f).runT P w es=(f d).runT P w es:=by
 unfold underlying;show Sem.runT P ((match P.underlying t with|some d=>pure d|none=>stuck  "no such type") >>=f) w es=_
 rw[h];rfl
theorem vI{α:Type}{f:Value->Sem α}{t:TypeId}{info:TypeInfo}{z:Value}{w:World}{es:Array Event}(h:P.info? t=some info)(hz:info.zero=some z):(zeroValue t >>=f).runT P w es=(f z).runT P w es:=by
 unfold zeroValue typeInfo;show Sem.runT P ((do let i <-(match P.info? t with|some i=>pure i|none=>stuck  "no such type");match i.zero with|some v=>pure v|none=>unsupported (.resourceLimit  "a value of more than 2^22 cells")) >>=f) w es=_
 rw[h];show Sem.runT P ((match info.zero with|some v=>pure v|none=>unsupported (.resourceLimit  "a value of more than 2^22 cells")) >>=f) w es=_
 rw[hz];rfl
theorem vJ(L:iE P){ok:Bool}{ops:Array Oper}{i:Nat}{rest:List Nat}{o:Oper}{ct ce:Nat}{ic ie:TI}{ch:Operand}{tmps:Array Value}{defs:List Deferred}{kind:CallKind}{cs:List Frame}{m:Mo}{env:Env}{kn:ag}{c:Nat}(ho:ops[i]?=some o)(hop:o.op=.recv ct ch ok)(hct:L.tt ct=some ic)(hck:ic.kind=.chan ce)(hce:L.tt ce=some ie)
 (hs:tmps.size=n) (he:fe kn tmps env) (hw:bS ops n env o) (hok:Oper.ok n o=true) (hch:ap env ch=.chan c) (w:World):
 stepG P m.main (G ⟨fid,tmps,.inRegion ops (i::rest)::k,defs,.run,kind,ro⟩ cs) w=.comm (G ⟨fid,tmps,.inRegion ops (i::rest)::k,defs,.run,kind,ro⟩ cs) #[rcase c ie.zero] true (.recv ok) w #[]:=by
 have hc:V kn (Frame.eval ⟨fid,tmps,.inRegion ops (i::rest)::k,defs,.run,kind,ro⟩ ch) (ap env ch):=by refine V.eval he hs ch ?_;simp only[Oper.ok,Bool.and_eq_true,Array.all_eq_true_iff_forall_mem]at hok;exact hok.1 ch (by rw[hop];simp[Op.operands])
 rw[hch]at hc;generalize hv:Frame.eval ⟨fid,tmps,.inRegion ops (i::rest)::k,defs,.run,kind,ro⟩ ch=vc at hc;cases hc;rw[dT ho (iq hs he hw) (.inr λc e=>by rw[hop]at e;cases e) w]
 obtain⟨⟨d,hd1,hd2⟩,_⟩:=L.facts hct;obtain⟨dir,rfl⟩:=xD hd2 hck;obtain⟨_,info,hi1,_,_,hi4,_⟩:=L.facts hce
 have he':(execOp (Frame.eval ⟨fid,tmps,.inRegion ops (i::rest)::k,defs,.run,kind,ro⟩) o).runT P w #[]=(.ok (.comm #[rcase c ie.zero] true (.recv ok)) w,#[]):=by simp only[execOp,hop,hv];rw[tL hd1];simp only;rw[vI hi1 hi4];rfl
 exact CN he'
theorem Bh{ops:Array Oper}{i:Nat}{rest:List Nat}{o:Oper}{fo:Operand}{args:Array Operand}{tys:Array TypeId}{f:Fn}{first cap:List AV}{tmps:Array Value}{defs:List Deferred}{kind:CallKind}{cs:List Frame}{m:Mo}{env:Env}{kn:ag}(ho:ops[i]?=some o)(hop:o.op=.go ⟨.value fo,args,tys⟩)
 (hs:tmps.size=n) (he:fe kn tmps env) (hw:bS ops n env o) (hok:Oper.ok n o=true) (hfo:ap env fo=.fn f first cap):
 ∃ cc ca,Vs kn cc cap/\Vs kn ca (first++args.toList.map (ap env))/\∀w,stepG P m.main (G ⟨fid,tmps,.inRegion ops (i::rest)::k,defs,.run,kind,ro⟩ cs) w=
   .spawn (G (Frame.finish ⟨fid,tmps,.inRegion ops (i::rest)::k,defs,.run,kind,ro⟩ undef) cs) (vE P {target:=.fn f cc.toArray,args:=ca.toArray}) w #[]:=by
 have hops:∀x∈o.op.operands,V kn (Frame.eval ⟨fid,tmps,.inRegion ops (i::rest)::k,defs,.run,kind,ro⟩ x) (ap env x):=λx hx=>by refine V.eval he hs x ?_;simp only[Oper.ok,Bool.and_eq_true,Array.all_eq_true_iff_forall_mem]at hok;exact hok.1 x hx
 have hf:=hops fo (by simp[hop,Op.operands,Call.operands])
 rw[hfo]at hf;generalize hq:Frame.eval _ fo=cf at hf;cases hf with
 | fn _ c1 c2 l1 l2 g1 g2 g3 g4=>
   have hm:=Vs.ofArray (k:=kn) (ρ:=Frame.eval ⟨fid,tmps,.inRegion ops (i::rest)::k,defs,.run,kind,ro⟩) (env:=env) (xs:=args) (λx hx=>hops x (by simp[hop,Op.operands,Call.operands,hx]))
   refine⟨c2.toList,c1.toList++(args.map (Frame.eval ⟨fid,tmps,.inRegion ops (i::rest)::k,defs,.run,kind,ro⟩)).toList,⟨by simpa using g3,λi v a hv ha=>g4 i v a (by simpa using hv) ha⟩,Vs.append ⟨by simpa using g1,λi v a hv ha=>g2 i v a (by simpa using hv) ha⟩ ⟨by simpa using hm.1,λi v a hv ha=>hm.2 i v a (by simpa using hv) ha⟩,λw=>?_⟩
   rw[dT ho (iq hs he hw) (.inr λc e=>by rw[hop]at e;cases e) w]
   refine(Bg (f:=f) (cap:=c2) (args:=c1++args.map (Frame.eval ⟨fid,tmps,.inRegion ops (i::rest)::k,defs,.run,kind,ro⟩)) ?_).trans ?_
   . simp only[execOp,hop,resolve,hq,Deferred.ofValue]
     rfl
   . have e1:∀x:Array Value,(c1.toList++x.toList).toArray=c1++x:=λx=>by apply Array.ext';simp
     rw[e1,Array.toArray_toList]
theorem HS{m:Mo}{Q:ag->ah->Goroutine->Prop}{kk:ag}{O:ah}{tmps:Array Value}{defs:List Deferred}{kind:CallKind}{cs:List Frame}{f:FuncId}{fn:Func}{ops:Array Oper}{i:Nat}{rest:List Nat}{o:Oper}{args:Array Operand}{tys:Array TypeId}(ho:ops[i]?=some o)(hop:o.op=.call ⟨.value (.func f),args,tys⟩)(hw:bS ops n s.env o)(hok:Oper.ok n o=true)
 (hf:P.funcs[f]?=some fn) (hb:fn.body.isSome=true) (hnm:(fn.name==  "runtime.NumGoroutine")=false) (h2:zz n kk O tmps defs kind cs s)
 (h:∀cargs,Vs kk cargs (args.toList.map (ap s.env))->T P m Q kk O (G (Frame.enter P f cargs.toArray .normal) (⟨fid,tmps,.inRegion ops (i::rest)::k,defs,.run,kind,ro⟩::fM s.rc cs))):T P m Q kk O (G ⟨fid,tmps,.inRegion ops (i::rest)::k,defs,.run,kind,ro⟩ (fM s.rc cs)):=by
 refine T.ov (λw=>dT ho (iq h2.size h2.env hw) (.inr λc e=>by rw[hop]at e;cases e) w) (fg ?_)
 have hops:∀x∈o.op.operands,V kk (Frame.eval ⟨fid,tmps,.inRegion ops (i::rest)::k,defs,.run,kind,ro⟩ x) (ap s.env x):=λx hx=>by refine V.eval h2.env h2.size x ?_;simp only[Oper.ok,Bool.and_eq_true,Array.all_eq_true_iff_forall_mem]at hok;exact hok.1 x hx
 have hm:=Vs.ofArray (k:=kk) (ρ:=Frame.eval ⟨fid,tmps,.inRegion ops (i::rest)::k,defs,.run,kind,ro⟩) (env:=s.env) (xs:=args) (λx hx=>hops x (by simp[hop,Op.operands,Call.operands,hx]))
 have hb':fn.body.isNone=false:=by cases hx:fn.body<;>simp_all
 simp only[execOp,hop,resolve];refine af ?_;show eE P (Deferred.ofValue (.func (.func f) #[] #[]) _) kk O _ _;simp only[Deferred.ofValue];refine aj ?_;simp only[invoke,callFunc];refine af (bN ?_);rw[hf];simp only[hnm,hb',Bool.false_eq_true,if_false];refine aj λ_=>⟨λd w r s l=>by simp,?_⟩
 have:=h (args.map (Frame.eval ⟨fid,tmps,.inRegion ops (i::rest)::k,defs,.run,kind,ro⟩)).toList ⟨by simpa using hm.1,λi v a hv ha=>hm.2 i v a (by simpa using hv) ha⟩
 have key:∀x:Array Value,x=(args.map (Frame.eval ⟨fid,tmps,.inRegion ops (i::rest)::k,defs,.run,kind,ro⟩)).toList.toArray->T P m Q kk O (G (Frame.enter P f x .normal) (⟨fid,tmps,.inRegion ops (i::rest)::k,defs,.run,kind,ro⟩::fM s.rc cs)):=λx e=>by rw[e];exact this
 refine key _ ?_;apply Array.ext';simp
def Bi(P:Program)(m:Mo)(fid n:Nat)(ro:Option Nat)(K:Exit->St->Prop)(kd:CallKind)(cs0:List Frame)(k0:ag)(Fin:ag->ah->Goroutine->Prop):Prop:=∀todo s k' O' tmps defs,Go P m fid n ro todo s K->s.rc=.no->zz n k' O' tmps defs kd cs0 s->k0.Le k'->Fin k' O' (G ⟨fid,tmps,todo,defs,.run,kd,ro⟩ cs0)
theorem Go.Kz{m:Nat}{ops:Array Oper}{i:Nat}{rest:List Nat}{o:Oper}{args:Array Operand}{tys:Array TypeId}{fn:Func}(ho:ops[i]?=some o)(hop:o.op=.call ⟨.value (.func A.ng.add),args,tys⟩)(hw:bS ops n s.env o)(hok:Oper.ok n o=true)
 (hf:P.funcs[A.ng.add]?=some fn) (hb:fn.body.isSome=true) (hnm:(fn.name==  "runtime.NumGoroutine")=false) (ha:args.toList.map (ap s.env)=[.ref A.gb 0,.lit (.int .i64 1)])
 (h:Go P (DM P A Fin m) fid n ro (.inRegion ops rest::k) {s with env:=bd s.env o.dst (.c9 [])} (λ_ _=>False)):Go P (xr P A Fin (m+1)) fid n ro (.inRegion ops (i::rest)::k) s K:=by
 intro Q kk O tmps defs kind cs h1 h2 h3;refine HS ho hop hw hok hf hb hnm h2 λcargs hv=>?_
 rw[ha]at hv;obtain⟨hl,hvv⟩:=hv
 have e:cargs.toArray=#[.pointer (some ⟨A.gb,0,none⟩),.int .i64 1]:=by
  match cargs,hl,hvv with
  |[x,y],_,hvv=>have h0:=hvv 0 x _ rfl rfl;have h1:=hvv 1 y _ rfl rfl;cases h0;cases h1;rfl
 rw[e];refine .dc iG rfl ⟨rfl,_,_,rfl,?_⟩ (λ_ _ _ h=>h.elim);obtain⟨tmps',e1,e2⟩:=h2.put (fid:=fid) (ro:=ro) (rest:=rest) (kk:=k) (σ':=s.σ) (v:=.tuple #[]) (a:=.c9 []) (.refl kk) ho (.c9 _ _ rfl λi v a h=>by simp at h) h2.rel;show T P (DM P A Fin m) iG kk O (G (Frame.finish ⟨fid,tmps,.inRegion ops (i::rest)::k,defs,.run,kind,ro⟩ (.tuple #[])) (fM s.rc cs));rw[e1];exact h iG kk O tmps' defs kind cs h1 e2 .none
def jN(b:Nat):aa:=λc=>if c=b then some .gI else none
theorem DZ{m:Mo}{f:FuncId}{fn:Func}{body:Code}{cap args:List AV}{σ0:aa}{KE:ag->Exit->St->Prop}(hf:P.funcs[f]?=some fn)(hb:fn.body=some body)(hnm:(fn.name==  "runtime.NumGoroutine")=false)(hn:(args++cap).length<=fn.ntmps){kk:ag}(hσ:Rel kk ah.bot σ0)
 (hK:x9 P m iG f fn.ntmps none .deferred [cR P] (KE kk) kk)
 (h:∀k0,Go P m f fn.ntmps none [.code body] ⟨dK (args++cap),σ0,[],.told .deferred [cR P] k0⟩ (KE k0)){cc ca:List Value}(hcc:Vs kk cc cap) (hca:Vs kk ca args):
 T P m iG kk ah.bot (vE P {target:=.fn (.func f) cc.toArray,args:=ca.toArray}):=by
 have hb':fn.body.isNone=false:=by simp[hb]
 have hinv:∀w,(invoke (.fn (.func f) cc.toArray) ca.toArray).runT P w #[]=(.ok (.enter f (ca++cc).toArray) w,#[]):=λw=>by show Sem.runT P (callFunc f (ca.toArray++cc.toArray)) w #[]=_;unfold callFunc;rw[iN,hf];simp only[hnm,hb',Bool.false_eq_true,if_false];simp
 refine T.dD (g':=G (Frame.enter P f (ca++cc).toArray .deferred) [cR P]) rfl (λw=>?_) ?_
 . simp only[vE,G,stepG,unwind,callDeferred,hinv]
   simp;rfl
 . have hargs:=hca.append hcc
   have e:Frame.enter P f (ca++cc).toArray .deferred=⟨f,(ca++cc).toArray++Array.replicate (fn.ntmps-(ca++cc).length) undef,[.code body],[],.run,.deferred,none⟩:=by simp[Frame.enter,hf,hb]
   have hsz:((ca++cc).toArray++Array.replicate (fn.ntmps-(ca++cc).length) undef).size=fn.ntmps:=by have:=hargs.1;simp at this hn ⊢;omega
   rw[e];exact h kk iG kk ah.bot _ [] .deferred [cR P] (by simp) ⟨hsz,rN hargs _,hσ,trivial,rfl,rfl,.refl kk⟩ hK
def Mg(P:Program)(A:dM)(fn:Func):Exit->St->Prop:=λe s=>fn.results=#[]/\(e=.leave none\/e=.leave (some .ret))/\(∃k0,s.rc=.told .deferred [cR P] k0)/\∃r,s.D=[.mark r,.call (.func A.ng.done) [] [.ref A.gb 0]]/\s.σ r=some (.raw (.deferred (some [])))
theorem Fc{f:FuncId}{fn fd:Func}(hf:P.funcs[f]?=some fn)(hfd:P.funcs[A.ng.done]?=some fd)(hbd:fd.body.isSome=true)(hnmd:(fd.name==  "runtime.NumGoroutine")=false){kk:ag}:x9 P (pg P A) iG f fn.ntmps none .deferred [cR P] (Mg P A fn) kk where
 leave k' O' tmps defs s todo jump hle hs hl hK:=by
  obtain⟨hres,hj,⟨k0,hrc⟩,r,hD,hr⟩:=hK;obtain⟨env,σ,D,rc⟩:=s;simp only at hrc hD hr;subst hrc hD;show T P (pg P A) iG k' O' (G ⟨f,tmps,todo,defs,.run,.deferred,none⟩ [cR P]);have hds:=hs.ds
  match defs,hds with
  | [d1,d2],⟨q1,q2,_⟩=>
    simp only[uj]at q1 q2;obtain⟨cc,ca,rfl,hcc,hca⟩:=q2;subst q1;have e1:cc=#[]:=by have:=hcc.1;simpa using this
    have e2:ca=#[.pointer (some ⟨A.gb,0,none⟩)]:=by obtain⟨v,hv,hvv⟩:=Vs.one hca;cases hvv;apply Array.ext';simpa using hv
    subst e1 e2;refine T.dD (g':=G ⟨f,tmps,todo,[{target:=.collected r,args:=#[]},{target:=.fn (.func A.ng.done) #[],args:=#[.pointer (some ⟨A.gb,0,none⟩)]}],.returning,.deferred,none⟩ [cR P]) rfl (λw=>?_) ?_
    . rcases hl with⟨rfl,rfl⟩|⟨kk,rfl,rfl⟩|⟨_,_,_,_,rfl⟩
      . simp[G,stepG,stepG.exec]
      . simp[G,stepG,stepG.exec]
      . simp at hj
    . refine T.zP (fid:=f) (s:=Instr.takeDeferred r) rfl (K:=λcalls k2 O2=>calls=[]/\k2=k') (nxt:=λcalls w=>.go (G ⟨f,tmps,todo,calls++[{target:=.fn (.func A.ng.done) #[],args:=#[.pointer (some ⟨A.gb,0,none⟩)]}],.returning,.deferred,none⟩ [cR P]) w) ?_ ?_ ?_
      . rintro calls k2 O2 w' _ _ ⟨rfl,rfl⟩
        refine⟨_,rfl,?_⟩
        have hinv:∀w,(invoke (.fn (.func A.ng.done) #[]) #[.pointer (some ⟨A.gb,0,none⟩)]).runT P w #[]=(.ok (.enter A.ng.done #[.pointer (some ⟨A.gb,0,none⟩)]) w,#[]):=λw=>by
         show Sem.runT P (callFunc A.ng.done _) w #[]=_;unfold callFunc;have hb':fd.body.isNone=false:=by cases hx:fd.body<;>simp_all
         rw[iN,hfd];simp only[hnmd,hb',Bool.false_eq_true,if_false];simp
        refine T.dD (g':=G (Frame.enter P A.ng.done #[.pointer (some ⟨A.gb,0,none⟩)] .deferred) [jX P f tmps todo,cR P]) rfl (λw=>?_) ?_
        . simp only[G,stepG,unwind,callDeferred,hinv,List.nil_append]
          simp;rfl
        . exact .dc iG rfl ⟨rfl,f,fn,tmps,todo,hf,hres,rfl⟩ (λ_ _ _ h=>h.elim)
      . intro w v w' hrun
        simp only[G,stepG,unwind];rw[show(Instr.takeDeferred r).runT P w #[]=(((Instr.takeDeferred r).runT P w #[]).1,((Instr.takeDeferred r).runT P w #[]).2)from rfl,hrun]
      . obtain⟨x,hx,hxr⟩:=hs.rel.1 r _ hr (by simp)
        cases hxr with
        |raw _ hc=>unfold Instr.takeDeferred;refine af (s:=getObj r) ⟨_,hx,rfl,?_⟩;exact af (s:=setObj r _) ⟨⟨_,hx,rfl⟩,rfl,aj ⟨rfl,rfl⟩⟩
 panic k' O' tmps defs s todo cv av hle hs hcv hK:=by obtain⟨_,h|h,_⟩:=hK<;>cases h
theorem Bj{kk:ag}{O:ah}{σ:aa}{b:Nat}(hr:Rel kk O σ)(h:σ b=some .gI):Rel kk ah.bot (jN b):=by
 refine⟨λc a e hn=>?_,λc e=>?_⟩
 . unfold jN at e
   split at e
   . cases e;exact absurd rfl hn
   . cases e
 . unfold jN at e
   split at e
   . next q=>subst q;exact⟨rfl,(hr.2 _ h).2⟩
   . cases e
theorem Go.wk{m:Nat}{ops:Array Oper}{i:Nat}{rest:List Nat}{o:Oper}{fo:Operand}{args:Array Operand}{tys:Array TypeId}{f:FuncId}{fn:Func}{body:Code}{first cap:List AV}(ho:ops[i]?=some o)(hop:o.op=.go ⟨.value fo,args,tys⟩)(hw:bS ops n s.env o)(hok:Oper.ok n o=true)
 (hfo:ap s.env fo=.fn (.func f) first cap) (hf:P.funcs[f]?=some fn) (hb:fn.body=some body) (hnm:(fn.name==  "runtime.NumGoroutine")=false) (hn:((first++args.toList.map (ap s.env))++cap).length<=fn.ntmps) (hσ:s.σ A.fb=some .gI)
 (hc:∀k0,Go P (kh P A (A.n-(m+1))) f fn.ntmps none [.code body] ⟨dK ((first++args.toList.map (ap s.env))++cap),jN A.fb,[],.told .deferred [cR P] k0⟩ (λ_ _=>False))
 (h:Go P (xr P A Fin m) fid n ro (.inRegion ops rest::k) {s with env:=bd s.env o.dst .bL} (λ_ _=>False)):Go P (DM P A Fin m) fid n ro (.inRegion ops (i::rest)::k) s K:=by
 intro Q kk O tmps defs kind cs h1 h2 h3;obtain⟨cc,ca,hcc,hca,hst⟩:=Bh (P:=P) (fid:=fid) (k:=k) (rest:=rest) (defs:=defs) (kind:=kind) (ro:=ro) (cs:=fM s.rc cs) (m:=DM P A Fin m) ho hop h2.size h2.env hw hok hfo;obtain⟨tmps',e1,e2⟩:=h2.put (fid:=fid) (ro:=ro) (rest:=rest) (kk:=k) (σ':=s.σ) (.refl kk) ho (.bL undef) h2.rel;refine .dc iG rfl ⟨rfl,_,_,λw _=>hst w,DZ (KE:=λ_ _ _=>False) hf hb hnm hn (Bj h2.rel hσ) .none hc hcc hca,?_⟩ (λ_ _ _ h=>h.elim);rw[e1];exact h iG kk O tmps' defs kind cs h1 e2 .none
theorem Go.P7{ops:Array Oper}{i:Nat}{rest:List Nat}{o:Oper}{fo:Operand}{args:Array Operand}{tys:Array TypeId}{f:FuncId}{fn:Func}{body:Code}{first cap:List AV}(ho:ops[i]?=some o)(hop:o.op=.go ⟨.value fo,args,tys⟩)(hw:bS ops n s.env o)(hok:Oper.ok n o=true)
 (hfo:ap s.env fo=.fn (.func f) first cap) (hf:P.funcs[f]?=some fn) (hb:fn.body=some body) (hnm:(fn.name==  "runtime.NumGoroutine")=false) (hn:((first++args.toList.map (ap s.env))++cap).length<=fn.ntmps) (hσ:s.σ A.fb=some .gI)
 (hc:∀k0,Go P (vk P A) f fn.ntmps none [.code body] ⟨dK ((first++args.toList.map (ap s.env))++cap),jN A.fb,[],.told .deferred [cR P] k0⟩ (λ_ _=>False))
 (h:Go P (pC P A Fin A.n (List.range A.n)) fid n ro (.inRegion ops rest::k) {s with env:=bd s.env o.dst .bL} (λ_ _=>False)):Go P (xr P A Fin 0) fid n ro (.inRegion ops (i::rest)::k) s K:=by
 intro Q kk O tmps defs kind cs h1 h2 h3;obtain⟨cc,ca,hcc,hca,hst⟩:=Bh (P:=P) (fid:=fid) (k:=k) (rest:=rest) (defs:=defs) (kind:=kind) (ro:=ro) (cs:=fM s.rc cs) (m:=xr P A Fin 0) ho hop h2.size h2.env hw hok hfo;obtain⟨tmps',e1,e2⟩:=h2.put (fid:=fid) (ro:=ro) (rest:=rest) (kk:=k) (σ':=s.σ) (.refl kk) ho (.bL undef) h2.rel;refine .dc iG rfl ⟨rfl,_,_,λw _=>hst w,DZ (KE:=λ_ _ _=>False) hf hb hnm hn (Bj h2.rel hσ) .none hc hcc hca,?_⟩ (λ_ _ _ h=>h.elim);rw[e1];exact h iG kk O tmps' defs kind cs h1 e2 .none
theorem Go.HT{j:Nat}{ops:Array Oper}{i:Nat}{rest:List Nat}{o:Oper}{ch x:Operand}{fn fd:Func}{k0:ag}(ho:ops[i]?=some o)(hop:o.op=.send ch x)(hok:Oper.ok n o=true)(hw:bS ops n s.env o)(hch:ap s.env ch=.chan A.cF)(hx:ap s.env x=A.res j)
 (hσ:s.σ A.fb=some .gI) (hrc:s.rc=.told .deferred [cR P] k0) (hro:ro=none) (hf:P.funcs[fid]?=some fn) (hn:n=fn.ntmps) (hfd:P.funcs[A.ng.done]?=some fd) (hbd:fd.body.isSome=true) (hnmd:(fd.name==  "runtime.NumGoroutine")=false)
 (h:Go P (pg P A) fid n ro (.inRegion ops rest::k) {s with env:=bd s.env o.dst (.lit undef)} (Mg P A fn)):Go P (kh P A j) fid n ro (.inRegion ops (i::rest)::k) s K:=by
 intro Q kk O tmps defs kind cs h1 h2 h3;have hrel:=h2.rc;rw[hrc]at hrel;obtain⟨rfl,rfl,hk0⟩:=hrel;subst hro hn;obtain⟨tmps',e1,e2⟩:=h2.put (fid:=fid) (ro:=none) (rest:=rest) (kk:=k) (σ':=s.σ) (.refl kk) ho (.lit undef) h2.rel;have ht:=h iG kk O tmps' defs .deferred [cR P] h1 e2 (Fc hf hfd hbd hnmd);refine .dc iG rfl (.inr (.inr ⟨rfl,(h2.rel.2 _ hσ).1,G ⟨fid,tmps,.inRegion ops (i::rest)::k,defs,.run,.deferred,none⟩ (fM s.rc [cR P]),.tuple #[],Frame.eval ⟨fid,tmps,.inRegion ops (i::rest)::k,defs,.run,.deferred,none⟩ x,λw _=>?_,?_,?_⟩)) (λ_ _ _ h=>h.elim)
 . obtain⟨v,_,e,rfl⟩:=vH (P:=P) (m:=kh P A j) (b:=false) ho hop h2.size h2.env hw hok hch w (fid:=fid) (ro:=none) (k:=k) (rest:=rest) (defs:=defs) (kind:=.deferred) (cs:=fM s.rc [cR P])
   exact e
 . obtain⟨v,hv,_,rfl⟩:=vH (P:=P) (m:=kh P A j) (b:=false) ho hop h2.size h2.env hw hok hch default (fid:=fid) (ro:=none) (k:=k) (rest:=rest) (defs:=defs) (kind:=.deferred) (cs:=fM s.rc [cR P])
   rw[<-hx];exact hv
 . show T P (pg P A) iG kk O (G (Frame.finish ⟨fid,tmps,.inRegion ops (i::rest)::k,defs,.run,.deferred,none⟩ undef) (fM s.rc [cR P]))
   rw[e1];exact ht
theorem Go.HU{ops:Array Oper}{i:Nat}{rest:List Nat}{o:Oper}{args:Array Operand}{tys:Array TypeId}{fn:Func}(ho:ops[i]?=some o)(hop:o.op=.call ⟨.value (.func A.ng.wait),args,tys⟩)(hw:bS ops n s.env o)(hok:Oper.ok n o=true)
 (hf:P.funcs[A.ng.wait]?=some fn) (hb:fn.body.isSome=true) (hnm:(fn.name==  "runtime.NumGoroutine")=false) (ha:args.toList.map (ap s.env)=[.ref A.gb 0])
 (h:Go P (qh P A) fid n ro (.inRegion ops rest::k) {s with env:=bd s.env o.dst (.c9 [])} (λ_ _=>False)):Go P (vk P A) fid n ro (.inRegion ops (i::rest)::k) s K:=by
 intro Q kk O tmps defs kind cs h1 h2 h3;refine HS ho hop hw hok hf hb hnm h2 λcargs hv=>?_
 rw[ha]at hv;obtain⟨v,rfl,hvv⟩:=Vs.one hv;cases hvv;refine .dc iG rfl ⟨rfl,_,_,rfl,λk' hle=>?_⟩ (λ_ _ _ h=>h.elim);obtain⟨tmps',e1,e2⟩:=h2.put (fid:=fid) (ro:=ro) (rest:=rest) (kk:=k) (σ':=s.σ) (v:=.tuple #[]) (a:=.c9 []) hle ho (.c9 _ _ rfl λi v a h=>by simp at h) (h2.rel.mono hle);show T P (qh P A) iG k' O (G (Frame.finish ⟨fid,tmps,.inRegion ops (i::rest)::k,defs,.run,kind,ro⟩ (.tuple #[])) (fM s.rc cs));rw[e1];exact h iG k' O tmps' defs kind cs h1 e2 .none
theorem CO{c s r:Nat}{tm:Bool}{w:World}{tys:Array TypeId}{ty:TypeId}{cs:Array Bool}(h:w.heap[c]?=some (.chan 0 #[] false s r tm)):
 (invoke (.builtin .close tys ty cs) #[.chan (some c)]).runT P w #[]=(.ok (.value (.tuple #[])) {w with heap:=w.heap.setIfInBounds c (.chan 0 #[] true s r tm)},#[⟨.obj c,false,true⟩,⟨.obj c,true,true⟩]):=by
 change Sem.runT P (Sem.getObj c _) w #[]=_;rw[Sem.runT,h];change Sem.runT P (Sem.setObj c _ _) w _=_;rw[Sem.runT,h];rfl
theorem Bk{fr:Frame}{cs:List Frame}{x:Sem Go.Next}{w w':World}{v:Value}{es:Array Event}(hk:(fr.kind==.early)=false)(h:x.runT P w #[]=(.ok (.value v) w',es))(hs:seen P fr.fn es=es):stepG.apply P true fr cs none x w=.go (G (fr.finish v) cs) w' es:=by simp only[stepG.apply,if_true,h,hk,GStep.after];simp[hs,G]
theorem Go.CP{ops:Array Oper}{i:Nat}{rest:List Nat}{o:Oper}{ch:Operand}{tys:Array TypeId}{fn:Func}{k0:ag}(ho:ops[i]?=some o)(hop:o.op=.call ⟨.builtin .close,#[ch],tys⟩)(hok:Oper.ok n o=true)(hg:o.guard=none)(hch:ap s.env ch=.chan A.cF)
 (hrc:s.rc=.told .deferred [cR P] k0) (hD:s.D=[]) (hro:ro=none) (hf:P.funcs[fid]?=some fn) (hr:fn.results=#[]) (hc:(Item.inRegion ops rest::k).all xE=true):Go P (qh P A) fid n ro (.inRegion ops (i::rest)::k) s K:=by
 intro Q kk O tmps defs kind cs h1 h2 h3;obtain⟨env,σ,D,rc⟩:=s;simp only at hrc hD;subst hrc;subst hD;subst hro;obtain⟨rfl,rfl,hk0⟩:=h2.rc;have hdefs:defs=[]:=by cases defs with|nil=>rfl|cons _ _=>exact h2.ds.elim
 subst hdefs;obtain⟨tmps',e1,e2⟩:=h2.put (fid:=fid) (ro:=none) (rest:=rest) (kk:=k) (σ':=σ) (v:=.tuple #[]) (.refl kk) ho (.bL _) h2.rel;obtain⟨N,hq⟩:=vF (tmps:=tmps') hf hr _ hc
 have hv:V kk (Frame.eval ⟨fid,tmps,.inRegion ops (i::rest)::k,[],.run,.deferred,none⟩ ch) (ap env ch):=by refine V.eval h2.env h2.size ch ?_;simp only[Oper.ok,Bool.and_eq_true,Array.all_eq_true_iff_forall_mem]at hok;exact hok.1 ch (by rw[hop];simp[Op.operands,Call.operands])
 simp only at hch;rw[hch]at hv;generalize hvc:Frame.eval ⟨fid,tmps,.inRegion ops (i::rest)::k,[],.run,.deferred,none⟩ ch=vc at hv;cases hv;refine .dc iG rfl ⟨rfl,G (Frame.finish ⟨fid,tmps,.inRegion ops (i::rest)::k,[],.run,.deferred,none⟩ (.tuple #[])) [cR P],N,?_,λw s r tm hw hch=>?_,?_⟩ (λ_ _ _ h=>h.elim)
 . simp[mayWake,G,fM,ho,hop]
 . have hwt:Region.wanted o (yielded ops tmps)=true:=by simp[Region.wanted,hg]
   have he':(execOp (Frame.eval ⟨fid,tmps,.inRegion ops (i::rest)::k,[],.run,.deferred,none⟩) o).runT P w #[]=(.ok (.value (.tuple #[])) {w with heap:=w.heap.setIfInBounds A.cF (.chan 0 #[] true s r tm)},#[⟨.obj A.cF,false,true⟩,⟨.obj A.cF,true,true⟩]):=by
    simp only[execOp,hop,resolve];have:(#[ch].map (Frame.eval ⟨fid,tmps,.inRegion ops (i::rest)::k,[],.run,.deferred,none⟩))=#[.chan (some A.cF)]:=by simp[hvc]
    rw[this];exact CO (cs:=#[]) hch
   rw[show fM (Rec.told CallKind.deferred [cR P] k0) [cR P]=[cR P]from rfl]
   refine(dT (m:=qh P A) ho hwt (.inl rfl) w).trans ?_;exact Bk (by simp) he' (by simp[seen])
 . rw[e1]
   exact hq
theorem Go.D5(L:iE P){m:Nat}{R:List Nat}{ops:Array Oper}{i:Nat}{rest:List Nat}{o:Oper}{ct ce:Nat}{ic ie:TI}{ch:Operand}(ho:ops[i]?=some o)(hop:o.op=.recv ct ch true)(hct:L.tt ct=some ic)(hck:ic.kind=.chan ce)(hce:L.tt ce=some ie)
 (hok:Oper.ok n o=true) (hw:bS ops n s.env o) (hch:ap s.env ch=.chan A.cF)
 (h:∀j∈R,Go P (pC P A Fin m (R.erase j)) fid n ro (.inRegion ops rest::k) {s with env:=bd s.env o.dst (.c9 [A.res j,.lit (.bool true)])} (λ_ _=>False)):Go P (pC P A Fin (m+1) R) fid n ro (.inRegion ops (i::rest)::k) s K:=by
 intro Q kk O tmps defs kind cs g1 g2 g3;have hst:=vJ (P:=P) (fid:=fid) (k:=k) (rest:=rest) (defs:=defs) (kind:=kind) (ro:=ro) (cs:=fM s.rc cs) (m:=pC P A Fin (m+1) R) L ho hop hct hck hce g2.size g2.env hw hok hch;refine .dc iG rfl ⟨rfl,_,_,λw _=>hst w,λw _=>hst w,rfl,λj hj k' v hle hv=>?_⟩ (λ_ _ _ h=>h.elim)
 have hval:V k' (.tuple #[v,.bool true]) (.c9 [A.res j,.lit (.bool true)]):=.c9 _ _ rfl λi u a hu ha=>by
  match i with
  |0=>simp at hu ha;subst hu;subst ha;exact hv
  |1=>simp at hu ha;subst hu;subst ha;exact .lit _
  |i+2=>simp at ha
 obtain⟨tmps',e1,e2⟩:=g2.put (fid:=fid) (ro:=ro) (rest:=rest) (kk:=k) (σ':=s.σ) hle ho hval (g2.rel.mono hle);show T P (pC P A Fin m (R.erase j)) iG k' O (G (Frame.finish ⟨fid,tmps,.inRegion ops (i::rest)::k,defs,.run,kind,ro⟩ _) (fM s.rc cs));rw[e1];exact h j hj iG k' O tmps' defs kind cs g1 e2 .none
theorem Go.y9(L:iE P){m:Mo}{K':Exit->St->Prop}{kd:CallKind}{cs0:List Frame}{k0:ag}{R:List Nat}{ops:Array Oper}{i:Nat}{rest:List Nat}{o:Oper}{ct ce:Nat}{ic ie:TI}{ch:Operand}(ho:ops[i]?=some o)(hop:o.op=.recv ct ch true)(hct:L.tt ct=some ic)(hck:ic.kind=.chan ce)(hce:L.tt ce=some ie)
 (hok:Oper.ok n o=true) (hw:bS ops n s.env o) (hch:ap s.env ch=.chan A.cF) (hσ:s.σ A.fb=some .gI) (hrc:s.rc=.told kd cs0 k0) (hfin:Bi P m fid n ro K' kd cs0 k0 Fin)
 (h:∀a,A.GI a->Go P m fid n ro (.inRegion ops rest::k) {s with env:=bd s.env o.dst (.c9 [.bL,.lit (.bool false)]),σ:=(s.σ.set A.mb a).set A.fb (.part (bC A.fo)),rc:=.no} K'):Go P (pC P A Fin 0 R) fid n ro (.inRegion ops (i::rest)::k) s K:=by
 intro Q kk O tmps defs kind cs g1 g2 g3;have hst:=vJ (P:=P) (fid:=fid) (k:=k) (rest:=rest) (defs:=defs) (kind:=kind) (ro:=ro) (cs:=fM s.rc cs) (m:=pC P A Fin 0 R) L ho hop hct hck hce g2.size g2.env hw hok hch;have hrel:=g2.rc;rw[hrc]at hrel;obtain⟨rfl,rfl,hk0⟩:=hrel;refine .dc iG rfl ⟨rfl,_,_,λw _=>hst w,λw _=>hst w,rfl,(g2.rel.2 _ hσ).2,λk' x a hle hor hgi=>?_⟩ (λ_ _ _ h=>h.elim)
 have hval:V k' (.tuple #[ie.zero,.bool false]) (.c9 [.bL,.lit (.bool false)]):=.c9 _ _ rfl λi u a hu ha=>by
  match i with
  |0=>simp at hu ha;subst hu;subst ha;exact .bL _
  |1=>simp at hu ha;subst hu;subst ha;exact .lit _
  |i+2=>simp at ha
 obtain⟨tmps',e1,e2⟩:=g2.put (fid:=fid) (ro:=ro) (rest:=rest) (kk:=k) (σ':=(s.σ.set A.mb a).set A.fb (.part (bC A.fo))) (O':=(O.set A.mb x).set A.fb (.part (bC A.fo))) hle ho hval (((g2.rel.mono hle).set hor).set (.part _));show Fin k' _ (G (Frame.finish ⟨fid,tmps,.inRegion ops (i::rest)::k,defs,.run,kind,ro⟩ _) (fM s.rc cs));rw[e1,hrc];exact hfin _ _ k' _ tmps' defs (h a hgi) rfl ⟨e2.size,e2.env,e2.rel,e2.ds,trivial⟩ (hk0.trans hle)
theorem Go.bW{m:Mo}{todo:List Item}(hsolo:m.solo=true)(B:kc)(C:jg P B.ng)(X:j9 P B.ng)(CM:iy P B.nm)(XM:iz P B.nm)(F:qg P B.nm){tm:Bool}{a:jy}
 (hF:s.σ B.cF=some (.raw (.chan 0 #[] false 0 0 tm))) (hG:s.σ B.gb=some (.cells [.lit (.int .u64 0),.lit (.int .u32 0)])) (hL:s.σ B.fb=some (.part (bC B.fo))) (hM:s.σ B.mb=some a) (hna:a≠.gI) (hgi:B.GI a) (hrc:s.rc=.no)
 (h:∀(b:Nat) (hb:0<b) (Fin:ag->ah->Goroutine->Prop) (kd:CallKind) (cs0:List Frame) (k0:ag),Bi P m fid n ro K kd cs0 k0 Fin ->
   Go P (xr P (B.at b hb) Fin B.n) fid n ro todo {s with σ:=((((s.σ.del B.cF).del B.gb).del B.mb).set B.fb .gI),rc:=.told kd cs0 k0} (λ_ _=>False)):Go P m fid n ro todo s K:=by
 intro Q kk O tmps defs kind cs h1 h2 h3;rw[hrc];refine T.sat rfl λ⟨w,hsat⟩=>?_
 obtain⟨xF,oF,rF⟩:=h2.rel.1 _ _ hF (by simp)
 obtain⟨xG,oG,rG⟩:=h2.rel.1 _ _ hG (by simp)
 obtain⟨xM,oM,rM⟩:=h2.rel.1 _ _ hM hna;have oL:=h2.rel.DY hL;cases rF;cases rG with
 | cells cg eg _ q1 q2 q3=>
   have hg:∀(i:Nat) (v:Value),([.lit (.int .u64 0),.lit (.int .u32 0)]:List AV)[i]?=some (AV.lit v)->cg[i]?=some v:=λi v hv=>by
    have hlt:i<cg.size:=by rw[q1];exact(List.getElem?_eq_some_iff.1 hv).1
    have hvv:=q2 i cg[i] _ (by simp[hlt]) hv
    generalize hq:cg[i]=u at hvv;cases hvv;simp[hlt,hq]
   obtain⟨ec,cc,_,hshL,_⟩:=hsat.part _ _ oL;refine .phase (λk' O' g'=>T P m Q k' O' g') hsolo (λ_ _ _ h=>h) (CI B C X CM XM F oF oG (hg 0 _ rfl) (hg 1 _ rfl) oL oM rM hgi λb hb=>?_)
   have hfin:Bi P m fid n ro K kind cs kk (λk' O' g'=>T P m Q k' O' g'):=λtodo' s' k' O' tmps' defs' hgo hn hs hle=>by have:=hgo Q k' O' tmps' defs' kind cs h1 hs (h3.mono hle);rw[hn]at this;exact this
   have hgo:=h b hb _ kind cs kk hfin;refine hgo iG kk _ tmps defs kind cs h1 ⟨h2.size,h2.env,?_,h2.ds,rfl,rfl,.refl kk⟩ .none;refine⟨λd y e hy=>?_,λd e=>?_⟩
   . by_cases d1:d=B.fb
     . subst d1;simp[aa.set]at e;exact absurd e.symm hy
     by_cases d2:d=B.mb
     . subst d2;simp[aa.set,aa.del,d1]at e
     by_cases d3:d=B.gb
     . subst d3;simp[aa.set,aa.del,d1,d2]at e
     by_cases d4:d=B.cF
     . subst d4;simp[aa.set,aa.del,d1,d2,d3]at e
     simp only[aa.set,aa.del,d1,d2,d3,d4,if_false]at e;obtain⟨x,z1,z2⟩:=h2.rel.1 d y e hy;exact⟨x,by simp[kc.rest,d1,d2,d3,d4,z1],z2⟩
   . by_cases d1:d=B.fb
     . subst d1;exact⟨by simp[kc.rest],_,hshL⟩
     by_cases d2:d=B.mb
     . subst d2;simp[aa.set,aa.del,d1]at e
     by_cases d3:d=B.gb
     . subst d3;simp[aa.set,aa.del,d1,d2]at e
     by_cases d4:d=B.cF
     . subst d4;simp[aa.set,aa.del,d1,d2,d3]at e
     simp only[aa.set,aa.del,d1,d2,d3,d4,if_false]at e;obtain⟨z1,z2⟩:=h2.rel.2 d e;exact⟨by simp[kc.rest,d1,d2,d3,d4,z1],z2⟩
end
end Go.aN
namespace Go.aN
open Go.Conc
section
variable{P:Program}{m:Mo}{fid n:Nat}{ro:Option Nat}{hold:List Entry}{K:Exit->St->Prop}{todo:List Item}
theorem Go.Mh{env env':Env}{σ:aa}{D:List kL}{rc:Rec}(hw:∀t,(env t).W (env' t))(h:Go P m fid n ro todo ⟨env',σ,D,rc⟩ K):Go P m fid n ro todo ⟨env,σ,D,rc⟩ K:=λQ k O tmps defs kind cs h1 h2 h3=>h Q k O tmps defs kind cs h1 ⟨h2.size,λt ht=>hw t _ _ (h2.env t ht),h2.rel,h2.ds,h2.rc⟩ h3
theorem ab.Mh{env env':Env}{σ:aa}{D:List kL}{rc:Rec}(hw:∀t,(env t).W (env' t))(h:ab P m fid n ro hold todo ⟨env',σ,D,rc⟩ K):ab P m fid n ro hold todo ⟨env,σ,D,rc⟩ K:=λhpl=>Go.Mh hw (h hpl)
theorem ab.yt{env:Env}{σ:aa}{D:List kL}{rc:Rec}(t:Nat){a':AV}(hw:(env t).W a')(h:ab P m fid n ro hold todo ⟨env.upd t a',σ,D,rc⟩ K):ab P m fid n ro hold todo ⟨env,σ,D,rc⟩ K:=
 ab.Mh (λu=>by
  by_cases e:u=t
  . subst e;simpa[Env.upd]using hw
  . simp only[Env.upd,e,if_false];exact .refl _) h
theorem Tok.up{σ0 σ σ':aa}{a:AV}{kk:Nat}{es:List AV}(h:Tok σ0 σ a kk es)(hle:σ.Le σ'):Tok σ0 σ' a kk es:=by
 refine⟨aa.le_trans h.1 hle,?_⟩;rcases h.2 with h|h|⟨b,e,h1,h2,h3⟩
 . exact .inl h
 . exact .inr (.inl h)
 . exact .inr (.inr ⟨b,e,h1,h2,hle _ _ h3⟩)
theorem ab.cZ{env:Env}{σ:aa}{D:List kL}{rc:Rec}(t:Nat){b:Nat}{l:List AV}(v:AV)(hb:σ b=some (.cells l))(ht:env t=.ref b 0)(hv:v.cells=l)(h:ab P m fid n ro hold todo ⟨env.upd t (.cp v 0),σ.del b,D,rc⟩ K):ab P m fid n ro hold todo ⟨env,σ,D,rc⟩ K:=
 ab.freeze b l hb (λu=>Fz.upd (t:=t) (a':=.cp v 0) (by rw[ht];exact .cp 0 0 v (by rw[hv];simp) (λj a h=>by rw[hv]at h;simpa using h)) u) (Gg.del _ _ _) h
theorem qr(L:iE P){t f:Nat}{name:String}{i:TI}{info:TypeInfo}{mt:Method}{a:AV}(ht:L.tt t=some i)(hi:P.info? t=some info)(hm:info.methods.find? (·.name==name)=some mt)(hp:mt.path.toList=[])(hf:mt.func=some (f,false))(hk:i.kind=.struct):uY P t name f a a:=by
 intro k O v K Kp hv hK;have hd0:Made.depth≠0:=by decide
 obtain⟨N,hN⟩:∃N,P.types.size+Made.depth=N+1:=Nat.exists_eq_succ_of_ne_zero (by omega);rw[hN];unfold method;refine af (cD L ht λinfo' hi' _ _ _=>?_);rw[hi]at hi';cases hi';simp only[hm,hp];unfold follow;refine af (aj ?_);simp only[hf];refine af ?_;unfold receiverAt;refine af (aB L ht λd' _ hd'=>?_);obtain⟨fs',rfl,_⟩:=qC hd' hk;simp only[Place.get];exact aj (aj (hK _ hv))
theorem aa.Le.none{σ σ':aa}(h:σ.Le σ'){b:Nat}(hb:σ' b=Option.none):σ b=Option.none:=by
 cases e:σ b with
 |none=>rfl
 |some x=>rw[h b x e]at hb;cases hb
end
def jy.plain:jy->Bool
 |.part _=>false
 |.gI=>false
 |.map _=>false
 |_=>true
structure Dj(P:Program)(m:Mo)(nm:xp)(b o mb:Nat)(kd:IntKind)(GI:List (Int × AV)->Prop)(Un:aa->Prop)(Ld:aa->List (Int × AV)->Prop):Prop where
 lock:∀{a:AV}{σ:aa}{KF:cL->aa->Prop},qp b o a->Un σ->(∀σ' l,Ld σ' l->GI l->(∀c,c≠b->c≠mb->σ' c=σ c)->(∀y,σ mb=some y->y.plain=false)->KF (.val (.c9 [])) σ')->aA P m nm.lock [a] σ KF
 unlock:∀{a:AV}{σ:aa}{l:List (Int × AV)}{KF:cL->aa->Prop},qp b o a->Ld σ l->GI l->(∀σ',Un σ'->(∀c,c≠b->c≠mb->σ' c=σ c)->KF (.val (.c9 [])) σ')->aA P m nm.unlock [a] σ KF
 map:∀{σ:aa}{l:List (Int × AV)},Ld σ l->σ mb=some (mapA kd l)
 put:∀{σ:aa}{l l':List (Int × AV)},Ld σ l->Ld (σ.set mb (mapA kd l')) l'
 un:∀{σ σ':aa},(∀c,c=b\/c=mb->(∃x,σ c=some x/\x.plain=false)->σ' c=σ c)->Un σ->Un σ'
 ld:∀{σ σ':aa}{l:List (Int × AV)},(∀c,c=b\/c=mb->(∃x,σ c=some x/\x.plain=false)->σ' c=σ c)->Ld σ l->Ld σ' l
 JN:∀{σ:aa},Un σ->∃x,σ b=some x/\x.plain=false
 Q6:∀{σ:aa}{l:List (Int × AV)},Ld σ l->∃x,σ b=some x/\x.plain=false
def v4(b o mb:Nat)(kd:IntKind)(GI:List (Int × AV)->Prop)(σ:aa):Prop:=σ b=some (.part (bC o))/\∃l,σ mb=some (mapA kd l)/\GI l
def O7(b o mb:Nat)(kd:IntKind)(σ:aa)(l:List (Int × AV)):Prop:=σ b=some (.part (gX o))/\σ mb=some (mapA kd l)
def Q7(b:Nat)(σ:aa):Prop:=σ b=some .gI
def R5(b mb:Nat)(kd:IntKind)(σ:aa)(l:List (Int × AV)):Prop:=σ b=some (.part q9)/\σ mb=some (mapA kd l)
section
variable{P:Program}{nm:xp}(C:iy P nm)(X:iz P nm)(F:qg P nm)
include C X F in
theorem fQ{m:Mo}(hs:m.solo=true){b o mb:Nat}(hne:b≠mb){kd:IntKind}{GI:List (Int × AV)->Prop}:Dj P m nm b o mb kd GI (v4 b o mb kd GI) (O7 b o mb kd) where
 lock {a σ KF} ha hu h:=by obtain⟨h1,l,h2,h3⟩:=hu;exact Fa C X F hs ha h1 (h _ l ⟨aa.ao _ _ _,by rw[aa.ai _ _ (Ne.symm hne)];exact h2⟩ h3 (λc hc _=>aa.ai _ _ hc) (λy hy=>by rw[h2]at hy;cases hy;rfl))
 unlock {a σ l KF} ha hl hg h:=Bd C X F hs ha hl.1 (h _ ⟨aa.ao _ _ _,l,by rw[aa.ai _ _ (Ne.symm hne)];exact hl.2,hg⟩ (λc hc _=>aa.ai _ _ hc))
 map h:=h.2
 put {σ l l'} h:=⟨by rw[aa.ai _ _ hne];exact h.1,aa.ao _ _ _⟩
 un {σ σ'} he h:=by obtain⟨h1,l,h2,h3⟩:=h;exact⟨by rw[he b (.inl rfl) ⟨_,h1,rfl⟩];exact h1,l,by rw[he mb (.inr rfl) ⟨_,h2,rfl⟩];exact h2,h3⟩
 ld {σ σ' l} he h:=⟨by rw[he b (.inl rfl) ⟨_,h.1,rfl⟩];exact h.1,by rw[he mb (.inr rfl) ⟨_,h.2,rfl⟩];exact h.2⟩
 JN h:=⟨_,h.1,rfl⟩
 Q6 h:=⟨_,h.1,rfl⟩
theorem HV{A:dM}{j:Nat}{kd:IntKind}{GI:List (Int × AV)->Prop}(hG:∀x,A.GI x↔∃l,x=mapA kd l/\GI l):Dj P (kh P A j) A.nm A.fb A.fo A.mb kd GI (Q7 A.fb) (R5 A.fb A.mb kd) where
 lock {a σ KF} ha hu h:=Fb ha hu λx hx hm=>by obtain⟨l,rfl,hl⟩:=(hG x).1 hx;exact h _ l ⟨aa.ao _ _ _,by rw[aa.ai _ _ (Ne.symm A.d5),aa.ao]⟩ hl (λc h1 h2=>by rw[aa.ai _ _ h1,aa.ai _ _ h2]) (λy hy=>by rw[hm y hy];rfl)
 unlock {a σ l KF} ha hl hg h:=Be ha hl.1 hl.2 ((hG _).2 ⟨l,rfl,hg⟩) (by simp[mapA]) (h _ (aa.ao _ _ _) (λc h1 h2=>by rw[aa.ai _ _ h1];simp[aa.del,h2]))
 map h:=h.2
 put {σ l l'} h:=⟨by rw[aa.ai _ _ A.d5];exact h.1,aa.ao _ _ _⟩
 un {σ σ'} he h:=by have h:σ A.fb=some .gI:=h;show σ' A.fb=some .gI;rw[he _ (.inl rfl) ⟨_,h,rfl⟩];exact h
 ld {σ σ' l} he h:=⟨by rw[he _ (.inl rfl) ⟨_,h.1,rfl⟩];exact h.1,by rw[he _ (.inr rfl) ⟨_,h.2,rfl⟩];exact h.2⟩
 JN h:=⟨_,h,rfl⟩
 Q6 h:=⟨_,h.1,rfl⟩
end
def xH(ft:Nat):Option TypeDesc->Bool
 |some (.struct fs)=>(match fs.toList with|[f]=>f.name !=  "_" && f.type==ft && f.offset==0|_=>false)
 |_=>false
theorem EC.of{P:Program}{mt kt et ft:Nat}{kd:IntKind}(h1:P.underlying mt=some (.map kt et))(h2:xH ft (P.underlying kt)=true)(h3:P.underlying ft=some (.int kd))(h4:P.stoodInHeld kt=false):EC P mt kt et ft kd:=by
 refine⟨h1,?_,h3,h4⟩;generalize P.underlying kt=d at h2;unfold xH at h2;split at h2
 . next fs=>
   split at h2
   . next f hf=>simp only[Bool.and_eq_true,bne_iff_ne,beq_iff_eq]at h2;refine⟨f,?_,h2.1.1,h2.1.2,h2.2⟩;congr 2;apply Array.ext';rw[hf]
   . cases h2
 . cases h2
def j8(b mb:Nat)(σ σ':aa):Prop:=∀c x,σ c=some x->c≠b->(c≠mb\/x.plain=true)->σ' c=some x
theorem j8.refl(b mb:Nat)(σ:aa):j8 b mb σ σ:=λ_ _ h _ _=>h
section
variable{P:Program}(L:iE P){m:Mo}{fid n:Nat}{ro:Option Nat}{hold:List Entry}{s:St}{k:List Item}{K:Exit->St->Prop}{A:dM}{Fin:ag->ah->Goroutine->Prop}
theorem ab.runN(mu:List Nat)(N:Nat){todo:List Item}(h:bk L m fid n ro mu hold N todo s K):ab P m fid n ro hold todo s K:=λhpl=>Go.bk L mu hold N hpl h
theorem ab.HW{c:Code}(h:ab P m fid n ro hold (.code c::.inLoop c::k) s K):ab P m fid n ro hold (.code (.loop c)::k) s K:=λhpl=>.K0 (h (by simpa[kN,mh]using hpl))
theorem ab.again{c:Code}(hc:mh hold c=true)(h:ab P m fid n ro hold (.code c::.inLoop c::k) s K):ab P m fid n ro hold (.inLoop c::k) s K:=λhpl=>.inLoop (h (by simp only[kN,List.all_cons,Bool.and_eq_true]at hpl ⊢;exact⟨hc,trivial,hpl.2⟩))
theorem ab.bW{todo:List Item}(hsolo:m.solo=true)(B:kc)(C:jg P B.ng)(X:j9 P B.ng)(CM:iy P B.nm)(XM:iz P B.nm)(F:qg P B.nm){tm:Bool}{a:jy}
 (hF:s.σ B.cF=some (.raw (.chan 0 #[] false 0 0 tm))) (hG:s.σ B.gb=some (.cells [.lit (.int .u64 0),.lit (.int .u32 0)])) (hL:s.σ B.fb=some (.part (bC B.fo))) (hM:s.σ B.mb=some a) (hna:a≠.gI) (hgi:B.GI a) (hrc:s.rc=.no)
 (h:∀(b:Nat) (hb:0<b) (Fin:ag->ah->Goroutine->Prop) (kd:CallKind) (cs0:List Frame) (k0:ag),Bi P m fid n ro K kd cs0 k0 Fin ->
   ab P (xr P (B.at b hb) Fin B.n) fid n ro hold todo {s with σ:=((((s.σ.del B.cF).del B.gb).del B.mb).set B.fb .gI),rc:=.told kd cs0 k0} (λ_ _=>False)):ab P m fid n ro hold todo s K:=λhpl=>
 Go.bW hsolo B C X CM XM F hF hG hL hM hna hgi hrc λb hb Fin kd cs0 k0 hf=>h b hb Fin kd cs0 k0 hf hpl
theorem ab.Kz{m:Nat}{ops:Array Oper}{i:Nat}{rest:List Nat}{o:Oper}{args:Array Operand}{tys:Array TypeId}{fn:Func}(ho:ops[i]?=some o)(hop:o.op=.call ⟨.value (.func A.ng.add),args,tys⟩)(hg:o.guard=none)(hok:Oper.ok n o=true)
 (hf:P.funcs[A.ng.add]?=some fn) (hb:fn.body.isSome=true) (hnm:(fn.name==  "runtime.NumGoroutine")=false) (ha:args.toList.map (ap s.env)=[.ref A.gb 0,.lit (.int .i64 1)])
 (h:ab P (DM P A Fin m) fid n ro hold (.inRegion ops rest::k) {s with env:=bd s.env o.dst (.c9 [])} (λ_ _=>False)):ab P (xr P A Fin (m+1)) fid n ro hold (.inRegion ops (i::rest)::k) s K:=λhpl=>
 Go.Kz ho hop (eT hg) hok hf hb hnm ha (h (by simpa[kN,mh]using hpl))
theorem ab.wk{m:Nat}{ops:Array Oper}{i:Nat}{rest:List Nat}{o:Oper}{fo:Operand}{args:Array Operand}{tys:Array TypeId}{f:FuncId}{fn:Func}{body:Code}{first cap:List AV}{hold':List Entry}(ho:ops[i]?=some o)(hop:o.op=.go ⟨.value fo,args,tys⟩)(hg:o.guard=none)(hok:Oper.ok n o=true)
 (hfo:ap s.env fo=.fn (.func f) first cap) (hf:P.funcs[f]?=some fn) (hb:fn.body=some body) (hnm:(fn.name==  "runtime.NumGoroutine")=false) (hn:((first++args.toList.map (ap s.env))++cap).length<=fn.ntmps) (hσ:s.σ A.fb=some .gI) (hpl':kN hold' [.code body]=true)
 (hc:∀k0,ab P (kh P A (A.n-(m+1))) f fn.ntmps none hold' [.code body] ⟨dK ((first++args.toList.map (ap s.env))++cap),jN A.fb,[],.told .deferred [cR P] k0⟩ (λ_ _=>False))
 (h:ab P (xr P A Fin m) fid n ro hold (.inRegion ops rest::k) {s with env:=bd s.env o.dst .bL} (λ_ _=>False)):ab P (DM P A Fin m) fid n ro hold (.inRegion ops (i::rest)::k) s K:=λhpl=>
 Go.wk ho hop (eT hg) hok hfo hf hb hnm hn hσ (λk0=>hc k0 hpl') (h (by simpa[kN,mh]using hpl))
theorem ab.P7{ops:Array Oper}{i:Nat}{rest:List Nat}{o:Oper}{fo:Operand}{args:Array Operand}{tys:Array TypeId}{f:FuncId}{fn:Func}{body:Code}{first cap:List AV}{hold':List Entry}(ho:ops[i]?=some o)(hop:o.op=.go ⟨.value fo,args,tys⟩)(hg:o.guard=none)(hok:Oper.ok n o=true)
 (hfo:ap s.env fo=.fn (.func f) first cap) (hf:P.funcs[f]?=some fn) (hb:fn.body=some body) (hnm:(fn.name==  "runtime.NumGoroutine")=false) (hn:((first++args.toList.map (ap s.env))++cap).length<=fn.ntmps) (hσ:s.σ A.fb=some .gI) (hpl':kN hold' [.code body]=true)
 (hc:∀k0,ab P (vk P A) f fn.ntmps none hold' [.code body] ⟨dK ((first++args.toList.map (ap s.env))++cap),jN A.fb,[],.told .deferred [cR P] k0⟩ (λ_ _=>False))
 (h:ab P (pC P A Fin A.n (List.range A.n)) fid n ro hold (.inRegion ops rest::k) {s with env:=bd s.env o.dst .bL} (λ_ _=>False)):ab P (xr P A Fin 0) fid n ro hold (.inRegion ops (i::rest)::k) s K:=λhpl=>
 Go.P7 ho hop (eT hg) hok hfo hf hb hnm hn hσ (λk0=>hc k0 hpl') (h (by simpa[kN,mh]using hpl))
theorem ab.HT{j:Nat}{ops:Array Oper}{i:Nat}{rest:List Nat}{o:Oper}{ch x:Operand}{fn fd:Func}{k0:ag}(ho:ops[i]?=some o)(hop:o.op=.send ch x)(hok:Oper.ok n o=true)(hg:o.guard=none)(hch:ap s.env ch=.chan A.cF)(hx:ap s.env x=A.res j)
 (hσ:s.σ A.fb=some .gI) (hrc:s.rc=.told .deferred [cR P] k0) (hro:ro=none) (hf:P.funcs[fid]?=some fn) (hn:n=fn.ntmps) (hfd:P.funcs[A.ng.done]?=some fd) (hbd:fd.body.isSome=true) (hnmd:(fd.name==  "runtime.NumGoroutine")=false)
 (h:ab P (pg P A) fid n ro hold (.inRegion ops rest::k) {s with env:=bd s.env o.dst (.lit undef)} (Mg P A fn)):ab P (kh P A j) fid n ro hold (.inRegion ops (i::rest)::k) s K:=λhpl=>
 Go.HT ho hop hok (eT hg) hch hx hσ hrc hro hf hn hfd hbd hnmd (h (by simpa[kN,mh]using hpl))
theorem ab.HU{ops:Array Oper}{i:Nat}{rest:List Nat}{o:Oper}{args:Array Operand}{tys:Array TypeId}{fn:Func}(ho:ops[i]?=some o)(hop:o.op=.call ⟨.value (.func A.ng.wait),args,tys⟩)(hg:o.guard=none)(hok:Oper.ok n o=true)
 (hf:P.funcs[A.ng.wait]?=some fn) (hb:fn.body.isSome=true) (hnm:(fn.name==  "runtime.NumGoroutine")=false) (ha:args.toList.map (ap s.env)=[.ref A.gb 0])
 (h:ab P (qh P A) fid n ro hold (.inRegion ops rest::k) {s with env:=bd s.env o.dst (.c9 [])} (λ_ _=>False)):ab P (vk P A) fid n ro hold (.inRegion ops (i::rest)::k) s K:=λhpl=>
 Go.HU ho hop (eT hg) hok hf hb hnm ha (h (by simpa[kN,mh]using hpl))
theorem ab.CP{ops:Array Oper}{i:Nat}{rest:List Nat}{o:Oper}{ch:Operand}{tys:Array TypeId}{fn:Func}{k0:ag}(ho:ops[i]?=some o)(hop:o.op=.call ⟨.builtin .close,#[ch],tys⟩)(hok:Oper.ok n o=true)(hg:o.guard=none)(hch:ap s.env ch=.chan A.cF)
 (hrc:s.rc=.told .deferred [cR P] k0) (hD:s.D=[]) (hro:ro=none) (hf:P.funcs[fid]?=some fn) (hr:fn.results=#[]) (hc:(Item.inRegion ops rest::k).all xE=true):ab P (qh P A) fid n ro hold (.inRegion ops (i::rest)::k) s K:=λ_=>
 Go.CP ho hop hok hg hch hrc hD hro hf hr hc
theorem ab.D5{m:Nat}{R:List Nat}{ops:Array Oper}{i:Nat}{rest:List Nat}{o:Oper}{ct ce:Nat}{ic ie:TI}{ch:Operand}(ho:ops[i]?=some o)(hop:o.op=.recv ct ch true)(hct:L.tt ct=some ic)(hck:ic.kind=.chan ce)(hce:L.tt ce=some ie)
 (hok:Oper.ok n o=true) (hg:o.guard=none) (hch:ap s.env ch=.chan A.cF)
 (h:∀j∈R,ab P (pC P A Fin m (R.erase j)) fid n ro hold (.inRegion ops rest::k) {s with env:=bd s.env o.dst (.c9 [A.res j,.lit (.bool true)])} (λ_ _=>False)):ab P (pC P A Fin (m+1) R) fid n ro hold (.inRegion ops (i::rest)::k) s K:=λhpl=>
 Go.D5 L ho hop hct hck hce hok (eT hg) hch λj hj=>h j hj (by simpa[kN,mh]using hpl)
theorem ab.y9{K':Exit->St->Prop}{kd:CallKind}{cs0:List Frame}{k0:ag}{R:List Nat}{ops:Array Oper}{i:Nat}{rest:List Nat}{o:Oper}{ct ce:Nat}{ic ie:TI}{ch:Operand}(ho:ops[i]?=some o)(hop:o.op=.recv ct ch true)(hct:L.tt ct=some ic)(hck:ic.kind=.chan ce)(hce:L.tt ce=some ie)
 (hok:Oper.ok n o=true) (hg:o.guard=none) (hch:ap s.env ch=.chan A.cF) (hσ:s.σ A.fb=some .gI) (hrc:s.rc=.told kd cs0 k0) (hfin:Bi P m fid n ro K' kd cs0 k0 Fin)
 (h:∀a,A.GI a->ab P m fid n ro hold (.inRegion ops rest::k) {s with env:=bd s.env o.dst (.c9 [.bL,.lit (.bool false)]),σ:=(s.σ.set A.mb a).set A.fb (.part (bC A.fo)),rc:=.no} K'):ab P (pC P A Fin 0 R) fid n ro hold (.inRegion ops (i::rest)::k) s K:=λhpl=>
 Go.y9 L ho hop hct hck hce hok (eT hg) hch hσ hrc hfin λa ha=>h a ha (by simpa[kN,mh]using hpl)
end
section
variable{P:Program}(L:iE P){m:Mo}
theorem aA.Mi{f:FuncId}{fn:Func}{args:List AV}{σ:aa}{KF:cL->aa->Prop}{body:Code}(mu:List Nat)(hold:List Entry)(N k:Nat)(hf:P.funcs[f]?=some fn)(hb:fn.body=some body)(hk:args.length=k)(hc:oB fn k=true)(hpl:mh hold body=true)
 (h:bk L m f fn.ntmps none mu hold N [.code body] ⟨dK args,σ,[],.no⟩ (Nj L m fn.results.toList (nB KF))):aA P m f args σ KF:=by
 simp only[oB,Bool.and_eq_true]at hc;refine aA.thaw (aA.intro L hf hb (by rw[hk];exact Nat.le_of_ble_eq_true hc.1) ?_ (Go.bk L mu hold N (by simpa[kN]using hpl) h));have:=hc.2;simpa using this
variable{fid n:Nat}{ro:Option Nat}{hold:List Entry}{K:Exit->St->Prop}{todo:List Item}
@[simp] theorem Nf{mu:List Nat}{s:St}:bk L m fid n ro mu hold 0 todo s K=ab P m fid n ro hold todo s K:=propext Iff.rfl
theorem ab.D9{env:Env}{σ:aa}{D:List kL}{rc:Rec}(I:Env->aa->Prop)(h0:I env σ)(h:∀env σ,I env σ->ab P m fid n ro hold todo ⟨env,σ,D,rc⟩ K):ab P m fid n ro hold todo ⟨env,σ,D,rc⟩ K:=h env σ h0
end
section
variable{P:Program}(L:iE P){o:Oper}{env:Env}{σ:aa}{K:AV->aa->Prop}{Kp:AV->aa->Prop}
theorem rt{t e:Nat}{x y:Operand}{it ie:TI}{n:Int}{za:AV}(ho:o.op=.makeSlice t x y)(ht:L.tt t=some it)(hk:it.kind=.slice e)(he:L.tt e=some ie)(hs:ie.size=1)(hb:ie.bytes<=1024)
 (hz:(lO ie.zero).cells=[za]) (hzf:za.flat=true) (hx:ap env x=.lit (.int .i64 n)) (hy:ap env y=.lit (.int .i64 n)) (hn:0<=n/\n<=1000000)
 (hK:∀b,σ b=none->K (.fZ b 0 n.toNat n.toNat) (σ.set b (.cells (List.replicate n.toNat za)))):aG P o env σ K Kp:=
 aG.val (s:=λρ=>Instr.makeSlice t (ρ x) (ρ y)) (λρ=>by simp[execOp,ho]) λk O ρ hρ hr=>by
  have h1:=hρ x (by simp[ho,Op.operands])
  have h2:=hρ y (by simp[ho,Op.operands])
  rw[hx]at h1;rw[hy]at h2;have e1:=cJ h1;have e2:=cJ h2
  have hw:IntKind.i64.wrap n=n:=by simp[IntKind.wrap,IntKind.signed,IntKind.bits];omega
  have hzs:ie.zero.cells.size=1:=by obtain⟨_,_,_,_,_,_,h⟩:=L.facts he;rw[h];exact hs
  have hzr:=yh (k:=k) (z:=ie.zero) (by rw[hz];simp[hzf])
  rw[hz]at hzr;rw[e1,e2];unfold Instr.makeSlice;refine af (aB L ht λd _ hd=>?_)
  rw[bF hd hk];dsimp only;refine af (s:=asInt (.int .i64 n)) (aj ?_);refine af (s:=asInt (.int .i64 n)) (aj ?_);refine af (cD L he λinfo _ _ hib _=>?_)
  dsimp only;rw[hw]
  have hno:((decide (n<0)||decide ((info.bytes:Int)*n>2 ^ 48))||decide (n<0)||decide (n>n))=false:=by
   have q:(info.bytes:Int)*n<=1024*1000000:=by rw[hib];exact Int.mul_le_mul (by omega) hn.2 hn.1 (by omega)
   have q2:¬((info.bytes:Int)*n>2 ^ 48):=by omega
   simp[q2];omega
  simp only[hno,Bool.false_eq_true,if_false];refine af (nK ?_);refine af (ck L he ?_);rw[hs]
  have hfin:∀zero:Array Value,(n.toNat≠0->zero=ie.zero.cells)->eE P (do let a <-newRow e ((Array.range (n.toNat*1)).map (zero[· % zero.size]!));pure (Value.slice (some a) n.toNat n.toNat)) k O (λv k' O'=>l8 k' O' λk2 O2=>k.Le k2/\∃a σ',V k2 v a/\Rel k2 O2 σ'/\K a σ') (λv k' O'=>k.Le k'/\∃a σ',V k' v a/\Rel k' O' σ'/\Kp a σ'):=λzero hzero=>by
   have hcell:∀(i:Nat) v,((Array.range (n.toNat*1)).map (zero[· % zero.size]!))[i]?=some v->i<n.toNat/\ie.zero.cells[0]?=some v:=λi v hv=>by
    have hi:=(Array.getElem?_eq_some_iff.1 hv).1;obtain⟨hlt,heq⟩:=Array.getElem?_eq_some_iff.1 hv;simp at hi heq;rw[hzero (by omega),hzs]at heq
    refine⟨by omega,?_⟩
    subst heq;simp[Nat.mod_one,hzs]
   refine af (iM (l:=List.replicate n.toNat za) hr (by simp) (λi v a hv ha=>?_) (λi v hv=>?_) λr k' O' hn' hle hrel=>aj (.here ⟨hle,.fZ r 0 n.toNat n.toNat,_,.fZ ..,hrel,hK r hn'⟩))
   . obtain⟨h1,h2⟩:=hcell i v hv
     have:a=za:=(List.mem_replicate.1 (List.mem_of_getElem? ha)).2;subst this;exact hzr.2.1 0 v a h2 rfl
   . exact hzr.2.2 0 v (hcell i v hv).2
  by_cases h0:n.toNat*1=0
  . rw[if_pos h0]
    refine af (aj ?_);exact hfin _ (λh=>by omega)
  . rw[if_neg h0]
    refine af (cX L he (af (aj ?_)));exact hfin _ (λ_=>rfl)
end
section
variable{P:Program}{m:Mo}{fid n:Nat}{ro:Option Nat}{hold:List Entry}{K:Exit->St->Prop}{todo:List Item}
theorem ab.KA{env:Env}{σ:aa}{D:List kL}{rc:Rec}{b d i:Nat}{l cs:List AV}{es:List AV}{sp:cM}{at_:Nat}(hd:d≠b)(hb:σ b=some (.cells l))(hl:∀e∈l,e.cells=[e])(hc:σ d=some (.cells cs))(hat:cs[at_]?=some (.sl 1 es sp))(hes:∀e∈es,e.cells=[e])(hi:es[i]?=some (.fZ b 0 l.length l.length))
 (hR:ab P m fid n ro hold todo ⟨env,(σ.del b).set d (.cells (cs.set at_ (.sl 1 (es.set i (.sl 1 l .any)) sp))),D,rc⟩ K):ab P m fid n ro hold todo ⟨env,σ,D,rc⟩ K:=by
 have hfl:=du hl;refine ab.freeze b l hb (λu=>.refl _) (λy x hy=>?_) hR;by_cases e:y=d
 . subst e
   simp[aa.set]at hy;subst hy;refine⟨hd,.inr ⟨cs,_,hc,rfl,by simp,λj a a' h1 h2=>?_⟩⟩;by_cases ej:j=at_
   . subst ej
     rw[hat]at h1;cases h1;have hlt:=(List.getElem?_eq_some_iff.1 hat).1;rw[List.getElem?_set_self hlt]at h2;cases h2;refine .rows es _ sp (by simp) hes (λx hx=>?_) (λp a a' g1 g2=>?_)
     . rcases List.mem_or_eq_of_mem_set hx with hx|rfl
       . exact hes x hx
       . rfl
     . by_cases ep:p=i
       . subst ep
         rw[hi]at g1;cases g1;have hlt:=(List.getElem?_eq_some_iff.1 hi).1;rw[List.getElem?_set_self hlt]at g2;cases g2;exact .sl 0 l.length 1 l .any (Nat.le_refl _) (by omega) (λe he=>by rw[hl e he];rfl) (λj a h=>by rw[hfl]at h;simpa using h) (.inl rfl)
       . rw[List.getElem?_set_ne (Ne.symm ep)]at g2
         rw[g1]at g2;cases g2;exact .refl _
   . rw[List.getElem?_set_ne (Ne.symm ej)]at h2
     rw[h1]at h2;cases h2;exact .refl _
 . rw[aa.ai _ _ e]at hy
   unfold aa.del at hy;split at hy
   . cases hy
   . next hne=>exact⟨hne,.inl hy⟩
end
end Go.aN

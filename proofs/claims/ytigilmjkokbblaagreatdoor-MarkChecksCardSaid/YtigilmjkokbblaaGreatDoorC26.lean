/- Part 26 of the proof. -/
import Derived.Test.YtigilmjkokbblaaGreatDoorC25
set_option linter.all false
namespace Go.bd
open Go.Conc
open Go.ConcN (sumTo upd sumTo_upd upd_ne upd_same)
section
variable{P:Program}(L:iG P){o:Oper}{env:Env}{σ:aa}{K:AV->aa->Prop}{Kp:AV->aa->Prop}
theorem Aq{i:TI}{d:TypeDesc}{e:Nat}(h:dJ P i d=true)(a:i.kind=.chan e):∃dir,d=.chan dir e:=by cases d<;>simp_all [dJ]
theorem DU{t e:Nat}{x:Operand}{i h:TI}{kd:IntKind}{n:Int}(j:o.op=.makeChan t x)(m:L.tt t=some i)(p:i.kind=.chan e)(q:L.tt e=some h)(u:ar env x=.lit (.int kd n))(z:0<=n/\n<=1000000/\h.bytes<=1000000)
 (v:∀b,σ b=none->K (.chan b) (σ.set b (.raw (.chan n.toNat #[] false 0 0 false)))):aK P o env σ K Kp:=
 aK.val (s:=λf=>Instr.makeChan t (f x)) (λf=>by simp[execOp,j]) λk O f w l=>by
  have c:=w x (by simp[j,Op.operands])
  rw[u]at c;rw[cZ c];unfold Instr.makeChan;refine af (aj ?_);refine af (aD L m λd _ hd=>?_)
  obtain⟨dir,rfl⟩:=Aq hd p;simp only;refine af (cV L q λinfo _ _ hb _=>?_)
  have y:((info.bytes:Int)*n)<=1000000*1000000:=by rw[hb];exact Int.mul_le_mul (by omega) (by omega) (by omega) (by omega)
  have g:¬(n<0\/n>IntKind.i64.max\/(info.bytes:Int)*n>2 ^ 48-112):=by have:IntKind.i64.max=9223372036854775807:=rfl;omega
  rw[if_neg g];refine af (s:=newObj _) ⟨rfl,λr a=>aj ?_⟩
  exact .here ⟨.made a.2.2,_,_,.chan r,(l.mono (.made a.2.2)).set (.raw _ rfl),v r (l.isNone a.1 a.2.2)⟩
end
def x6(P:Program)(d:Deferred):Goroutine:=G {(default:Frame)with fn:=P.funcs.size,defers:=[d],mode:=.panicking [goexitEntry]} []
def Ar:Item->Bool
 |.inRegion _ []=>true
 |.inBlock _=>true
 |.inScope _=>true
 |.code .skip=>true
 |.code .ret=>true
 |_=>false
theorem x7{P:Program}{f:FuncId}{fn:Func}{tmps:Array Value}(b:P.funcs[f]?=some fn)(d:fn.results=#[]):∀(todo:List Item),todo.all Ar=true->∃n,QuitsD P n 0 (G ⟨f,tmps,todo,[],.run,.deferred,none⟩ [di P])
 |[],_=>⟨_,.ctl rfl (λw=>by simp[G,stepG,stepG.exec,kX]) (uk b d (todo:=[]) (tmps:=tmps))⟩
 | i ::k,h=>by
   simp only[List.all_cons,Bool.and_eq_true]at h;obtain⟨n,e⟩:=x7 (tmps:=tmps) b d k h.2;by_cases a:i=.code .ret
   . subst a
     exact⟨_,.ctl rfl (λw=>by simp[G,stepG,stepG.exec,kX]) (uk b d (todo:=.code .ret::k) (tmps:=tmps))⟩
   . refine⟨_,.ctl rfl (λw=>?_) e⟩
     cases i with
     |code c=>cases c<;>first|(exact absurd rfl a)|(simp[Ar]at h;done)|simp[G,stepG,stepG.exec]
     |inRegion ops l=>cases l<;>first|(simp[Ar]at h;done)|simp[G,stepG,stepG.exec]
     |_=>first|(simp[Ar]at h;done)|simp[G,stepG,stepG.exec]
section
variable{P:Program}{fid n:Nat}{ro:Option Nat}{s:St}{k:List Item}{K:Exit->St->Prop}{A:eu}{Fin:ah->ai->Goroutine->Prop}
theorem AL.none{m:Mo}{Q:ah->ai->Goroutine->Prop}{kind:CallKind}{cs:List Frame}{a:ah}:AL P m Q fid n ro kind cs (λ_ _=>False) a:=⟨λ_ _ _ _ _ _ _ _ _ _ h=>h.elim,λ_ _ _ _ _ _ _ _ _ _ _ h=>h.elim⟩
theorem x8{fn:FuncId}:seen P fn #[]=#[]:=rfl
theorem FK{fr:Frame}{cs:List Frame}{x:Sem Go.Next}{w:World}{cases:Array CommCase}{b:Bool}{sh:CommShape}(h:x.runT P w #[]=(.ok (.comm cases b sh) w,#[])):stepG.apply P true fr cs none x w=.comm (G fr cs) cases b sh w #[]:=by simp only[stepG.apply,if_true,h,ite_self,x8,GStep.after];rfl
theorem DV{fr:Frame}{cs:List Frame}{x:Sem Go.Next}{w:World}{f:Fn}{cap:Array Value}{args:Array Value}(h:x.runT P w #[]=(.ok (.spawn {target:=.fn f cap,args}) w,#[])):stepG.apply P true fr cs none x w=.spawn (G (fr.finish undef) cs) (x6 P {target:=.fn f cap,args}) w #[]:=by simp only[stepG.apply,if_true,h,ite_self,x8,GStep.after];simp[x6,G]
theorem x9{b:Bool}{ops:Array Oper}{i:Nat}{rest:List Nat}{o:Oper}{ch x:Operand}{tmps:Array Value}{defs:List Deferred}{kind:CallKind}{cs:List Frame}{m:Mo}{env:Env}{g:ah}{c:Nat}(r:ops[i]?=some o)(a:o.op=.send ch x)(p:tmps.size=n)(q:fH g tmps env)(s:cu ops n env o)
 (f:Oper.ok n o=true) (h:ar env ch=.chan c) (w:World):
 ∃ v,V g v (ar env x)/\stepG P m.main (G ⟨fid,tmps,.inRegion ops (i::rest)::k,defs,.run,kind,ro⟩ cs) w=.comm (G ⟨fid,tmps,.inRegion ops (i::rest)::k,defs,.run,kind,ro⟩ cs) #[scase c v (.tuple #[])] true .send w #[]/\
   v=Frame.eval ⟨fid,tmps,.inRegion ops (i::rest)::k,defs,.run,kind,ro⟩ x:=by
 have d:∀y∈o.op.operands,V g (Frame.eval ⟨fid,tmps,.inRegion ops (i::rest)::k,defs,.run,kind,ro⟩ y) (ar env y):=λy t=>by refine V.eval q p y ?_;simp only[Oper.ok,Bool.and_eq_true,Array.all_eq_true_iff_forall_mem]at f;exact f.1 y t
 have j:=d ch (by rw[a];simp[Op.operands])
 have u:=d x (by rw[a];simp[Op.operands])
 rw[h]at j;generalize z:Frame.eval ⟨fid,tmps,.inRegion ops (i::rest)::k,defs,.run,kind,ro⟩ ch=B at j;cases j;refine⟨_,u,?_,rfl⟩;rw[dS r (gO p q s) (.inr λc e=>by rw[a]at e;cases e) w]
 have l:execOp (Frame.eval ⟨fid,tmps,.inRegion ops (i::rest)::k,defs,.run,kind,ro⟩) o=pure (.comm #[scase c (Frame.eval ⟨fid,tmps,.inRegion ops (i::rest)::k,defs,.run,kind,ro⟩ x) (.tuple #[])] true .send):=by simp[execOp,a,z,scase]
 rw[l]
 by_cases A:(kind==CallKind.early)=true<;>simp[stepG.apply,seen,A,GStep.after,G]
theorem vD{α:Type}{f:TypeDesc->Sem α}{t:TypeId}{d:TypeDesc}{w:World}{es:Array Event}(h:P.underlying t=some d):(underlying t >>=f).runT P w es=(f d).runT P w es:=by
 unfold underlying;show Sem.runT P ((match P.underlying t with|some d=>pure d|none=>stuck  "no such type") >>=f) w es=_
 rw[h];rfl
theorem ya{α:Type}{f:Value->Sem α}{t:TypeId}{info:TypeInfo}{z:Value}{w:World}{es:Array Event}(h:P.info? t=some info)(a:info.zero=some z):(zeroValue t >>=f).runT P w es=(f z).runT P w es:=by
 unfold zeroValue typeInfo;show Sem.runT P ((do let i <-(match P.info? t with|some i=>pure i|none=>stuck  "no such type");match i.zero with|some v=>pure v|none=>unsupported (.resourceLimit  "a value of more than 2^22 cells")) >>=f) w es=_
 rw[h];show Sem.runT P ((match info.zero with|some v=>pure v|none=>unsupported (.resourceLimit  "a value of more than 2^22 cells")) >>=f) w es=_
 rw[a];rfl
theorem yc(L:iG P){ok:Bool}{ops:Array Oper}{i:Nat}{rest:List Nat}{o:Oper}{ct ce:Nat}{v f:TI}{ch:Operand}{tmps:Array Value}{defs:List Deferred}{kind:CallKind}{cs:List Frame}{m:Mo}{env:Env}{x:ah}{c:Nat}(A:ops[i]?=some o)(a:o.op=.recv ct ch ok)(g:L.tt ct=some v)(h:v.kind=.chan ce)(j:L.tt ce=some f)
 (y:tmps.size=n) (z:fH x tmps env) (B:cu ops n env o) (b:Oper.ok n o=true) (l:ar env ch=.chan c) (w:World):
 stepG P m.main (G ⟨fid,tmps,.inRegion ops (i::rest)::k,defs,.run,kind,ro⟩ cs) w=.comm (G ⟨fid,tmps,.inRegion ops (i::rest)::k,defs,.run,kind,ro⟩ cs) #[rcase c f.zero] true (.recv ok) w #[]:=by
 have p:V x (Frame.eval ⟨fid,tmps,.inRegion ops (i::rest)::k,defs,.run,kind,ro⟩ ch) (ar env ch):=by refine V.eval z y ch ?_;simp only[Oper.ok,Bool.and_eq_true,Array.all_eq_true_iff_forall_mem]at b;exact b.1 ch (by rw[a];simp[Op.operands])
 rw[l]at p;generalize C:Frame.eval ⟨fid,tmps,.inRegion ops (i::rest)::k,defs,.run,kind,ro⟩ ch=D at p;cases p;rw[dS A (gO y z B) (.inr λc e=>by rw[a]at e;cases e) w]
 obtain⟨⟨d,q,r⟩,_⟩:=L.facts g;obtain⟨dir,rfl⟩:=Aq r h;obtain⟨_,info,s,_,_,t,_⟩:=L.facts j
 have u:(execOp (Frame.eval ⟨fid,tmps,.inRegion ops (i::rest)::k,defs,.run,kind,ro⟩) o).runT P w #[]=(.ok (.comm #[rcase c f.zero] true (.recv ok)) w,#[]):=by simp only[execOp,a,C];rw[vD q];simp only;rw[ya s t];rfl
 exact FK u
theorem DW{ops:Array Oper}{i:Nat}{rest:List Nat}{o:Oper}{fo:Operand}{args:Array Operand}{q:Array TypeId}{f:Fn}{first cap:List AV}{tmps:Array Value}{defs:List Deferred}{kind:CallKind}{cs:List Frame}{m:Mo}{env:Env}{g:ah}(D:ops[i]?=some o)(b:o.op=.go ⟨.value fo,args,q⟩)
 (u:tmps.size=n) (y:fH g tmps env) (E:cu ops n env o) (h:Oper.ok n o=true) (r:ar env fo=.fn f first cap):
 ∃ z A,Vs g z cap/\Vs g A (first++args.toList.map (ar env))/\∀w,stepG P m.main (G ⟨fid,tmps,.inRegion ops (i::rest)::k,defs,.run,kind,ro⟩ cs) w=
   .spawn (G (Frame.finish ⟨fid,tmps,.inRegion ops (i::rest)::k,defs,.run,kind,ro⟩ undef) cs) (x6 P {target:=.fn f z.toArray,args:=A.toArray}) w #[]:=by
 have d:∀x∈o.op.operands,V g (Frame.eval ⟨fid,tmps,.inRegion ops (i::rest)::k,defs,.run,kind,ro⟩ x) (ar env x):=λx s=>by refine V.eval y u x ?_;simp only[Oper.ok,Bool.and_eq_true,Array.all_eq_true_iff_forall_mem]at h;exact h.1 x s
 have t:=d fo (by simp[b,Op.operands,Call.operands])
 rw[r]at t;generalize F:Frame.eval _ fo=cf at t;cases t with
 | fn _ p B M N H I J K=>
   have C:=Vs.ofArray (k:=g) (ρ:=Frame.eval ⟨fid,tmps,.inRegion ops (i::rest)::k,defs,.run,kind,ro⟩) (env:=env) (xs:=args) (λx s=>d x (by simp[b,Op.operands,Call.operands,s]))
   refine⟨B.toList,p.toList++(args.map (Frame.eval ⟨fid,tmps,.inRegion ops (i::rest)::k,defs,.run,kind,ro⟩)).toList,⟨by simpa using J,λi v a j l=>K i v a (by simpa using j) l⟩,Vs.append ⟨by simpa using H,λi v a j l=>I i v a (by simpa using j) l⟩ ⟨by simpa using C.1,λi v a j l=>C.2 i v a (by simpa using j) l⟩,λw=>?_⟩
   rw[dS D (gO u y E) (.inr λc e=>by rw[b]at e;cases e) w]
   refine(DV (f:=f) (cap:=B) (args:=p++args.map (Frame.eval ⟨fid,tmps,.inRegion ops (i::rest)::k,defs,.run,kind,ro⟩)) ?_).trans ?_
   . simp only[execOp,b,resolve,F,Deferred.ofValue]
     rfl
   . have L:∀x:Array Value,(p.toList++x.toList).toArray=p++x:=λx=>by apply Array.ext';simp
     rw[L,Array.toArray_toList]
theorem LJ{m:Mo}{Q:ah->ai->Goroutine->Prop}{kk:ah}{O:ai}{tmps:Array Value}{defs:List Deferred}{kind:CallKind}{cs:List Frame}{f:FuncId}{fn:Func}{ops:Array Oper}{i:Nat}{rest:List Nat}{o:Oper}{args:Array Operand}{t:Array TypeId}(A:ops[i]?=some o)(b:o.op=.call ⟨.value (.func f),args,t⟩)(B:cu ops n s.env o)(g:Oper.ok n o=true)
 (C:P.funcs[f]?=some fn) (hb:fn.body.isSome=true) (u:(fn.name==  "runtime.NumGoroutine")=false) (p:B4 n kk O tmps defs kind cs s)
 (h:∀cargs,Vs kk cargs (args.toList.map (ar s.env))->T P m Q kk O (G (Frame.enter P f cargs.toArray .normal) (⟨fid,tmps,.inRegion ops (i::rest)::k,defs,.run,kind,ro⟩::gf s.rc cs))):T P m Q kk O (G ⟨fid,tmps,.inRegion ops (i::rest)::k,defs,.run,kind,ro⟩ (gf s.rc cs)):=by
 refine T.nZ (λw=>dS A (gO p.size p.env B) (.inr λc e=>by rw[b]at e;cases e) w) (dQ ?_)
 have j:∀x∈o.op.operands,V kk (Frame.eval ⟨fid,tmps,.inRegion ops (i::rest)::k,defs,.run,kind,ro⟩ x) (ar s.env x):=λx q=>by refine V.eval p.env p.size x ?_;simp only[Oper.ok,Bool.and_eq_true,Array.all_eq_true_iff_forall_mem]at g;exact g.1 x q
 have z:=Vs.ofArray (k:=kk) (ρ:=Frame.eval ⟨fid,tmps,.inRegion ops (i::rest)::k,defs,.run,kind,ro⟩) (env:=s.env) (xs:=args) (λx q=>j x (by simp[b,Op.operands,Call.operands,q]))
 have y:fn.body.isNone=false:=by cases q:fn.body<;>simp_all
 simp only[execOp,b,resolve];refine af ?_;show eh P (Deferred.ofValue (.func (.func f) #[] #[]) _) kk O _ _;simp only[Deferred.ofValue];refine aj ?_;simp only[invoke,callFunc];refine af (bN ?_);rw[C];simp only[u,y,Bool.false_eq_true,if_false];refine aj λ_=>⟨λd w r s l=>by simp,?_⟩
 have:=h (args.map (Frame.eval ⟨fid,tmps,.inRegion ops (i::rest)::k,defs,.run,kind,ro⟩)).toList ⟨by simpa using z.1,λi v a D E=>z.2 i v a (by simpa using D) E⟩
 have key:∀x:Array Value,x=(args.map (Frame.eval ⟨fid,tmps,.inRegion ops (i::rest)::k,defs,.run,kind,ro⟩)).toList.toArray->T P m Q kk O (G (Frame.enter P f x .normal) (⟨fid,tmps,.inRegion ops (i::rest)::k,defs,.run,kind,ro⟩::gf s.rc cs)):=λx e=>by rw[e];exact this
 refine key _ ?_;apply Array.ext';simp
def DX(P:Program)(m:Mo)(fid n:Nat)(ro:Option Nat)(K:Exit->St->Prop)(kd:CallKind)(a:List Frame)(d:ah)(Fin:ah->ai->Goroutine->Prop):Prop:=∀todo s b c tmps defs,Go P m fid n ro todo s K->s.rc=.no->B4 n b c tmps defs kd a s->d.Le b->Fin b c (G ⟨fid,tmps,todo,defs,.run,kd,ro⟩ a)
theorem Go.OV{m:Nat}{ops:Array Oper}{i:Nat}{rest:List Nat}{o:Oper}{args:Array Operand}{f:Array TypeId}{fn:Func}(r:ops[i]?=some o)(g:o.op=.call ⟨.value (.func A.ng.add),args,f⟩)(u:cu ops n s.env o)(j:Oper.ok n o=true)
 (w:P.funcs[A.ng.add]?=some fn) (hb:fn.body.isSome=true) (l:(fn.name==  "runtime.NumGoroutine")=false) (z:args.toList.map (ar s.env)=[.ref A.gb 0,.lit (.int .i64 1)])
 (h:Go P (G3 P A Fin m) fid n ro (.inRegion ops rest::k) {s with env:=bo s.env o.dst (.bG [])} (λ_ _=>False)):Go P (Ag P A Fin (m+1)) fid n ro (.inRegion ops (i::rest)::k) s K:=by
 intro Q kk O tmps defs kind cs p q F;refine LJ r g u j w hb l q λb t=>?_
 rw[z]at t;obtain⟨B,c⟩:=t
 have e:b.toArray=#[.pointer (some ⟨A.gb,0,none⟩),.int .i64 1]:=by
  match b,B,c with
  |[x,y],_,c=>have C:=c 0 x _ rfl rfl;have p:=c 1 y _ rfl rfl;cases C;cases p;rfl
 rw[e];refine .dC ja rfl ⟨rfl,_,_,rfl,?_⟩ (λ_ _ _ h=>h.elim);obtain⟨d,D,E⟩:=q.put (fid:=fid) (ro:=ro) (rest:=rest) (kk:=k) (σ':=s.σ) (v:=.tuple #[]) (a:=.bG []) (.refl kk) r (.bG _ _ rfl λi v a h=>by simp at h) q.rel;show T P (G3 P A Fin m) ja kk O (G (Frame.finish ⟨fid,tmps,.inRegion ops (i::rest)::k,defs,.run,kind,ro⟩ (.tuple #[])) (gf s.rc cs));rw[D];exact h ja kk O d defs kind cs p E .none
def kK(b:Nat):aa:=λc=>if c=b then some .kg else none
theorem Hh{m:Mo}{f:FuncId}{fn:Func}{body:Code}{cap args:List AV}{σ0:aa}{KE:ah->Exit->St->Prop}(n:P.funcs[f]?=some fn)(hb:fn.body=some body)(d:(fn.name==  "runtime.NumGoroutine")=false)(p:(args++cap).length<=fn.ntmps){kk:ah}(g:Rel kk ai.bot σ0)
 (q:AL P m ja f fn.ntmps none .deferred [di P] (KE kk) kk)
 (h:∀o,Go P m f fn.ntmps none [.code body] ⟨dD (args++cap),σ0,[],.told .deferred [di P] o⟩ (KE o)){a b:List Value}(i:Vs kk a cap) (j:Vs kk b args):
 T P m ja kk ai.bot (x6 P {target:=.fn (.func f) a.toArray,args:=b.toArray}):=by
 have k:fn.body.isNone=false:=by simp[hb]
 have hinv:∀w,(invoke (.fn (.func f) a.toArray) b.toArray).runT P w #[]=(.ok (.enter f (b++a).toArray) w,#[]):=λw=>by show Sem.runT P (callFunc f (b.toArray++a.toArray)) w #[]=_;unfold callFunc;rw[jf,n];simp only[d,k,Bool.false_eq_true,if_false];simp
 refine T.dW (g':=G (Frame.enter P f (b++a).toArray .deferred) [di P]) rfl (λw=>?_) ?_
 . simp only[x6,G,stepG,unwind,callDeferred,hinv]
   simp;rfl
 . have c:=j.append i
   have e:Frame.enter P f (b++a).toArray .deferred=⟨f,(b++a).toArray++Array.replicate (fn.ntmps-(b++a).length) undef,[.code body],[],.run,.deferred,none⟩:=by simp[Frame.enter,n,hb]
   have l:((b++a).toArray++Array.replicate (fn.ntmps-(b++a).length) undef).size=fn.ntmps:=by have:=c.1;simp at this p ⊢;omega
   rw[e];exact h kk ja kk ai.bot _ [] .deferred [di P] (by simp) ⟨l,tB c _,g,trivial,rfl,rfl,.refl kk⟩ q
def QK(P:Program)(A:eu)(fn:Func):Exit->St->Prop:=λe s=>fn.results=#[]/\(e=.leave none\/e=.leave (some .ret))/\(∃a,s.rc=.told .deferred [di P] a)/\∃r,s.D=[.mark r,.call (.func A.ng.done) [] [.ref A.gb 0]]/\s.σ r=some (.raw (.deferred (some [])))
theorem ID{f:FuncId}{fn fd:Func}(hf:P.funcs[f]?=some fn)(e:P.funcs[A.ng.done]?=some fd)(B:fd.body.isSome=true)(a:(fd.name==  "runtime.NumGoroutine")=false){kk:ah}:AL P (qH P A) ja f fn.ntmps none .deferred [di P] (QK P A fn) kk where
 leave k' O' tmps defs s todo p hle hs C g:=by
  obtain⟨b,E,⟨N,c⟩,r,q,t⟩:=g;obtain⟨env,σ,D,rc⟩:=s;simp only at c q t;subst c q;show T P (qH P A) ja k' O' (G ⟨f,tmps,todo,defs,.run,.deferred,none⟩ [di P]);have i:=hs.ds
  match defs,i with
  | [d1,d2],⟨u,y,_⟩=>
    simp only[vW]at u y;obtain⟨F,H,rfl,j,k⟩:=y;subst u;have e1:F=#[]:=by have:=j.1;simpa using this
    have e2:H=#[.pointer (some ⟨A.gb,0,none⟩)]:=by obtain⟨v,I,l⟩:=Vs.one k;cases l;apply Array.ext';simpa using I
    subst e1 e2;refine T.dW (g':=G ⟨f,tmps,todo,[{target:=.collected r,args:=#[]},{target:=.fn (.func A.ng.done) #[],args:=#[.pointer (some ⟨A.gb,0,none⟩)]}],.returning,.deferred,none⟩ [di P]) rfl (λw=>?_) ?_
    . rcases C with⟨rfl,rfl⟩|⟨kk,rfl,rfl⟩|⟨_,_,_,_,rfl⟩
      . simp[G,stepG,stepG.exec]
      . simp[G,stepG,stepG.exec]
      . simp at E
    . refine T.Cg (fid:=f) (s:=Instr.takeDeferred r) rfl (K:=λcalls z J=>calls=[]/\z=k') (nxt:=λcalls w=>.go (G ⟨f,tmps,todo,calls++[{target:=.fn (.func A.ng.done) #[],args:=#[.pointer (some ⟨A.gb,0,none⟩)]}],.returning,.deferred,none⟩ [di P]) w) ?_ ?_ ?_
      . rintro calls z J L _ _ ⟨rfl,rfl⟩
        refine⟨_,rfl,?_⟩
        have hinv:∀w,(invoke (.fn (.func A.ng.done) #[]) #[.pointer (some ⟨A.gb,0,none⟩)]).runT P w #[]=(.ok (.enter A.ng.done #[.pointer (some ⟨A.gb,0,none⟩)]) w,#[]):=λw=>by
         show Sem.runT P (callFunc A.ng.done _) w #[]=_;unfold callFunc;have m:fd.body.isNone=false:=by cases n:fd.body<;>simp_all
         rw[jf,e];simp only[a,m,Bool.false_eq_true,if_false];simp
        refine T.dW (g':=G (Frame.enter P A.ng.done #[.pointer (some ⟨A.gb,0,none⟩)] .deferred) [kX P f tmps todo,di P]) rfl (λw=>?_) ?_
        . simp only[G,stepG,unwind,callDeferred,hinv,List.nil_append]
          simp;rfl
        . exact .dC ja rfl ⟨rfl,f,fn,tmps,todo,hf,b,rfl⟩ (λ_ _ _ h=>h.elim)
      . intro w v L d
        simp only[G,stepG,unwind];rw[show(Instr.takeDeferred r).runT P w #[]=(((Instr.takeDeferred r).runT P w #[]).1,((Instr.takeDeferred r).runT P w #[]).2)from rfl,d]
      . obtain⟨x,n,o⟩:=hs.rel.1 r _ t (by simp)
        cases o with
        |raw _ hc=>unfold Instr.takeDeferred;refine af (s:=getObj r) ⟨_,n,rfl,?_⟩;exact af (s:=setObj r _) ⟨⟨_,n,rfl⟩,rfl,aj ⟨rfl,rfl⟩⟩
 panic k' O' tmps defs s todo O Q hle hs M g:=by obtain⟨_,h|h,_⟩:=g<;>cases h
theorem DY{kk:ah}{O:ai}{σ:aa}{b:Nat}(d:Rel kk O σ)(h:σ b=some .kg):Rel kk ai.bot (kK b):=by
 refine⟨λc a e f=>?_,λc a e _=>?_⟩
 . unfold kK at e
   split at e
   . cases e;cases f
   . cases e
 . unfold kK at e
   split at e
   . next q=>subst q;cases e;exact⟨rfl,(d.2 _ _ h rfl).2.1,λl q=>by cases q⟩
   . cases e
theorem Go.vv{m:Nat}{ops:Array Oper}{i:Nat}{rest:List Nat}{o:Oper}{fo:Operand}{args:Array Operand}{c:Array TypeId}{f:FuncId}{fn:Func}{body:Code}{first cap:List AV}(t:ops[i]?=some o)(d:o.op=.go ⟨.value fo,args,c⟩)(u:cu ops n s.env o)(e:Oper.ok n o=true)
 (g:ar s.env fo=.fn (.func f) first cap) (v:P.funcs[f]?=some fn) (hb:fn.body=some body) (j:(fn.name==  "runtime.NumGoroutine")=false) (x:((first++args.toList.map (ar s.env))++cap).length<=fn.ntmps) (l:s.σ A.fb=some .kg)
 (y:∀z,Go P (lC P A (A.n-(m+1))) f fn.ntmps none [.code body] ⟨dD ((first++args.toList.map (ar s.env))++cap),kK A.fb,[],.told .deferred [di P] z⟩ (λ_ _=>False))
 (h:Go P (Ag P A Fin m) fid n ro (.inRegion ops rest::k) {s with env:=bo s.env o.dst .bC} (λ_ _=>False)):Go P (G3 P A Fin m) fid n ro (.inRegion ops (i::rest)::k) s K:=by
 intro Q kk O tmps defs kind cs B b E;obtain⟨F,G,p,q,r⟩:=DW (P:=P) (fid:=fid) (k:=k) (rest:=rest) (defs:=defs) (kind:=kind) (ro:=ro) (cs:=gf s.rc cs) (m:=G3 P A Fin m) t d b.size b.env u e g;obtain⟨a,C,D⟩:=b.put (fid:=fid) (ro:=ro) (rest:=rest) (kk:=k) (σ':=s.σ) (.refl kk) t (.bC undef) b.rel;refine .dC ja rfl ⟨rfl,_,_,λw _=>r w,Hh (KE:=λ_ _ _=>False) v hb j x (DY b.rel l) .none y p q,?_⟩ (λ_ _ _ h=>h.elim);rw[C];exact h ja kk O a defs kind cs B D .none
theorem Go.VK{ops:Array Oper}{i:Nat}{rest:List Nat}{o:Oper}{fo:Operand}{args:Array Operand}{c:Array TypeId}{f:FuncId}{fn:Func}{body:Code}{first cap:List AV}(t:ops[i]?=some o)(d:o.op=.go ⟨.value fo,args,c⟩)(u:cu ops n s.env o)(e:Oper.ok n o=true)
 (g:ar s.env fo=.fn (.func f) first cap) (v:P.funcs[f]?=some fn) (hb:fn.body=some body) (j:(fn.name==  "runtime.NumGoroutine")=false) (x:((first++args.toList.map (ar s.env))++cap).length<=fn.ntmps) (l:s.σ A.fb=some .kg)
 (y:∀z,Go P (xH P A) f fn.ntmps none [.code body] ⟨dD ((first++args.toList.map (ar s.env))++cap),kK A.fb,[],.told .deferred [di P] z⟩ (λ_ _=>False))
 (h:Go P (qV P A Fin A.n (List.range A.n)) fid n ro (.inRegion ops rest::k) {s with env:=bo s.env o.dst .bC} (λ_ _=>False)):Go P (Ag P A Fin 0) fid n ro (.inRegion ops (i::rest)::k) s K:=by
 intro Q kk O tmps defs kind cs B b E;obtain⟨F,G,p,q,r⟩:=DW (P:=P) (fid:=fid) (k:=k) (rest:=rest) (defs:=defs) (kind:=kind) (ro:=ro) (cs:=gf s.rc cs) (m:=Ag P A Fin 0) t d b.size b.env u e g;obtain⟨a,C,D⟩:=b.put (fid:=fid) (ro:=ro) (rest:=rest) (kk:=k) (σ':=s.σ) (.refl kk) t (.bC undef) b.rel;refine .dC ja rfl ⟨rfl,_,_,λw _=>r w,Hh (KE:=λ_ _ _=>False) v hb j x (DY b.rel l) .none y p q,?_⟩ (λ_ _ _ h=>h.elim);rw[C];exact h ja kk O a defs kind cs B D .none
theorem Go.LL{j:Nat}{ops:Array Oper}{i:Nat}{rest:List Nat}{o:Oper}{ch x:Operand}{fn fd:Func}{C:ah}(q:ops[i]?=some o)(f:o.op=.send ch x)(g:Oper.ok n o=true)(B:cu ops n s.env o)(l:ar s.env ch=.chan A.cF)(D:ar s.env x=A.res j)
 (r:s.σ A.fb=some .kg) (t:s.rc=.told .deferred [di P] C) (u:ro=none) (E:P.funcs[fid]?=some fn) (F:n=fn.ntmps) (y:P.funcs[A.ng.done]?=some fd) (z:fd.body.isSome=true) (p:(fd.name==  "runtime.NumGoroutine")=false)
 (h:Go P (qH P A) fid n ro (.inRegion ops rest::k) {s with env:=bo s.env o.dst (.lit undef)} (QK P A fn)):Go P (lC P A j) fid n ro (.inRegion ops (i::rest)::k) s K:=by
 intro Q kk O tmps defs kind cs H a R;have c:=a.rc;rw[t]at c;obtain⟨rfl,rfl,I⟩:=c;subst u F;obtain⟨d,J,L⟩:=a.put (fid:=fid) (ro:=none) (rest:=rest) (kk:=k) (σ':=s.σ) (.refl kk) q (.lit undef) a.rel;have M:=h ja kk O d defs .deferred [di P] H L (ID E y z p);refine .dC ja rfl (.inr (.inr ⟨rfl,(a.rel.2 _ _ r rfl).1,G ⟨fid,tmps,.inRegion ops (i::rest)::k,defs,.run,.deferred,none⟩ (gf s.rc [di P]),.tuple #[],Frame.eval ⟨fid,tmps,.inRegion ops (i::rest)::k,defs,.run,.deferred,none⟩ x,λw _=>?_,?_,?_⟩)) (λ_ _ _ h=>h.elim)
 . obtain⟨v,_,e,rfl⟩:=x9 (P:=P) (m:=lC P A j) (b:=false) q f a.size a.env B g l w (fid:=fid) (ro:=none) (k:=k) (rest:=rest) (defs:=defs) (kind:=.deferred) (cs:=gf s.rc [di P])
   exact e
 . obtain⟨v,N,_,rfl⟩:=x9 (P:=P) (m:=lC P A j) (b:=false) q f a.size a.env B g l default (fid:=fid) (ro:=none) (k:=k) (rest:=rest) (defs:=defs) (kind:=.deferred) (cs:=gf s.rc [di P])
   rw[<-D];exact N
 . show T P (qH P A) ja kk O (G (Frame.finish ⟨fid,tmps,.inRegion ops (i::rest)::k,defs,.run,.deferred,none⟩ undef) (gf s.rc [di P]))
   rw[J];exact M
theorem Go.LM{ops:Array Oper}{i:Nat}{rest:List Nat}{o:Oper}{args:Array Operand}{d:Array TypeId}{fn:Func}(p:ops[i]?=some o)(e:o.op=.call ⟨.value (.func A.ng.wait),args,d⟩)(t:cu ops n s.env o)(f:Oper.ok n o=true)
 (u:P.funcs[A.ng.wait]?=some fn) (hb:fn.body.isSome=true) (g:(fn.name==  "runtime.NumGoroutine")=false) (w:args.toList.map (ar s.env)=[.ref A.gb 0])
 (h:Go P (rL P A) fid n ro (.inRegion ops rest::k) {s with env:=bo s.env o.dst (.bG [])} (λ_ _=>False)):Go P (xH P A) fid n ro (.inRegion ops (i::rest)::k) s K:=by
 intro Q kk O tmps defs kind cs x j B;refine LJ p e t f u hb g j λl q=>?_
 rw[w]at q;obtain⟨v,rfl,m⟩:=Vs.one q;cases m;refine .dC ja rfl ⟨rfl,_,_,rfl,λr c=>?_⟩ (λ_ _ _ h=>h.elim);obtain⟨b,y,z⟩:=j.put (fid:=fid) (ro:=ro) (rest:=rest) (kk:=k) (σ':=s.σ) (v:=.tuple #[]) (a:=.bG []) c p (.bG _ _ rfl λi v a h=>by simp at h) (j.rel.mono c);show T P (rL P A) ja r O (G (Frame.finish ⟨fid,tmps,.inRegion ops (i::rest)::k,defs,.run,kind,ro⟩ (.tuple #[])) (gf s.rc cs));rw[y];exact h ja r O b defs kind cs x z .none
theorem FL{c s r:Nat}{tm:Bool}{w:World}{a:Array TypeId}{ty:TypeId}{cs:Array Bool}(h:w.heap[c]?=some (.chan 0 #[] false s r tm)):
 (invoke (.builtin .close a ty cs) #[.chan (some c)]).runT P w #[]=(.ok (.value (.tuple #[])) {w with heap:=w.heap.setIfInBounds c (.chan 0 #[] true s r tm)},#[⟨.obj c,false,true⟩,⟨.obj c,true,true⟩]):=by
 change Sem.runT P (Sem.getObj c _) w #[]=_;rw[Sem.runT,h];change Sem.runT P (Sem.setObj c _ _) w _=_;rw[Sem.runT,h];rfl
theorem DZ{fr:Frame}{cs:List Frame}{x:Sem Go.Next}{w w':World}{v:Value}{es:Array Event}(a:(fr.kind==.early)=false)(h:x.runT P w #[]=(.ok (.value v) w',es))(b:seen P fr.fn es=es):stepG.apply P true fr cs none x w=.go (G (fr.finish v) cs) w' es:=by simp only[stepG.apply,if_true,h,a,GStep.after];simp[b,G]
theorem Go.FM{ops:Array Oper}{i:Nat}{rest:List Nat}{o:Oper}{ch:Operand}{j:Array TypeId}{fn:Func}{y:ah}(l:ops[i]?=some o)(b:o.op=.call ⟨.builtin .close,#[ch],j⟩)(f:Oper.ok n o=true)(B:o.guard=none)(a:ar s.env ch=.chan A.cF)
 (g:s.rc=.told .deferred [di P] y) (z:s.D=[]) (p:ro=none) (C:P.funcs[fid]?=some fn) (E:fn.results=#[]) (F:(Item.inRegion ops rest::k).all Ar=true):Go P (rL P A) fid n ro (.inRegion ops (i::rest)::k) s K:=by
 intro Q kk O tmps defs kind cs M e R;obtain⟨env,σ,D,rc⟩:=s;simp only at g z;subst g;subst z;subst p;obtain⟨rfl,rfl,H⟩:=e.rc;have c:defs=[]:=by cases defs with|nil=>rfl|cons _ _=>exact e.ds.elim
 subst c;obtain⟨d,I,S⟩:=e.put (fid:=fid) (ro:=none) (rest:=rest) (kk:=k) (σ':=σ) (v:=.tuple #[]) (.refl kk) l (.bC _) e.rel;obtain⟨N,J⟩:=x7 (tmps:=d) C E _ F
 have q:V kk (Frame.eval ⟨fid,tmps,.inRegion ops (i::rest)::k,[],.run,.deferred,none⟩ ch) (ar env ch):=by refine V.eval e.env e.size ch ?_;simp only[Oper.ok,Bool.and_eq_true,Array.all_eq_true_iff_forall_mem]at f;exact f.1 ch (by rw[b];simp[Op.operands,Call.operands])
 simp only at a;rw[a]at q;generalize t:Frame.eval ⟨fid,tmps,.inRegion ops (i::rest)::k,[],.run,.deferred,none⟩ ch=T at q;cases q;refine .dC ja rfl ⟨rfl,G (Frame.finish ⟨fid,tmps,.inRegion ops (i::rest)::k,[],.run,.deferred,none⟩ (.tuple #[])) [di P],N,?_,λw s r L U a=>?_,?_⟩ (λ_ _ _ h=>h.elim)
 . simp[mayWake,G,gf,l,b]
 . have u:Region.wanted o (yielded ops tmps)=true:=by simp[Region.wanted,B]
   have x:(execOp (Frame.eval ⟨fid,tmps,.inRegion ops (i::rest)::k,[],.run,.deferred,none⟩) o).runT P w #[]=(.ok (.value (.tuple #[])) {w with heap:=w.heap.setIfInBounds A.cF (.chan 0 #[] true s r L)},#[⟨.obj A.cF,false,true⟩,⟨.obj A.cF,true,true⟩]):=by
    simp only[execOp,b,resolve];have:(#[ch].map (Frame.eval ⟨fid,tmps,.inRegion ops (i::rest)::k,[],.run,.deferred,none⟩))=#[.chan (some A.cF)]:=by simp[t]
    rw[this];exact FL (cs:=#[]) a
   rw[show gf (Rec.told CallKind.deferred [di P] y) [di P]=[di P]from rfl]
   refine(dS (m:=rL P A) l u (.inl rfl) w).trans ?_;exact DZ (by simp) x (by simp[seen])
 . rw[I]
   exact J
theorem Go.Hi(L:iG P){m:Nat}{R:List Nat}{ops:Array Oper}{i:Nat}{rest:List Nat}{o:Oper}{ct ce:Nat}{B D:TI}{ch:Operand}(C:ops[i]?=some o)(p:o.op=.recv ct ch true)(q:L.tt ct=some B)(r:B.kind=.chan ce)(t:L.tt ce=some D)
 (x:Oper.ok n o=true) (E:cu ops n s.env o) (y:ar s.env ch=.chan A.cF)
 (h:∀j∈R,Go P (qV P A Fin m (R.erase j)) fid n ro (.inRegion ops rest::k) {s with env:=bo s.env o.dst (.bG [A.res j,.lit (.bool true)])} (λ_ _=>False)):Go P (qV P A Fin (m+1) R) fid n ro (.inRegion ops (i::rest)::k) s K:=by
 intro Q kk O tmps defs kind cs F g N;have c:=yc (P:=P) (fid:=fid) (k:=k) (rest:=rest) (defs:=defs) (kind:=kind) (ro:=ro) (cs:=gf s.rc cs) (m:=qV P A Fin (m+1) R) L C p q r t g.size g.env E x y;refine .dC ja rfl ⟨rfl,_,_,λw _=>c w,λw _=>c w,rfl,λj H z v d I=>?_⟩ (λ_ _ _ h=>h.elim)
 have e:V z (.tuple #[v,.bool true]) (.bG [A.res j,.lit (.bool true)]):=.bG _ _ rfl λi u a l f=>by
  match i with
  |0=>simp at l f;subst l;subst f;exact I
  |1=>simp at l f;subst l;subst f;exact .lit _
  |i+2=>simp at f
 obtain⟨b,J,M⟩:=g.put (fid:=fid) (ro:=ro) (rest:=rest) (kk:=k) (σ':=s.σ) d C e (g.rel.mono d);show T P (qV P A Fin m (R.erase j)) ja z O (G (Frame.finish ⟨fid,tmps,.inRegion ops (i::rest)::k,defs,.run,kind,ro⟩ _) (gf s.rc cs));rw[J];exact h j H ja z O b defs kind cs F M .none
theorem Go.BT(L:iG P){m:Mo}{M:Exit->St->Prop}{kd:CallKind}{f:List Frame}{N:ah}{R:List Nat}{ops:Array Oper}{i:Nat}{rest:List Nat}{o:Oper}{ct ce:Nat}{S T:TI}{ch:Operand}(U:ops[i]?=some o)(v:o.op=.recv ct ch true)(y:L.tt ct=some S)(z:S.kind=.chan ce)(B:L.tt ce=some T)
 (C:Oper.ok n o=true) (W:cu ops n s.env o) (D:ar s.env ch=.chan A.cF) (E:s.σ A.fb=some .kg) (g:s.rc=.told kd f N) (j:DX P m fid n ro M kd f N Fin)
 (h:∀a,A.GI a->Go P m fid n ro (.inRegion ops rest::k) {s with env:=bo s.env o.dst (.bG [.bC,.lit (.bool false)]),σ:=(s.σ.set A.mb a).set A.fb (.part (bS A.fo)),rc:=.no} M):Go P (qV P A Fin 0 R) fid n ro (.inRegion ops (i::rest)::k) s K:=by
 intro Q kk O tmps defs kind cs Y e Z;have l:=yc (P:=P) (fid:=fid) (k:=k) (rest:=rest) (defs:=defs) (kind:=kind) (ro:=ro) (cs:=gf s.rc cs) (m:=qV P A Fin 0 R) L U v y z B e.size e.env W C D;have b:=e.rc;rw[g]at b;obtain⟨rfl,rfl,F⟩:=b;refine .dC ja rfl ⟨rfl,_,_,λw _=>l w,λw _=>l w,rfl,(e.rel.2 _ _ E rfl).2.1,λH x a c I J=>?_⟩ (λ_ _ _ h=>h.elim)
 have p:V H (.tuple #[T.zero,.bool false]) (.bG [.bC,.lit (.bool false)]):=.bG _ _ rfl λi u a r q=>by
  match i with
  |0=>simp at r q;subst r;subst q;exact .bC _
  |1=>simp at r q;subst r;subst q;exact .lit _
  |i+2=>simp at q
 obtain⟨d,X,t⟩:=e.put (fid:=fid) (ro:=ro) (rest:=rest) (kk:=k) (σ':=(s.σ.set A.mb a).set A.fb (.part (bS A.fo))) (O':=(O.set A.mb x).set A.fb (.part (bS A.fo))) c U p (((e.rel.mono c).set I).set (.part _));show Fin H _ (G (Frame.finish ⟨fid,tmps,.inRegion ops (i::rest)::k,defs,.run,kind,ro⟩ _) (gf s.rc cs));rw[X,g];exact j _ _ H _ d defs (h a J) rfl ⟨t.size,t.env,t.rel,t.ds,trivial⟩ (F.trans c)
theorem Go.cB{m:Mo}{todo:List Item}(k:m.solo=true)(B:lp)(C:jH P B.ng)(X:ll P B.ng)(CM:iT P B.nm)(XM:iU P B.nm)(F:rK P B.nm){tm:Bool}{a:jB}
 (hF:s.σ B.cF=some (.raw (.chan 0 #[] false 0 0 tm))) (hG:s.σ B.gb=some (.cells [.lit (.int .u64 0),.lit (.int .u32 0)])) (hL:s.σ B.fb=some (.part (bS B.fo))) (hM:s.σ B.mb=some a) (S:a.gone=false) (U:B.GI a) (V:s.rc=.no)
 (h:∀(b:Nat) (hb:0<b) (Fin:ah->ai->Goroutine->Prop) (kd:CallKind) (A:List Frame) (k0:ah),DX P m fid n ro K kd A k0 Fin ->
   Go P (Ag P (B.at b hb) Fin B.n) fid n ro todo {s with σ:=((((s.σ.del B.cF).del B.gb).del B.mb).set B.fb .kg),rc:=.told kd A k0} (λ_ _=>False)):Go P m fid n ro todo s K:=by
 intro Q M O tmps defs kind cs h1 g h3;rw[V];refine T.sat rfl λ⟨w,D⟩=>?_
 obtain⟨xF,oF,rF⟩:=g.rel.1 _ _ hF (by simp)
 obtain⟨xG,oG,rG⟩:=g.rel.1 _ _ hG (by simp)
 obtain⟨xM,oM,rM⟩:=g.rel.1 _ _ hM S;have oL:=g.rel.Hg hL;cases rF;cases rG with
 | cells N eg _ q1 q2 q3=>
   have hg:∀(i:Nat) (v:Value),([.lit (.int .u64 0),.lit (.int .u32 0)]:List AV)[i]?=some (AV.lit v)->N[i]?=some v:=λi v hv=>by
    have E:i<N.size:=by rw[q1];exact(List.getElem?_eq_some_iff.1 hv).1
    have G:=q2 i N[i] _ (by simp[E]) hv
    generalize hq:N[i]=u at G;cases G;simp[E,hq]
   obtain⟨ec,cc,_,H,_⟩:=D.part _ _ oL;refine .phase (λI J W=>T P m Q I J W) k (λ_ _ _ h=>h) (FH B C X CM XM F oF oG (hg 0 _ rfl) (hg 1 _ rfl) oL oM rM U λb hb=>?_)
   have L:DX P m fid n ro K kind cs M (λI J W=>T P m Q I J W):=λY s' I J o p r hn hs Z=>by have:=r Q I J o p kind cs h1 hs (h3.mono Z);rw[hn]at this;exact this
   have r:=h b hb _ kind cs M L;refine r ja M _ tmps defs kind cs h1 ⟨g.size,g.env,?_,g.ds,rfl,rfl,.refl M⟩ .none;refine⟨λd y e R=>?_,λd y e R=>?_⟩
   . by_cases c:d=B.fb
     . subst c;simp[aa.set]at e;subst e;cases R
     by_cases f:d=B.mb
     . subst f;simp[aa.set,aa.del,c]at e
     by_cases j:d=B.gb
     . subst j;simp[aa.set,aa.del,c,f]at e
     by_cases t:d=B.cF
     . subst t;simp[aa.set,aa.del,c,f,j]at e
     simp only[aa.set,aa.del,c,f,j,t,if_false]at e;obtain⟨x,z1,z2⟩:=g.rel.1 d y e R;exact⟨x,by simp[lp.rest,c,f,j,t,z1],z2⟩
   . by_cases c:d=B.fb
     . subst c
       have q:y=.kg:=by simpa[aa.set]using e.symm
       exact⟨by simp[lp.rest],⟨_,H⟩,λl z=>by rw[q]at z;cases z⟩
     by_cases f:d=B.mb
     . subst f;simp[aa.set,aa.del,c]at e
     by_cases j:d=B.gb
     . subst j;simp[aa.set,aa.del,c,f]at e
     by_cases t:d=B.cF
     . subst t;simp[aa.set,aa.del,c,f,j]at e
     simp only[aa.set,aa.del,c,f,j,t,if_false]at e;obtain⟨z1,z2⟩:=g.rel.2 d y e R;exact⟨by simp[lp.rest,c,f,j,t,z1],z2⟩
end
end Go.bd
namespace Go.bd
open Go.Conc
section
variable{P:Program}{m:Mo}{fid n:Nat}{ro:Option Nat}{hold:List Entry}{K:Exit->St->Prop}{todo:List Item}
theorem Go.QL{env a:Env}{σ:aa}{D:List lQ}{rc:Rec}(c:∀t,(env t).W (a t))(h:Go P m fid n ro todo ⟨a,σ,D,rc⟩ K):Go P m fid n ro todo ⟨env,σ,D,rc⟩ K:=λQ k O tmps defs kind cs d b e=>h Q k O tmps defs kind cs d ⟨b.size,λt f=>c t _ _ (b.env t f),b.rel,b.ds,b.rc⟩ e
theorem ab.QL{env a:Env}{σ:aa}{D:List lQ}{rc:Rec}(c:∀t,(env t).W (a t))(h:ab P m fid n ro hold todo ⟨a,σ,D,rc⟩ K):ab P m fid n ro hold todo ⟨env,σ,D,rc⟩ K:=λb=>Go.QL c (h b)
theorem ab.zt{env:Env}{σ:aa}{D:List lQ}{rc:Rec}(t:Nat){a':AV}(a:(env t).W a')(h:ab P m fid n ro hold todo ⟨env.upd t a',σ,D,rc⟩ K):ab P m fid n ro hold todo ⟨env,σ,D,rc⟩ K:=
 ab.QL (λu=>by
  by_cases e:u=t
  . subst e;simpa[Env.upd]using a
  . simp only[Env.upd,e,if_false];exact .refl _) h
theorem Tok.up{σ0 σ σ':aa}{a:AV}{kk:Nat}{es:List AV}(h:Tok σ0 σ a kk es)(c:σ.Le σ'):Tok σ0 σ' a kk es:=by
 refine⟨aa.le_trans h.1 c,?_⟩;rcases h.2 with h|h|⟨b,e,d,f,g⟩
 . exact .inl h
 . exact .inr (.inl h)
 . exact .inr (.inr ⟨b,e,d,f,c _ _ g⟩)
theorem ab.bY{env:Env}{σ:aa}{D:List lQ}{rc:Rec}(t:Nat){b:Nat}{l:List AV}(v:AV)(hb:σ b=some (.cells l))(d:env t=.ref b 0)(c:v.cells=l)(h:ab P m fid n ro hold todo ⟨env.upd t (.cp v 0),σ.del b,D,rc⟩ K):ab P m fid n ro hold todo ⟨env,σ,D,rc⟩ K:=
 ab.freeze b l hb (λu=>Fz.upd (t:=t) (a':=.cp v 0) (by rw[d];exact .cp 0 0 v (by rw[c];simp) (λj a h=>by rw[c]at h;simpa using h)) u) (Hw.del _ _ _) h
theorem rR(L:iG P){t f:Nat}{name:String}{i:TI}{info:TypeInfo}{mt:Method}{a:AV}(e:L.tt t=some i)(g:P.info? t=some info)(h:info.methods.find? (·.name==name)=some mt)(j:mt.path.toList=[])(l:mt.func=some (f,false))(m:i.kind=.struct):oB P t name f a a:=by
 intro k O v K Kp n o;have p:Made.depth≠0:=by decide
 obtain⟨N,q⟩:∃N,P.types.size+Made.depth=N+1:=Nat.exists_eq_succ_of_ne_zero (by omega);rw[q];unfold method;refine af (cV L e λc b _ _ _=>?_);rw[g]at b;cases b;simp only[h,j];unfold follow;refine af (aj ?_);simp only[l];refine af ?_;unfold receiverAt;refine af (aD L e λs _ d=>?_);obtain⟨r,rfl,_⟩:=sa d m;simp only[Place.get];exact aj (aj (o _ n))
theorem aa.Le.none{σ σ':aa}(h:σ.Le σ'){b:Nat}(hb:σ' b=Option.none):σ b=Option.none:=by
 cases e:σ b with
 |none=>rfl
 |some x=>rw[h b x e]at hb;cases hb
end
def jB.plain:jB->Bool
 |.part _=>false
 |.kg=>false
 |.stay _=>false
 |.map _=>false
 |_=>true
structure Gu(P:Program)(m:Mo)(nm:Ae)(b o mb:Nat)(kd:IntKind)(GI:List (Int × AV)->Prop)(Un:aa->Prop)(Ld:aa->List (Int × AV)->Prop):Prop where
 lock:∀{a:AV}{σ:aa}{KF:dV->aa->Prop},rQ b o a->Un σ->(∀σ' l,Ld σ' l->GI l->(∀c,c≠b->c≠mb->σ' c=σ c)->(∀y,σ mb=some y->y.plain=false)->KF (.val (.bG [])) σ')->aB P m nm.lock [a] σ KF
 unlock:∀{a:AV}{σ:aa}{l:List (Int × AV)}{KF:dV->aa->Prop},rQ b o a->Ld σ l->GI l->(∀σ',Un σ'->(∀c,c≠b->c≠mb->σ' c=σ c)->KF (.val (.bG [])) σ')->aB P m nm.unlock [a] σ KF
 map:∀{σ:aa}{l:List (Int × AV)},Ld σ l->σ mb=some (mapA kd l)
 put:∀{σ:aa}{l l':List (Int × AV)},Ld σ l->Ld (σ.set mb (mapA kd l')) l'
 un:∀{σ σ':aa},(∀c,c=b\/c=mb->(∃x,σ c=some x/\x.plain=false)->σ' c=σ c)->Un σ->Un σ'
 ld:∀{σ σ':aa}{l:List (Int × AV)},(∀c,c=b\/c=mb->(∃x,σ c=some x/\x.plain=false)->σ' c=σ c)->Ld σ l->Ld σ' l
 N1:∀{σ:aa},Un σ->∃x,σ b=some x/\x.plain=false
 WH:∀{σ:aa}{l:List (Int × AV)},Ld σ l->∃x,σ b=some x/\x.plain=false
def yA(b o mb:Nat)(kd:IntKind)(GI:List (Int × AV)->Prop)(σ:aa):Prop:=σ b=some (.part (bS o))/\∃l,σ mb=some (mapA kd l)/\GI l
def Up(b o mb:Nat)(kd:IntKind)(σ:aa)(l:List (Int × AV)):Prop:=σ b=some (.part (iA o))/\σ mb=some (mapA kd l)
def WJ(b:Nat)(σ:aa):Prop:=σ b=some .kg
def X2(b mb:Nat)(kd:IntKind)(σ:aa)(l:List (Int × AV)):Prop:=σ b=some (.part sX)/\σ mb=some (mapA kd l)
section
variable{P:Program}{nm:Ae}(C:iT P nm)(X:iU P nm)(F:rK P nm)
include C X F in
theorem fS{m:Mo}(hs:m.solo=true){b o mb:Nat}(d:b≠mb){kd:IntKind}{GI:List (Int × AV)->Prop}:Gu P m nm b o mb kd GI (yA b o mb kd GI) (Up b o mb kd) where
 lock {a σ p} g hu h:=by obtain⟨f,l,e,i⟩:=hu;exact IB C X F hs g f (h _ l ⟨aa.ak _ _ _,by rw[aa.ag _ _ (Ne.symm d)];exact e⟩ i (λc hc _=>aa.ag _ _ hc) (λy k=>by rw[e]at k;cases k;rfl))
 unlock {a σ l p} g n hg h:=DR C X F hs g n.1 (h _ ⟨aa.ak _ _ _,l,by rw[aa.ag _ _ (Ne.symm d)];exact n.2,hg⟩ (λc hc _=>aa.ag _ _ hc))
 map h:=h.2
 put {σ l q} h:=⟨by rw[aa.ag _ _ d];exact h.1,aa.ak _ _ _⟩
 un {σ j} he h:=by obtain⟨f,l,e,i⟩:=h;exact⟨by rw[he b (.inl rfl) ⟨_,f,rfl⟩];exact f,l,by rw[he mb (.inr rfl) ⟨_,e,rfl⟩];exact e,i⟩
 ld {σ j l} he h:=⟨by rw[he b (.inl rfl) ⟨_,h.1,rfl⟩];exact h.1,by rw[he mb (.inr rfl) ⟨_,h.2,rfl⟩];exact h.2⟩
 N1 h:=⟨_,h.1,rfl⟩
 WH h:=⟨_,h.1,rfl⟩
theorem LN{A:eu}{j:Nat}{kd:IntKind}{GI:List (Int × AV)->Prop}(i:∀x,A.GI x↔∃l,x=mapA kd l/\GI l):Gu P (lC P A j) A.nm A.fb A.fo A.mb kd GI (WJ A.fb) (X2 A.fb A.mb kd) where
 lock {a σ k} e hu h:=IC e hu λx m hm=>by obtain⟨l,rfl,d⟩:=(i x).1 m;exact h _ l ⟨aa.ak _ _ _,by rw[aa.ag _ _ (Ne.symm A.d5),aa.ak]⟩ d (λc f g=>by rw[aa.ag _ _ f,aa.ag _ _ g]) (λy n=>by have:=hm y n;cases y<;>first|rfl|cases this)
 unlock {a σ l k} e d hg h:=DT e d.1 d.2 ((i _).2 ⟨l,rfl,hg⟩) rfl (h _ (aa.ak _ _ _) (λc f g=>by rw[aa.ag _ _ f];simp[aa.del,g]))
 map h:=h.2
 put {σ l o} h:=⟨by rw[aa.ag _ _ A.d5];exact h.1,aa.ak _ _ _⟩
 un {σ b} he h:=by have h:σ A.fb=some .kg:=h;show b A.fb=some .kg;rw[he _ (.inl rfl) ⟨_,h,rfl⟩];exact h
 ld {σ b l} he h:=⟨by rw[he _ (.inl rfl) ⟨_,h.1,rfl⟩];exact h.1,by rw[he _ (.inr rfl) ⟨_,h.2,rfl⟩];exact h.2⟩
 N1 h:=⟨_,h,rfl⟩
 WH h:=⟨_,h.1,rfl⟩
end
def As(a:Nat):Option TypeDesc->Bool
 |some (.struct fs)=>(match fs.toList with|[f]=>f.name !=  "_" && f.type==a && f.offset==0|_=>false)
 |_=>false
theorem HY.of{P:Program}{mt b e c:Nat}{kd:IntKind}(g:P.underlying mt=some (.map b e))(a:As c (P.underlying b)=true)(h:P.underlying c=some (.int kd))(i:P.stoodInHeld b=false):HY P mt b e c kd:=by
 refine⟨g,?_,h,i⟩;generalize P.underlying b=d at a;unfold As at a;split at a
 . next fs=>
   split at a
   . next f j=>simp only[Bool.and_eq_true,bne_iff_ne,beq_iff_eq]at a;refine⟨f,?_,a.1.1,a.1.2,a.2⟩;congr 2;apply Array.ext';rw[j]
   . cases a
 . cases a
def lh(b mb:Nat)(σ σ':aa):Prop:=∀c x,σ c=some x->c≠b->(c≠mb\/x.plain=true)->σ' c=some x
theorem lh.refl(b mb:Nat)(σ:aa):lh b mb σ σ:=λ_ _ h _ _=>h
section
variable{P:Program}(L:iG P){m:Mo}{fid n:Nat}{ro:Option Nat}{hold:List Entry}{s:St}{k:List Item}{K:Exit->St->Prop}{A:eu}{Fin:ah->ai->Goroutine->Prop}
theorem ab.runN(mu:List Nat)(N:Nat){todo:List Item}(h:bx L m fid n ro mu hold N todo s K):ab P m fid n ro hold todo s K:=λa=>Go.bx L mu hold N a h
theorem ab.LO{c:Code}(h:ab P m fid n ro hold (.code c::.inLoop c::k) s K):ab P m fid n ro hold (.code (.loop c)::k) s K:=λa=>.Pd (h (by simpa[lr,mJ]using a))
theorem ab.again{c:Code}(b:mJ hold c=true)(h:ab P m fid n ro hold (.code c::.inLoop c::k) s K):ab P m fid n ro hold (.inLoop c::k) s K:=λa=>.inLoop (h (by simp only[lr,List.all_cons,Bool.and_eq_true]at a ⊢;exact⟨b,trivial,a.2⟩))
theorem ab.cB{todo:List Item}(d:m.solo=true)(B:lp)(C:jH P B.ng)(X:ll P B.ng)(k:iT P B.nm)(l:iU P B.nm)(F:rK P B.nm){tm:Bool}{a:jB}
 (o:s.σ B.cF=some (.raw (.chan 0 #[] false 0 0 tm))) (p:s.σ B.gb=some (.cells [.lit (.int .u64 0),.lit (.int .u32 0)])) (q:s.σ B.fb=some (.part (bS B.fo))) (r:s.σ B.mb=some a) (f:a.gone=false) (g:B.GI a) (i:s.rc=.no)
 (h:∀(b:Nat) (hb:0<b) (Fin:ah->ai->Goroutine->Prop) (kd:CallKind) (c:List Frame) (e:ah),DX P m fid n ro K kd c e Fin ->
   ab P (Ag P (B.at b hb) Fin B.n) fid n ro hold todo {s with σ:=((((s.σ.del B.cF).del B.gb).del B.mb).set B.fb .kg),rc:=.told kd c e} (λ_ _=>False)):ab P m fid n ro hold todo s K:=λj=>
 Go.cB d B C X k l F o p q r f g i λb hb Fin kd c e t=>h b hb Fin kd c e t j
theorem ab.OV{m:Nat}{ops:Array Oper}{i:Nat}{rest:List Nat}{o:Oper}{args:Array Operand}{a:Array TypeId}{fn:Func}(f:ops[i]?=some o)(b:o.op=.call ⟨.value (.func A.ng.add),args,a⟩)(g:o.guard=none)(c:Oper.ok n o=true)
 (j:P.funcs[A.ng.add]?=some fn) (hb:fn.body.isSome=true) (d:(fn.name==  "runtime.NumGoroutine")=false) (l:args.toList.map (ar s.env)=[.ref A.gb 0,.lit (.int .i64 1)])
 (h:ab P (G3 P A Fin m) fid n ro hold (.inRegion ops rest::k) {s with env:=bo s.env o.dst (.bG [])} (λ_ _=>False)):ab P (Ag P A Fin (m+1)) fid n ro hold (.inRegion ops (i::rest)::k) s K:=λe=>
 Go.OV f b (cQ g) c j hb d l (h (by simpa[lr,mJ]using e))
theorem ab.vv{m:Nat}{ops:Array Oper}{i:Nat}{rest:List Nat}{o:Oper}{fo:Operand}{args:Array Operand}{b:Array TypeId}{f:FuncId}{fn:Func}{body:Code}{first cap:List AV}{hold':List Entry}(q:ops[i]?=some o)(c:o.op=.go ⟨.value fo,args,b⟩)(r:o.guard=none)(d:Oper.ok n o=true)
 (e:ar s.env fo=.fn (.func f) first cap) (t:P.funcs[f]?=some fn) (hb:fn.body=some body) (g:(fn.name==  "runtime.NumGoroutine")=false) (u:((first++args.toList.map (ar s.env))++cap).length<=fn.ntmps) (j:s.σ A.fb=some .kg) (a:lr hold' [.code body]=true)
 (v:∀l,ab P (lC P A (A.n-(m+1))) f fn.ntmps none hold' [.code body] ⟨dD ((first++args.toList.map (ar s.env))++cap),kK A.fb,[],.told .deferred [di P] l⟩ (λ_ _=>False))
 (h:ab P (Ag P A Fin m) fid n ro hold (.inRegion ops rest::k) {s with env:=bo s.env o.dst .bC} (λ_ _=>False)):ab P (G3 P A Fin m) fid n ro hold (.inRegion ops (i::rest)::k) s K:=λp=>
 Go.vv q c (cQ r) d e t hb g u j (λl=>v l a) (h (by simpa[lr,mJ]using p))
theorem ab.VK{ops:Array Oper}{i:Nat}{rest:List Nat}{o:Oper}{fo:Operand}{args:Array Operand}{b:Array TypeId}{f:FuncId}{fn:Func}{body:Code}{first cap:List AV}{hold':List Entry}(p:ops[i]?=some o)(c:o.op=.go ⟨.value fo,args,b⟩)(q:o.guard=none)(d:Oper.ok n o=true)
 (e:ar s.env fo=.fn (.func f) first cap) (r:P.funcs[f]?=some fn) (hb:fn.body=some body) (g:(fn.name==  "runtime.NumGoroutine")=false) (t:((first++args.toList.map (ar s.env))++cap).length<=fn.ntmps) (j:s.σ A.fb=some .kg) (a:lr hold' [.code body]=true)
 (u:∀l,ab P (xH P A) f fn.ntmps none hold' [.code body] ⟨dD ((first++args.toList.map (ar s.env))++cap),kK A.fb,[],.told .deferred [di P] l⟩ (λ_ _=>False))
 (h:ab P (qV P A Fin A.n (List.range A.n)) fid n ro hold (.inRegion ops rest::k) {s with env:=bo s.env o.dst .bC} (λ_ _=>False)):ab P (Ag P A Fin 0) fid n ro hold (.inRegion ops (i::rest)::k) s K:=λm=>
 Go.VK p c (cQ q) d e r hb g t j (λl=>u l a) (h (by simpa[lr,mJ]using m))
theorem ab.LL{j:Nat}{ops:Array Oper}{i:Nat}{rest:List Nat}{o:Oper}{ch x:Operand}{fn fd:Func}{q:ah}(r:ops[i]?=some o)(b:o.op=.send ch x)(c:Oper.ok n o=true)(t:o.guard=none)(d:ar s.env ch=.chan A.cF)(u:ar s.env x=A.res j)
 (e:s.σ A.fb=some .kg) (f:s.rc=.told .deferred [di P] q) (g:ro=none) (v:P.funcs[fid]?=some fn) (w:n=fn.ntmps) (l:P.funcs[A.ng.done]?=some fd) (m:fd.body.isSome=true) (a:(fd.name==  "runtime.NumGoroutine")=false)
 (h:ab P (qH P A) fid n ro hold (.inRegion ops rest::k) {s with env:=bo s.env o.dst (.lit undef)} (QK P A fn)):ab P (lC P A j) fid n ro hold (.inRegion ops (i::rest)::k) s K:=λp=>
 Go.LL r b c (cQ t) d u e f g v w l m a (h (by simpa[lr,mJ]using p))
theorem ab.LM{ops:Array Oper}{i:Nat}{rest:List Nat}{o:Oper}{args:Array Operand}{a:Array TypeId}{fn:Func}(f:ops[i]?=some o)(b:o.op=.call ⟨.value (.func A.ng.wait),args,a⟩)(g:o.guard=none)(c:Oper.ok n o=true)
 (j:P.funcs[A.ng.wait]?=some fn) (hb:fn.body.isSome=true) (d:(fn.name==  "runtime.NumGoroutine")=false) (l:args.toList.map (ar s.env)=[.ref A.gb 0])
 (h:ab P (rL P A) fid n ro hold (.inRegion ops rest::k) {s with env:=bo s.env o.dst (.bG [])} (λ_ _=>False)):ab P (xH P A) fid n ro hold (.inRegion ops (i::rest)::k) s K:=λe=>
 Go.LM f b (cQ g) c j hb d l (h (by simpa[lr,mJ]using e))
theorem ab.FM{ops:Array Oper}{i:Nat}{rest:List Nat}{o:Oper}{ch:Operand}{a:Array TypeId}{fn:Func}{g:ah}(h:ops[i]?=some o)(b:o.op=.call ⟨.builtin .close,#[ch],a⟩)(c:Oper.ok n o=true)(j:o.guard=none)(d:ar s.env ch=.chan A.cF)
 (e:s.rc=.told .deferred [di P] g) (l:s.D=[]) (f:ro=none) (m:P.funcs[fid]?=some fn) (p:fn.results=#[]) (q:(Item.inRegion ops rest::k).all Ar=true):ab P (rL P A) fid n ro hold (.inRegion ops (i::rest)::k) s K:=λ_=>
 Go.FM h b c j d e l f m p q
theorem ab.Hi{m:Nat}{R:List Nat}{ops:Array Oper}{i:Nat}{rest:List Nat}{o:Oper}{ct ce:Nat}{l p:TI}{ch:Operand}(q:ops[i]?=some o)(a:o.op=.recv ct ch true)(b:L.tt ct=some l)(c:l.kind=.chan ce)(d:L.tt ce=some p)
 (e:Oper.ok n o=true) (r:o.guard=none) (f:ar s.env ch=.chan A.cF)
 (h:∀j∈R,ab P (qV P A Fin m (R.erase j)) fid n ro hold (.inRegion ops rest::k) {s with env:=bo s.env o.dst (.bG [A.res j,.lit (.bool true)])} (λ_ _=>False)):ab P (qV P A Fin (m+1) R) fid n ro hold (.inRegion ops (i::rest)::k) s K:=λg=>
 Go.Hi L q a b c d e (cQ r) f λj t=>h j t (by simpa[lr,mJ]using g)
theorem ab.BT{t:Exit->St->Prop}{kd:CallKind}{b:List Frame}{u:ah}{R:List Nat}{ops:Array Oper}{i:Nat}{rest:List Nat}{o:Oper}{ct ce:Nat}{v w:TI}{ch:Operand}(x:ops[i]?=some o)(d:o.op=.recv ct ch true)(e:L.tt ct=some v)(f:v.kind=.chan ce)(g:L.tt ce=some w)
 (j:Oper.ok n o=true) (y:o.guard=none) (l:ar s.env ch=.chan A.cF) (p:s.σ A.fb=some .kg) (q:s.rc=.told kd b u) (c:DX P m fid n ro t kd b u Fin)
 (h:∀a,A.GI a->ab P m fid n ro hold (.inRegion ops rest::k) {s with env:=bo s.env o.dst (.bG [.bC,.lit (.bool false)]),σ:=(s.σ.set A.mb a).set A.fb (.part (bS A.fo)),rc:=.no} t):ab P (qV P A Fin 0 R) fid n ro hold (.inRegion ops (i::rest)::k) s K:=λr=>
 Go.BT L x d e f g j (cQ y) l p q c λa z=>h a z (by simpa[lr,mJ]using r)
end
section
variable{P:Program}(L:iG P){m:Mo}
variable{fid n:Nat}{ro:Option Nat}{hold:List Entry}{K:Exit->St->Prop}{todo:List Item}
@[simp] theorem RI{mu:List Nat}{s:St}:bx L m fid n ro mu hold 0 todo s K=ab P m fid n ro hold todo s K:=propext Iff.rfl
theorem ab.Cj{env:Env}{σ:aa}{D:List lQ}{rc:Rec}(I:Env->aa->Prop)(a:I env σ)(h:∀env σ,I env σ->ab P m fid n ro hold todo ⟨env,σ,D,rc⟩ K):ab P m fid n ro hold todo ⟨env,σ,D,rc⟩ K:=h env σ a
end
section
variable{P:Program}{m:Mo}{fid n:Nat}{ro:Option Nat}{D:List lQ}{rc:Rec}{K:Exit->St->Prop}{k:List Item}{ops:Array Oper}{Kp:AV->aa->Prop}
theorem jh.TJ{i:Nat}{env:Env}{σ:aa}{R b:Env->aa->Prop}(h:jh P m ops n Kp i env σ R)(c:∀env σ,R env σ->b env σ):jh P m ops n Kp i env σ b:=by obtain⟨o,d,e,f⟩:=h;exact⟨o,d,e,f.imp (λh=>⟨h.1,h.2.mono λa g=>c _ _⟩) (λh=>⟨h.1,c _ _ h.2⟩)⟩
theorem de.inv{Inv:List Nat->Env->aa->Prop}{R:Env->aa->Prop}
 (b:∀done i env σ,(∀j,iH ops j i=true->j∈done)->i∉done->i<ops.size->Inv done env σ->jh P m ops n Kp i env σ (λenv σ=>Inv (i::done) env σ))
 (d:∀done env σ,(∀i,i<ops.size->i∈done)->Inv done env σ->R env σ):
 ∀(l done:List Nat) (env:Env) (σ:aa),jg ops done l->(∀i∈l,i<ops.size)->(∀i,i<ops.size->i∈l\/i∈done)->Inv done env σ->de P m ops n Kp l env σ R
 |[],done,env,σ,_,_,c,g=>d done env σ (λi p=>(c i p).resolve_left (by simp)) g
 | i :: l,done,env,σ,⟨q,r,s⟩,f,c,g=>by
   obtain⟨o,t,u,v⟩:=b done i env σ q r (f i (by simp)) g
   have next:∀env σ,Inv (i::done) env σ->de P m ops n Kp l env σ R:=λenv σ h=>de.inv b d l (i::done) env σ s (λj k=>f j (by simp[k])) (λj k=>by
    rcases c j k with h|h
    . rcases List.mem_cons.1 h with e|e
      . exact .inr (by simp[e])
      . exact .inl e
    . exact .inr (by simp[h])) h
   exact⟨o,t,u,v.imp (λh=>⟨h.1,h.2.mono λa w=>next _ _⟩) (λh=>⟨h.1,next _ _ h.2⟩)⟩
theorem Any.inv{Inv:List Nat->Env->aa->Prop}{R:Env->aa->Prop}{env:Env}{σ:aa}(e:Inv [] env σ)
 (a:∀done i env σ,(∀j,iH ops j i=true->j∈done)->i∉done->i<ops.size->Inv done env σ->jh P m ops n Kp i env σ (λenv σ=>Inv (i::done) env σ))
 (b:∀done env σ,(∀i,i<ops.size->i∈done)->Inv done env σ->R env σ):Any P m ops n Kp [] (List.range ops.size) env σ R:=
 λl f _ d=>de.inv a b l [] env σ f (λi c=>List.mem_range.1 ((d i).1 c)) (λi c=>.inl ((d i).2 (List.mem_range.2 c))) e
theorem aJ(L:iG P){mu:List Nat}{i:Nat}{env:Env}{σ:aa}{R:Env->aa->Prop}(h:gZ L m mu ops n Kp (.one i .done) env σ R):jh P m ops n Kp i env σ R:=by
 have:=tD L (p:=.done) (λh=>.done h) h;exact this.TJ λenv σ h=>h [] [] [] rfl [] trivial List.nodup_nil (by simp) (by simp)
theorem ab.Gp{hold:List Entry}{id:Nat}{env:Env}{σ:aa}(Inv:List Nat->Env->aa->Prop)(d:P.follows .mixedOrders=true)(e:qg ops=true)(f:Inv [] env σ)
 (a:∀done i env σ,(∀j,iH ops j i=true->j∈done)->i∉done->i<ops.size->Inv done env σ->jh P m ops n (λv σ=>∀env,K (.panic v) ⟨env,σ,D,rc⟩) i env σ (λenv σ=>Inv (i::done) env σ))
 (b:∀done env σ,(∀i,i<ops.size->i∈done)->Inv done env σ->ab P m fid n ro hold k ⟨env,σ,D,rc⟩ K):
 ab P m fid n ro hold (.code (.region id ops true)::k) ⟨env,σ,D,rc⟩ K:=λc=>
 Go.draw d e (Any.inv f a λdone env σ g h=>b done env σ g h (by simp only[lr,List.all_cons,Bool.and_eq_true]at c ⊢;exact c.2))
end
end Go.bd

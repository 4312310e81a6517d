import Derived.Test.YtldmpfccgajobaaGreatDoorC25
set_option linter.all false
namespace Go.aR
open Go.Conc
open Go.ConcN (sumTo upd sumTo_upd upd_ne upd_same)
section
variable{P:Program}(L:jr P){o:Oper}{env:Env}{σ:aa}{K:AV->aa->Prop}{Kp:AV->aa->Prop}
theorem zs{i:TI}{d:TypeDesc}{e:Nat}(h:dN P i d=true)(a:i.kind=.chan e):∃dir,d=.chan dir e:=by cases d<;>simp_all [dN]
theorem CO{t e:Nat}{x:Operand}{i h:TI}{kd:IntKind}{n:Int}(j:o.op=.makeChan t x)(m:L.tt t=some i)(p:i.kind=.chan e)(q:L.tt e=some h)(u:aq env x=.lit (.int kd n))(z:0<=n/\n<=1000000/\h.bytes<=1000000)
 (v:∀b,σ b=none->K (.chan b) (σ.set b (.raw (.chan n.toNat #[] false 0 0 false)))):aM P o env σ K Kp:=
 aM.val (s:=λf=>Instr.makeChan t (f x)) (λf=>by simp[execOp,j]) λk O f w l=>by
  have c:=w x (by simp[j,Op.operands])
  rw[u]at c;rw[c9 c];unfold Instr.makeChan;refine af (ak ?_);refine af (aC L m λd _ hd=>?_)
  obtain⟨dir,rfl⟩:=zs hd p;simp only;refine af (cT L q λinfo _ _ hb _=>?_)
  have y:((info.bytes:Int)*n)<=1000000*1000000:=by rw[hb];exact Int.mul_le_mul (by omega) (by omega) (by omega) (by omega)
  have g:¬(n<0\/n>IntKind.i64.max\/(info.bytes:Int)*n>2 ^ 48-112):=by have:IntKind.i64.max=9223372036854775807:=rfl;omega
  rw[if_neg g];refine af (s:=newObj _) ⟨rfl,λr a=>ak ?_⟩
  exact .here ⟨.made a.2.2,_,_,.chan r,(l.mono (.made a.2.2)).set (.raw _ rfl),v r (l.isNone a.1 a.2.2)⟩
end
def xd(P:Program)(d:Deferred):Goroutine:=G {(default:Frame)with fn:=P.funcs.size,defers:=[d],mode:=.panicking [goexitEntry]} []
def zt:Item->Bool
 |.inRegion _ []=>true
 |.inBlock _=>true
 |.inScope _=>true
 |.code .skip=>true
 |.code .ret=>true
 |_=>false
theorem xe{P:Program}{f:FuncId}{fn:Func}{tmps:Array Value}(b:P.funcs[f]?=some fn)(d:fn.results=#[]):∀(todo:List Item),todo.all zt=true->∃n,QuitsD P n 0 (G ⟨f,tmps,todo,[],.run,.deferred,none⟩ [dl P])
 |[],_=>⟨_,.ctl rfl (λw=>by simp[G,stepG,stepG.exec,lf]) (tX b d (todo:=[]) (tmps:=tmps))⟩
 | i ::k,h=>by
   simp only[List.all_cons,Bool.and_eq_true]at h;obtain⟨n,e⟩:=xe (tmps:=tmps) b d k h.2;by_cases a:i=.code .ret
   . subst a
     exact⟨_,.ctl rfl (λw=>by simp[G,stepG,stepG.exec,lf]) (tX b d (todo:=.code .ret::k) (tmps:=tmps))⟩
   . refine⟨_,.ctl rfl (λw=>?_) e⟩
     cases i with
     |code c=>cases c<;>first|(exact absurd rfl a)|(simp[zt]at h;done)|simp[G,stepG,stepG.exec]
     |inRegion ops l=>cases l<;>first|(simp[zt]at h;done)|simp[G,stepG,stepG.exec]
     |_=>first|(simp[zt]at h;done)|simp[G,stepG,stepG.exec]
section
variable{P:Program}{fid n:Nat}{ro:Option Nat}{s:St}{k:List Item}{K:Exit->St->Prop}{A:eD}{Fin:ah->aj->Goroutine->Prop}
theorem zS.none{m:Mo}{Q:ah->aj->Goroutine->Prop}{kind:CallKind}{cs:List Frame}{a:ah}:zS P m Q fid n ro kind cs (λ_ _=>False) a:=⟨λ_ _ _ _ _ _ _ _ _ _ h=>h.elim,λ_ _ _ _ _ _ _ _ _ _ _ h=>h.elim⟩
theorem xf{fn:FuncId}:seen P fn #[]=#[]:=rfl
theorem Eu{fr:Frame}{cs:List Frame}{x:Sem Go.Next}{w:World}{cases:Array CommCase}{b:Bool}{sh:CommShape}(h:x.runT P w #[]=(.ok (.comm cases b sh) w,#[])):stepG.apply P true fr cs none x w=.comm (G fr cs) cases b sh w #[]:=by simp only[stepG.apply,if_true,h,ite_self,xf,GStep.after];rfl
theorem CP{fr:Frame}{cs:List Frame}{x:Sem Go.Next}{w:World}{f:Fn}{cap:Array Value}{args:Array Value}(h:x.runT P w #[]=(.ok (.spawn {target:=.fn f cap,args}) w,#[])):stepG.apply P true fr cs none x w=.spawn (G (fr.finish undef) cs) (xd P {target:=.fn f cap,args}) w #[]:=by simp only[stepG.apply,if_true,h,ite_self,xf,GStep.after];simp[xd,G]
theorem xg{b:Bool}{ops:Array Oper}{i:Nat}{rest:List Nat}{o:Oper}{ch x:Operand}{tmps:Array Value}{defs:List Deferred}{kind:CallKind}{cs:List Frame}{m:Mo}{env:Env}{g:ah}{c:Nat}(r:ops[i]?=some o)(a:o.op=.send ch x)(p:tmps.size=n)(q:f9 g tmps env)(s:cC ops n env o)
 (f:Oper.ok n o=true) (h:aq env ch=.chan c) (w:World):
 ∃ v,V g v (aq env x)/\stepG P m.main (G ⟨fid,tmps,.inRegion ops (i::rest)::k,defs,.run,kind,ro⟩ cs) w=.comm (G ⟨fid,tmps,.inRegion ops (i::rest)::k,defs,.run,kind,ro⟩ cs) #[scase c v (.tuple #[])] true .send w #[]/\
   v=Frame.eval ⟨fid,tmps,.inRegion ops (i::rest)::k,defs,.run,kind,ro⟩ x:=by
 have d:∀y∈o.op.operands,V g (Frame.eval ⟨fid,tmps,.inRegion ops (i::rest)::k,defs,.run,kind,ro⟩ y) (aq env y):=λy t=>by refine V.eval q p y ?_;simp only[Oper.ok,Bool.and_eq_true,Array.all_eq_true_iff_forall_mem]at f;exact f.1 y t
 have j:=d ch (by rw[a];simp[Op.operands])
 have u:=d x (by rw[a];simp[Op.operands])
 rw[h]at j;generalize z:Frame.eval ⟨fid,tmps,.inRegion ops (i::rest)::k,defs,.run,kind,ro⟩ ch=B at j;cases j;refine⟨_,u,?_,rfl⟩;rw[eS r (i9 p q s) (.inr λc e=>by rw[a]at e;cases e) w]
 have l:execOp (Frame.eval ⟨fid,tmps,.inRegion ops (i::rest)::k,defs,.run,kind,ro⟩) o=pure (.comm #[scase c (Frame.eval ⟨fid,tmps,.inRegion ops (i::rest)::k,defs,.run,kind,ro⟩ x) (.tuple #[])] true .send):=by simp[execOp,a,z,scase]
 rw[l]
 by_cases A:(kind==CallKind.early)=true<;>simp[stepG.apply,seen,A,GStep.after,G]
theorem vh{α:Type}{f:TypeDesc->Sem α}{t:TypeId}{d:TypeDesc}{w:World}{es:Array Event}(h:P.underlying t=some d):(underlying t >>=f).runT P w es=(f d).runT P w es:=by
 unfold underlying;show Sem.runT P ((match P.underlying t with|some d=>pure d|none=>stuck  "no such type") >>=f) w es=_
 rw[h];rfl
theorem xh{α:Type}{f:Value->Sem α}{t:TypeId}{info:TypeInfo}{z:Value}{w:World}{es:Array Event}(h:P.info? t=some info)(a:info.zero=some z):(zeroValue t >>=f).runT P w es=(f z).runT P w es:=by
 unfold zeroValue typeInfo;show Sem.runT P ((do let i <-(match P.info? t with|some i=>pure i|none=>stuck  "no such type");match i.zero with|some v=>pure v|none=>unsupported (.resourceLimit  "a value of more than 2^22 cells")) >>=f) w es=_
 rw[h];show Sem.runT P ((match info.zero with|some v=>pure v|none=>unsupported (.resourceLimit  "a value of more than 2^22 cells")) >>=f) w es=_
 rw[a];rfl
theorem xi(L:jr P){ok:Bool}{ops:Array Oper}{i:Nat}{rest:List Nat}{o:Oper}{ct ce:Nat}{v f:TI}{ch:Operand}{tmps:Array Value}{defs:List Deferred}{kind:CallKind}{cs:List Frame}{m:Mo}{env:Env}{x:ah}{c:Nat}(A:ops[i]?=some o)(a:o.op=.recv ct ch ok)(g:L.tt ct=some v)(h:v.kind=.chan ce)(j:L.tt ce=some f)
 (y:tmps.size=n) (z:f9 x tmps env) (B:cC ops n env o) (b:Oper.ok n o=true) (l:aq env ch=.chan c) (w:World):
 stepG P m.main (G ⟨fid,tmps,.inRegion ops (i::rest)::k,defs,.run,kind,ro⟩ cs) w=.comm (G ⟨fid,tmps,.inRegion ops (i::rest)::k,defs,.run,kind,ro⟩ cs) #[rcase c f.zero] true (.recv ok) w #[]:=by
 have p:V x (Frame.eval ⟨fid,tmps,.inRegion ops (i::rest)::k,defs,.run,kind,ro⟩ ch) (aq env ch):=by refine V.eval z y ch ?_;simp only[Oper.ok,Bool.and_eq_true,Array.all_eq_true_iff_forall_mem]at b;exact b.1 ch (by rw[a];simp[Op.operands])
 rw[l]at p;generalize C:Frame.eval ⟨fid,tmps,.inRegion ops (i::rest)::k,defs,.run,kind,ro⟩ ch=D at p;cases p;rw[eS A (i9 y z B) (.inr λc e=>by rw[a]at e;cases e) w]
 obtain⟨⟨d,q,r⟩,_⟩:=L.facts g;obtain⟨dir,rfl⟩:=zs r h;obtain⟨_,info,s,_,_,t,_⟩:=L.facts j
 have u:(execOp (Frame.eval ⟨fid,tmps,.inRegion ops (i::rest)::k,defs,.run,kind,ro⟩) o).runT P w #[]=(.ok (.comm #[rcase c f.zero] true (.recv ok)) w,#[]):=by simp only[execOp,a,C];rw[vh q];simp only;rw[xh s t];rfl
 exact Eu u
theorem CQ{ops:Array Oper}{i:Nat}{rest:List Nat}{o:Oper}{fo:Operand}{args:Array Operand}{q:Array TypeId}{f:Fn}{first cap:List AV}{tmps:Array Value}{defs:List Deferred}{kind:CallKind}{cs:List Frame}{m:Mo}{env:Env}{g:ah}(D:ops[i]?=some o)(b:o.op=.go ⟨.value fo,args,q⟩)
 (u:tmps.size=n) (y:f9 g tmps env) (E:cC ops n env o) (h:Oper.ok n o=true) (r:aq env fo=.fn f first cap):
 ∃ z A,Vs g z cap/\Vs g A (first++args.toList.map (aq env))/\∀w,stepG P m.main (G ⟨fid,tmps,.inRegion ops (i::rest)::k,defs,.run,kind,ro⟩ cs) w=
   .spawn (G (Frame.finish ⟨fid,tmps,.inRegion ops (i::rest)::k,defs,.run,kind,ro⟩ undef) cs) (xd P {target:=.fn f z.toArray,args:=A.toArray}) w #[]:=by
 have d:∀x∈o.op.operands,V g (Frame.eval ⟨fid,tmps,.inRegion ops (i::rest)::k,defs,.run,kind,ro⟩ x) (aq env x):=λx s=>by refine V.eval y u x ?_;simp only[Oper.ok,Bool.and_eq_true,Array.all_eq_true_iff_forall_mem]at h;exact h.1 x s
 have t:=d fo (by simp[b,Op.operands,Call.operands])
 rw[r]at t;generalize F:Frame.eval _ fo=cf at t;cases t with
 | fn _ p B M N H I J K=>
   have C:=Vs.ofArray (k:=g) (ρ:=Frame.eval ⟨fid,tmps,.inRegion ops (i::rest)::k,defs,.run,kind,ro⟩) (env:=env) (xs:=args) (λx s=>d x (by simp[b,Op.operands,Call.operands,s]))
   refine⟨B.toList,p.toList++(args.map (Frame.eval ⟨fid,tmps,.inRegion ops (i::rest)::k,defs,.run,kind,ro⟩)).toList,⟨by simpa using J,λi v a j l=>K i v a (by simpa using j) l⟩,Vs.append ⟨by simpa using H,λi v a j l=>I i v a (by simpa using j) l⟩ ⟨by simpa using C.1,λi v a j l=>C.2 i v a (by simpa using j) l⟩,λw=>?_⟩
   rw[eS D (i9 u y E) (.inr λc e=>by rw[b]at e;cases e) w]
   refine(CP (f:=f) (cap:=B) (args:=p++args.map (Frame.eval ⟨fid,tmps,.inRegion ops (i::rest)::k,defs,.run,kind,ro⟩)) ?_).trans ?_
   . simp only[execOp,b,resolve,F,Deferred.ofValue]
     rfl
   . have L:∀x:Array Value,(p.toList++x.toList).toArray=p++x:=λx=>by apply Array.ext';simp
     rw[L,Array.toArray_toList]
theorem Kc{m:Mo}{Q:ah->aj->Goroutine->Prop}{kk:ah}{O:aj}{tmps:Array Value}{defs:List Deferred}{kind:CallKind}{cs:List Frame}{f:FuncId}{fn:Func}{ops:Array Oper}{i:Nat}{rest:List Nat}{o:Oper}{args:Array Operand}{t:Array TypeId}(A:ops[i]?=some o)(b:o.op=.call ⟨.value (.func f),args,t⟩)(B:cC ops n s.env o)(g:Oper.ok n o=true)
 (C:P.funcs[f]?=some fn) (hb:fn.body.isSome=true) (u:(fn.name==  "runtime.NumGoroutine")=false) (p:Bp n kk O tmps defs kind cs s)
 (h:∀cargs,Vs kk cargs (args.toList.map (aq s.env))->T P m Q kk O (G (Frame.enter P f cargs.toArray .normal) (⟨fid,tmps,.inRegion ops (i::rest)::k,defs,.run,kind,ro⟩::gX s.rc cs))):T P m Q kk O (G ⟨fid,tmps,.inRegion ops (i::rest)::k,defs,.run,kind,ro⟩ (gX s.rc cs)):=by
 refine T.qc (λw=>eS A (i9 p.size p.env B) (.inr λc e=>by rw[b]at e;cases e) w) (ga ?_)
 have j:∀x∈o.op.operands,V kk (Frame.eval ⟨fid,tmps,.inRegion ops (i::rest)::k,defs,.run,kind,ro⟩ x) (aq s.env x):=λx q=>by refine V.eval p.env p.size x ?_;simp only[Oper.ok,Bool.and_eq_true,Array.all_eq_true_iff_forall_mem]at g;exact g.1 x q
 have z:=Vs.ofArray (k:=kk) (ρ:=Frame.eval ⟨fid,tmps,.inRegion ops (i::rest)::k,defs,.run,kind,ro⟩) (env:=s.env) (xs:=args) (λx q=>j x (by simp[b,Op.operands,Call.operands,q]))
 have y:fn.body.isNone=false:=by cases q:fn.body<;>simp_all
 simp only[execOp,b,resolve];refine af ?_;show fE P (Deferred.ofValue (.func (.func f) #[] #[]) _) kk O _ _;simp only[Deferred.ofValue];refine ak ?_;simp only[invoke,callFunc];refine af (cu ?_);rw[C];simp only[u,y,Bool.false_eq_true,if_false];refine ak λ_=>⟨λd w r s l=>by simp,?_⟩
 have:=h (args.map (Frame.eval ⟨fid,tmps,.inRegion ops (i::rest)::k,defs,.run,kind,ro⟩)).toList ⟨by simpa using z.1,λi v a D E=>z.2 i v a (by simpa using D) E⟩
 have key:∀x:Array Value,x=(args.map (Frame.eval ⟨fid,tmps,.inRegion ops (i::rest)::k,defs,.run,kind,ro⟩)).toList.toArray->T P m Q kk O (G (Frame.enter P f x .normal) (⟨fid,tmps,.inRegion ops (i::rest)::k,defs,.run,kind,ro⟩::gX s.rc cs)):=λx e=>by rw[e];exact this
 refine key _ ?_;apply Array.ext';simp
def CR(P:Program)(m:Mo)(fid n:Nat)(ro:Option Nat)(K:Exit->St->Prop)(kd:CallKind)(a:List Frame)(d:ah)(Fin:ah->aj->Goroutine->Prop):Prop:=∀todo s b c tmps defs,Go P m fid n ro todo s K->s.rc=.no->Bp n b c tmps defs kd a s->d.Le b->Fin b c (G ⟨fid,tmps,todo,defs,.run,kd,ro⟩ a)
theorem Go.Nf{m:Nat}{ops:Array Oper}{i:Nat}{rest:List Nat}{o:Oper}{args:Array Operand}{f:Array TypeId}{fn:Func}(r:ops[i]?=some o)(g:o.op=.call ⟨.value (.func A.ng.add),args,f⟩)(u:cC ops n s.env o)(j:Oper.ok n o=true)
 (w:P.funcs[A.ng.add]?=some fn) (hb:fn.body.isSome=true) (l:(fn.name==  "runtime.NumGoroutine")=false) (z:args.toList.map (aq s.env)=[.ref A.gb 0,.lit (.int .i64 1)])
 (h:Go P (FF P A Fin m) fid n ro (.inRegion ops rest::k) {s with env:=bp s.env o.dst (.bk [])} (λ_ _=>False)):Go P (zf P A Fin (m+1)) fid n ro (.inRegion ops (i::rest)::k) s K:=by
 intro Q kk O tmps defs kind cs p q F;refine Kc r g u j w hb l q λb t=>?_
 rw[z]at t;obtain⟨B,c⟩:=t
 have e:b.toArray=#[.pointer (some ⟨A.gb,0,none⟩),.int .i64 1]:=by
  match b,B,c with
  |[x,y],_,c=>have C:=c 0 x _ rfl rfl;have p:=c 1 y _ rfl rfl;cases C;cases p;rfl
 rw[e];refine .dH jn rfl ⟨rfl,_,_,rfl,?_⟩ (λ_ _ _ h=>h.elim);obtain⟨d,D,E⟩:=q.put (fid:=fid) (ro:=ro) (rest:=rest) (kk:=k) (σ':=s.σ) (v:=.tuple #[]) (a:=.bk []) (.refl kk) r (.bk _ _ rfl λi v a h=>by simp at h) q.rel;show T P (FF P A Fin m) jn kk O (G (Frame.finish ⟨fid,tmps,.inRegion ops (i::rest)::k,defs,.run,kind,ro⟩ (.tuple #[])) (gX s.rc cs));rw[D];exact h jn kk O d defs kind cs p E .none
def kP(b:Nat):aa:=λc=>if c=b then some .iG else none
theorem FT{m:Mo}{f:FuncId}{fn:Func}{body:Code}{cap args:List AV}{σ0:aa}{KE:ah->Exit->St->Prop}(n:P.funcs[f]?=some fn)(hb:fn.body=some body)(d:(fn.name==  "runtime.NumGoroutine")=false)(p:(args++cap).length<=fn.ntmps){kk:ah}(g:Rel kk aj.bot σ0)
 (q:zS P m jn f fn.ntmps none .deferred [dl P] (KE kk) kk)
 (h:∀o,Go P m f fn.ntmps none [.code body] ⟨dT (args++cap),σ0,[],.told .deferred [dl P] o⟩ (KE o)){a b:List Value}(i:Vs kk a cap) (j:Vs kk b args):
 T P m jn kk aj.bot (xd P {target:=.fn (.func f) a.toArray,args:=b.toArray}):=by
 have k:fn.body.isNone=false:=by simp[hb]
 have hinv:∀w,(invoke (.fn (.func f) a.toArray) b.toArray).runT P w #[]=(.ok (.enter f (b++a).toArray) w,#[]):=λw=>by show Sem.runT P (callFunc f (b.toArray++a.toArray)) w #[]=_;unfold callFunc;rw[ju,n];simp only[d,k,Bool.false_eq_true,if_false];simp
 refine T.ed (g':=G (Frame.enter P f (b++a).toArray .deferred) [dl P]) rfl (λw=>?_) ?_
 . simp only[xd,G,stepG,unwind,callDeferred,hinv]
   simp;rfl
 . have c:=j.append i
   have e:Frame.enter P f (b++a).toArray .deferred=⟨f,(b++a).toArray++Array.replicate (fn.ntmps-(b++a).length) undef,[.code body],[],.run,.deferred,none⟩:=by simp[Frame.enter,n,hb]
   have l:((b++a).toArray++Array.replicate (fn.ntmps-(b++a).length) undef).size=fn.ntmps:=by have:=c.1;simp at this p ⊢;omega
   rw[e];exact h kk jn kk aj.bot _ [] .deferred [dl P] (by simp) ⟨l,tu c _,g,trivial,rfl,rfl,.refl kk⟩ q
def OY(P:Program)(A:eD)(fn:Func):Exit->St->Prop:=λe s=>fn.results=#[]/\(e=.leave none\/e=.leave (some .ret))/\(∃a,s.rc=.told .deferred [dl P] a)/\∃r,s.D=[.mark r,.call (.func A.ng.done) [] [.ref A.gb 0]]/\s.σ r=some (.raw (.deferred (some [])))
theorem Hk{f:FuncId}{fn fd:Func}(hf:P.funcs[f]?=some fn)(e:P.funcs[A.ng.done]?=some fd)(B:fd.body.isSome=true)(a:(fd.name==  "runtime.NumGoroutine")=false){kk:ah}:zS P (qJ P A) jn f fn.ntmps none .deferred [dl P] (OY P A fn) kk where
 leave k' O' tmps defs s todo p hle hs C g:=by
  obtain⟨b,E,⟨N,c⟩,r,q,t⟩:=g;obtain⟨env,σ,D,rc⟩:=s;simp only at c q t;subst c q;show T P (qJ P A) jn k' O' (G ⟨f,tmps,todo,defs,.run,.deferred,none⟩ [dl P]);have i:=hs.ds
  match defs,i with
  | [d1,d2],⟨u,y,_⟩=>
    simp only[vD]at u y;obtain⟨F,H,rfl,j,k⟩:=y;subst u;have e1:F=#[]:=by have:=j.1;simpa using this
    have e2:H=#[.pointer (some ⟨A.gb,0,none⟩)]:=by obtain⟨v,I,l⟩:=Vs.one k;cases l;apply Array.ext';simpa using I
    subst e1 e2;refine T.ed (g':=G ⟨f,tmps,todo,[{target:=.collected r,args:=#[]},{target:=.fn (.func A.ng.done) #[],args:=#[.pointer (some ⟨A.gb,0,none⟩)]}],.returning,.deferred,none⟩ [dl P]) rfl (λw=>?_) ?_
    . rcases C with⟨rfl,rfl⟩|⟨kk,rfl,rfl⟩|⟨_,_,_,_,rfl⟩
      . simp[G,stepG,stepG.exec]
      . simp[G,stepG,stepG.exec]
      . simp at E
    . refine T.BB (fid:=f) (s:=Instr.takeDeferred r) rfl (K:=λcalls z J=>calls=[]/\z=k') (nxt:=λcalls w=>.go (G ⟨f,tmps,todo,calls++[{target:=.fn (.func A.ng.done) #[],args:=#[.pointer (some ⟨A.gb,0,none⟩)]}],.returning,.deferred,none⟩ [dl P]) w) ?_ ?_ ?_
      . rintro calls z J L _ _ ⟨rfl,rfl⟩
        refine⟨_,rfl,?_⟩
        have hinv:∀w,(invoke (.fn (.func A.ng.done) #[]) #[.pointer (some ⟨A.gb,0,none⟩)]).runT P w #[]=(.ok (.enter A.ng.done #[.pointer (some ⟨A.gb,0,none⟩)]) w,#[]):=λw=>by
         show Sem.runT P (callFunc A.ng.done _) w #[]=_;unfold callFunc;have m:fd.body.isNone=false:=by cases n:fd.body<;>simp_all
         rw[ju,e];simp only[a,m,Bool.false_eq_true,if_false];simp
        refine T.ed (g':=G (Frame.enter P A.ng.done #[.pointer (some ⟨A.gb,0,none⟩)] .deferred) [lf P f tmps todo,dl P]) rfl (λw=>?_) ?_
        . simp only[G,stepG,unwind,callDeferred,hinv,List.nil_append]
          simp;rfl
        . exact .dH jn rfl ⟨rfl,f,fn,tmps,todo,hf,b,rfl⟩ (λ_ _ _ h=>h.elim)
      . intro w v L d
        simp only[G,stepG,unwind];rw[show(Instr.takeDeferred r).runT P w #[]=(((Instr.takeDeferred r).runT P w #[]).1,((Instr.takeDeferred r).runT P w #[]).2)from rfl,d]
      . obtain⟨x,n,o⟩:=hs.rel.1 r _ t (by simp)
        cases o with
        |raw _ hc=>unfold Instr.takeDeferred;refine af (s:=getObj r) ⟨_,n,rfl,?_⟩;exact af (s:=setObj r _) ⟨⟨_,n,rfl⟩,rfl,ak ⟨rfl,rfl⟩⟩
 panic k' O' tmps defs s todo O Q hle hs M g:=by obtain⟨_,h|h,_⟩:=g<;>cases h
theorem CS{kk:ah}{O:aj}{σ:aa}{b:Nat}(d:Rel kk O σ)(h:σ b=some .iG):Rel kk aj.bot (kP b):=by
 refine⟨λc a e f=>?_,λc e=>?_⟩
 . unfold kP at e
   split at e
   . cases e;exact absurd rfl f
   . cases e
 . unfold kP at e
   split at e
   . next q=>subst q;exact⟨rfl,(d.2 _ h).2⟩
   . cases e
theorem Go.vp{m:Nat}{ops:Array Oper}{i:Nat}{rest:List Nat}{o:Oper}{fo:Operand}{args:Array Operand}{c:Array TypeId}{f:FuncId}{fn:Func}{body:Code}{first cap:List AV}(t:ops[i]?=some o)(d:o.op=.go ⟨.value fo,args,c⟩)(u:cC ops n s.env o)(e:Oper.ok n o=true)
 (g:aq s.env fo=.fn (.func f) first cap) (v:P.funcs[f]?=some fn) (hb:fn.body=some body) (j:(fn.name==  "runtime.NumGoroutine")=false) (x:((first++args.toList.map (aq s.env))++cap).length<=fn.ntmps) (l:s.σ A.fb=some .iG)
 (y:∀z,Go P (lG P A (A.n-(m+1))) f fn.ntmps none [.code body] ⟨dT ((first++args.toList.map (aq s.env))++cap),kP A.fb,[],.told .deferred [dl P] z⟩ (λ_ _=>False))
 (h:Go P (zf P A Fin m) fid n ro (.inRegion ops rest::k) {s with env:=bp s.env o.dst .bJ} (λ_ _=>False)):Go P (FF P A Fin m) fid n ro (.inRegion ops (i::rest)::k) s K:=by
 intro Q kk O tmps defs kind cs B b E;obtain⟨F,G,p,q,r⟩:=CQ (P:=P) (fid:=fid) (k:=k) (rest:=rest) (defs:=defs) (kind:=kind) (ro:=ro) (cs:=gX s.rc cs) (m:=FF P A Fin m) t d b.size b.env u e g;obtain⟨a,C,D⟩:=b.put (fid:=fid) (ro:=ro) (rest:=rest) (kk:=k) (σ':=s.σ) (.refl kk) t (.bJ undef) b.rel;refine .dH jn rfl ⟨rfl,_,_,λw _=>r w,FT (KE:=λ_ _ _=>False) v hb j x (CS b.rel l) .none y p q,?_⟩ (λ_ _ _ h=>h.elim);rw[C];exact h jn kk O a defs kind cs B D .none
theorem Go.S8{ops:Array Oper}{i:Nat}{rest:List Nat}{o:Oper}{fo:Operand}{args:Array Operand}{c:Array TypeId}{f:FuncId}{fn:Func}{body:Code}{first cap:List AV}(t:ops[i]?=some o)(d:o.op=.go ⟨.value fo,args,c⟩)(u:cC ops n s.env o)(e:Oper.ok n o=true)
 (g:aq s.env fo=.fn (.func f) first cap) (v:P.funcs[f]?=some fn) (hb:fn.body=some body) (j:(fn.name==  "runtime.NumGoroutine")=false) (x:((first++args.toList.map (aq s.env))++cap).length<=fn.ntmps) (l:s.σ A.fb=some .iG)
 (y:∀z,Go P (wG P A) f fn.ntmps none [.code body] ⟨dT ((first++args.toList.map (aq s.env))++cap),kP A.fb,[],.told .deferred [dl P] z⟩ (λ_ _=>False))
 (h:Go P (qW P A Fin A.n (List.range A.n)) fid n ro (.inRegion ops rest::k) {s with env:=bp s.env o.dst .bJ} (λ_ _=>False)):Go P (zf P A Fin 0) fid n ro (.inRegion ops (i::rest)::k) s K:=by
 intro Q kk O tmps defs kind cs B b E;obtain⟨F,G,p,q,r⟩:=CQ (P:=P) (fid:=fid) (k:=k) (rest:=rest) (defs:=defs) (kind:=kind) (ro:=ro) (cs:=gX s.rc cs) (m:=zf P A Fin 0) t d b.size b.env u e g;obtain⟨a,C,D⟩:=b.put (fid:=fid) (ro:=ro) (rest:=rest) (kk:=k) (σ':=s.σ) (.refl kk) t (.bJ undef) b.rel;refine .dH jn rfl ⟨rfl,_,_,λw _=>r w,FT (KE:=λ_ _ _=>False) v hb j x (CS b.rel l) .none y p q,?_⟩ (λ_ _ _ h=>h.elim);rw[C];exact h jn kk O a defs kind cs B D .none
theorem Go.Kd{j:Nat}{ops:Array Oper}{i:Nat}{rest:List Nat}{o:Oper}{ch x:Operand}{fn fd:Func}{C:ah}(q:ops[i]?=some o)(f:o.op=.send ch x)(g:Oper.ok n o=true)(B:cC ops n s.env o)(l:aq s.env ch=.chan A.cF)(D:aq s.env x=A.res j)
 (r:s.σ A.fb=some .iG) (t:s.rc=.told .deferred [dl P] C) (u:ro=none) (E:P.funcs[fid]?=some fn) (F:n=fn.ntmps) (y:P.funcs[A.ng.done]?=some fd) (z:fd.body.isSome=true) (p:(fd.name==  "runtime.NumGoroutine")=false)
 (h:Go P (qJ P A) fid n ro (.inRegion ops rest::k) {s with env:=bp s.env o.dst (.lit undef)} (OY P A fn)):Go P (lG P A j) fid n ro (.inRegion ops (i::rest)::k) s K:=by
 intro Q kk O tmps defs kind cs H a R;have c:=a.rc;rw[t]at c;obtain⟨rfl,rfl,I⟩:=c;subst u F;obtain⟨d,J,L⟩:=a.put (fid:=fid) (ro:=none) (rest:=rest) (kk:=k) (σ':=s.σ) (.refl kk) q (.lit undef) a.rel;have M:=h jn kk O d defs .deferred [dl P] H L (Hk E y z p);refine .dH jn rfl (.inr (.inr ⟨rfl,(a.rel.2 _ r).1,G ⟨fid,tmps,.inRegion ops (i::rest)::k,defs,.run,.deferred,none⟩ (gX s.rc [dl P]),.tuple #[],Frame.eval ⟨fid,tmps,.inRegion ops (i::rest)::k,defs,.run,.deferred,none⟩ x,λw _=>?_,?_,?_⟩)) (λ_ _ _ h=>h.elim)
 . obtain⟨v,_,e,rfl⟩:=xg (P:=P) (m:=lG P A j) (b:=false) q f a.size a.env B g l w (fid:=fid) (ro:=none) (k:=k) (rest:=rest) (defs:=defs) (kind:=.deferred) (cs:=gX s.rc [dl P])
   exact e
 . obtain⟨v,N,_,rfl⟩:=xg (P:=P) (m:=lG P A j) (b:=false) q f a.size a.env B g l default (fid:=fid) (ro:=none) (k:=k) (rest:=rest) (defs:=defs) (kind:=.deferred) (cs:=gX s.rc [dl P])
   rw[<-D];exact N
 . show T P (qJ P A) jn kk O (G (Frame.finish ⟨fid,tmps,.inRegion ops (i::rest)::k,defs,.run,.deferred,none⟩ undef) (gX s.rc [dl P]))
   rw[J];exact M
theorem Go.Ke{ops:Array Oper}{i:Nat}{rest:List Nat}{o:Oper}{args:Array Operand}{d:Array TypeId}{fn:Func}(p:ops[i]?=some o)(e:o.op=.call ⟨.value (.func A.ng.wait),args,d⟩)(t:cC ops n s.env o)(f:Oper.ok n o=true)
 (u:P.funcs[A.ng.wait]?=some fn) (hb:fn.body.isSome=true) (g:(fn.name==  "runtime.NumGoroutine")=false) (w:args.toList.map (aq s.env)=[.ref A.gb 0])
 (h:Go P (rI P A) fid n ro (.inRegion ops rest::k) {s with env:=bp s.env o.dst (.bk [])} (λ_ _=>False)):Go P (wG P A) fid n ro (.inRegion ops (i::rest)::k) s K:=by
 intro Q kk O tmps defs kind cs x j B;refine Kc p e t f u hb g j λl q=>?_
 rw[w]at q;obtain⟨v,rfl,m⟩:=Vs.one q;cases m;refine .dH jn rfl ⟨rfl,_,_,rfl,λr c=>?_⟩ (λ_ _ _ h=>h.elim);obtain⟨b,y,z⟩:=j.put (fid:=fid) (ro:=ro) (rest:=rest) (kk:=k) (σ':=s.σ) (v:=.tuple #[]) (a:=.bk []) c p (.bk _ _ rfl λi v a h=>by simp at h) (j.rel.mono c);show T P (rI P A) jn r O (G (Frame.finish ⟨fid,tmps,.inRegion ops (i::rest)::k,defs,.run,kind,ro⟩ (.tuple #[])) (gX s.rc cs));rw[y];exact h jn r O b defs kind cs x z .none
theorem Ev{c s r:Nat}{tm:Bool}{w:World}{a:Array TypeId}{ty:TypeId}{cs:Array Bool}(h:w.heap[c]?=some (.chan 0 #[] false s r tm)):
 (invoke (.builtin .close a ty cs) #[.chan (some c)]).runT P w #[]=(.ok (.value (.tuple #[])) {w with heap:=w.heap.setIfInBounds c (.chan 0 #[] true s r tm)},#[⟨.obj c,false,true⟩,⟨.obj c,true,true⟩]):=by
 change Sem.runT P (Sem.getObj c _) w #[]=_;rw[Sem.runT,h];change Sem.runT P (Sem.setObj c _ _) w _=_;rw[Sem.runT,h];rfl
theorem CT{fr:Frame}{cs:List Frame}{x:Sem Go.Next}{w w':World}{v:Value}{es:Array Event}(a:(fr.kind==.early)=false)(h:x.runT P w #[]=(.ok (.value v) w',es))(b:seen P fr.fn es=es):stepG.apply P true fr cs none x w=.go (G (fr.finish v) cs) w' es:=by simp only[stepG.apply,if_true,h,a,GStep.after];simp[b,G]
theorem Go.Ew{ops:Array Oper}{i:Nat}{rest:List Nat}{o:Oper}{ch:Operand}{j:Array TypeId}{fn:Func}{y:ah}(l:ops[i]?=some o)(b:o.op=.call ⟨.builtin .close,#[ch],j⟩)(f:Oper.ok n o=true)(B:o.guard=none)(a:aq s.env ch=.chan A.cF)
 (g:s.rc=.told .deferred [dl P] y) (z:s.D=[]) (p:ro=none) (C:P.funcs[fid]?=some fn) (E:fn.results=#[]) (F:(Item.inRegion ops rest::k).all zt=true):Go P (rI P A) fid n ro (.inRegion ops (i::rest)::k) s K:=by
 intro Q kk O tmps defs kind cs M e R;obtain⟨env,σ,D,rc⟩:=s;simp only at g z;subst g;subst z;subst p;obtain⟨rfl,rfl,H⟩:=e.rc;have c:defs=[]:=by cases defs with|nil=>rfl|cons _ _=>exact e.ds.elim
 subst c;obtain⟨d,I,S⟩:=e.put (fid:=fid) (ro:=none) (rest:=rest) (kk:=k) (σ':=σ) (v:=.tuple #[]) (.refl kk) l (.bJ _) e.rel;obtain⟨N,J⟩:=xe (tmps:=d) C E _ F
 have q:V kk (Frame.eval ⟨fid,tmps,.inRegion ops (i::rest)::k,[],.run,.deferred,none⟩ ch) (aq env ch):=by refine V.eval e.env e.size ch ?_;simp only[Oper.ok,Bool.and_eq_true,Array.all_eq_true_iff_forall_mem]at f;exact f.1 ch (by rw[b];simp[Op.operands,Call.operands])
 simp only at a;rw[a]at q;generalize t:Frame.eval ⟨fid,tmps,.inRegion ops (i::rest)::k,[],.run,.deferred,none⟩ ch=T at q;cases q;refine .dH jn rfl ⟨rfl,G (Frame.finish ⟨fid,tmps,.inRegion ops (i::rest)::k,[],.run,.deferred,none⟩ (.tuple #[])) [dl P],N,?_,λw s r L U a=>?_,?_⟩ (λ_ _ _ h=>h.elim)
 . simp[mayWake,G,gX,l,b]
 . have u:Region.wanted o (yielded ops tmps)=true:=by simp[Region.wanted,B]
   have x:(execOp (Frame.eval ⟨fid,tmps,.inRegion ops (i::rest)::k,[],.run,.deferred,none⟩) o).runT P w #[]=(.ok (.value (.tuple #[])) {w with heap:=w.heap.setIfInBounds A.cF (.chan 0 #[] true s r L)},#[⟨.obj A.cF,false,true⟩,⟨.obj A.cF,true,true⟩]):=by
    simp only[execOp,b,resolve];have:(#[ch].map (Frame.eval ⟨fid,tmps,.inRegion ops (i::rest)::k,[],.run,.deferred,none⟩))=#[.chan (some A.cF)]:=by simp[t]
    rw[this];exact Ev (cs:=#[]) a
   rw[show gX (Rec.told CallKind.deferred [dl P] y) [dl P]=[dl P]from rfl]
   refine(eS (m:=rI P A) l u (.inl rfl) w).trans ?_;exact CT (by simp) x (by simp[seen])
 . rw[I]
   exact J
theorem Go.FU(L:jr P){m:Nat}{R:List Nat}{ops:Array Oper}{i:Nat}{rest:List Nat}{o:Oper}{ct ce:Nat}{B D:TI}{ch:Operand}(C:ops[i]?=some o)(p:o.op=.recv ct ch true)(q:L.tt ct=some B)(r:B.kind=.chan ce)(t:L.tt ce=some D)
 (x:Oper.ok n o=true) (E:cC ops n s.env o) (y:aq s.env ch=.chan A.cF)
 (h:∀j∈R,Go P (qW P A Fin m (R.erase j)) fid n ro (.inRegion ops rest::k) {s with env:=bp s.env o.dst (.bk [A.res j,.lit (.bool true)])} (λ_ _=>False)):Go P (qW P A Fin (m+1) R) fid n ro (.inRegion ops (i::rest)::k) s K:=by
 intro Q kk O tmps defs kind cs F g N;have c:=xi (P:=P) (fid:=fid) (k:=k) (rest:=rest) (defs:=defs) (kind:=kind) (ro:=ro) (cs:=gX s.rc cs) (m:=qW P A Fin (m+1) R) L C p q r t g.size g.env E x y;refine .dH jn rfl ⟨rfl,_,_,λw _=>c w,λw _=>c w,rfl,λj H z v d I=>?_⟩ (λ_ _ _ h=>h.elim)
 have e:V z (.tuple #[v,.bool true]) (.bk [A.res j,.lit (.bool true)]):=.bk _ _ rfl λi u a l f=>by
  match i with
  |0=>simp at l f;subst l;subst f;exact I
  |1=>simp at l f;subst l;subst f;exact .lit _
  |i+2=>simp at f
 obtain⟨b,J,M⟩:=g.put (fid:=fid) (ro:=ro) (rest:=rest) (kk:=k) (σ':=s.σ) d C e (g.rel.mono d);show T P (qW P A Fin m (R.erase j)) jn z O (G (Frame.finish ⟨fid,tmps,.inRegion ops (i::rest)::k,defs,.run,kind,ro⟩ _) (gX s.rc cs));rw[J];exact h j H jn z O b defs kind cs F M .none
theorem Go.AZ(L:jr P){m:Mo}{M:Exit->St->Prop}{kd:CallKind}{f:List Frame}{N:ah}{R:List Nat}{ops:Array Oper}{i:Nat}{rest:List Nat}{o:Oper}{ct ce:Nat}{S T:TI}{ch:Operand}(U:ops[i]?=some o)(v:o.op=.recv ct ch true)(y:L.tt ct=some S)(z:S.kind=.chan ce)(B:L.tt ce=some T)
 (C:Oper.ok n o=true) (W:cC ops n s.env o) (D:aq s.env ch=.chan A.cF) (E:s.σ A.fb=some .iG) (g:s.rc=.told kd f N) (j:CR P m fid n ro M kd f N Fin)
 (h:∀a,A.GI a->Go P m fid n ro (.inRegion ops rest::k) {s with env:=bp s.env o.dst (.bk [.bJ,.lit (.bool false)]),σ:=(s.σ.set A.mb a).set A.fb (.part (bP A.fo)),rc:=.no} M):Go P (qW P A Fin 0 R) fid n ro (.inRegion ops (i::rest)::k) s K:=by
 intro Q kk O tmps defs kind cs Y e Z;have l:=xi (P:=P) (fid:=fid) (k:=k) (rest:=rest) (defs:=defs) (kind:=kind) (ro:=ro) (cs:=gX s.rc cs) (m:=qW P A Fin 0 R) L U v y z B e.size e.env W C D;have b:=e.rc;rw[g]at b;obtain⟨rfl,rfl,F⟩:=b;refine .dH jn rfl ⟨rfl,_,_,λw _=>l w,λw _=>l w,rfl,(e.rel.2 _ E).2,λH x a c I J=>?_⟩ (λ_ _ _ h=>h.elim)
 have p:V H (.tuple #[T.zero,.bool false]) (.bk [.bJ,.lit (.bool false)]):=.bk _ _ rfl λi u a r q=>by
  match i with
  |0=>simp at r q;subst r;subst q;exact .bJ _
  |1=>simp at r q;subst r;subst q;exact .lit _
  |i+2=>simp at q
 obtain⟨d,X,t⟩:=e.put (fid:=fid) (ro:=ro) (rest:=rest) (kk:=k) (σ':=(s.σ.set A.mb a).set A.fb (.part (bP A.fo))) (O':=(O.set A.mb x).set A.fb (.part (bP A.fo))) c U p (((e.rel.mono c).set I).set (.part _));show Fin H _ (G (Frame.finish ⟨fid,tmps,.inRegion ops (i::rest)::k,defs,.run,kind,ro⟩ _) (gX s.rc cs));rw[X,g];exact j _ _ H _ d defs (h a J) rfl ⟨t.size,t.env,t.rel,t.ds,trivial⟩ (F.trans c)
theorem Go.cG{m:Mo}{todo:List Item}(k:m.solo=true)(B:mC)(C:jS P B.ng)(X:lw P B.ng)(CM:jf P B.nm)(XM:jg P B.nm)(F:rH P B.nm){tm:Bool}{a:ku}
 (hF:s.σ B.cF=some (.raw (.chan 0 #[] false 0 0 tm))) (hG:s.σ B.gb=some (.cells [.lit (.int .u64 0),.lit (.int .u32 0)])) (hL:s.σ B.fb=some (.part (bP B.fo))) (hM:s.σ B.mb=some a) (L:a≠.iG) (M:B.GI a) (N:s.rc=.no)
 (h:∀(b:Nat) (hb:0<b) (Fin:ah->aj->Goroutine->Prop) (kd:CallKind) (r:List Frame) (Y:ah),CR P m fid n ro K kd r Y Fin ->
   Go P (zf P (B.at b hb) Fin B.n) fid n ro todo {s with σ:=((((s.σ.del B.cF).del B.gb).del B.mb).set B.fb .iG),rc:=.told kd r Y} (λ_ _=>False)):Go P m fid n ro todo s K:=by
 intro Q I O tmps defs kind cs Z g h3;rw[N];refine T.sat rfl λ⟨w,t⟩=>?_
 obtain⟨xF,oF,rF⟩:=g.rel.1 _ _ hF (by simp)
 obtain⟨xG,oG,rG⟩:=g.rel.1 _ _ hG (by simp)
 obtain⟨xM,oM,rM⟩:=g.rel.1 _ _ hM L;have oL:=g.rel.FQ hL;cases rF;cases rG with
 | cells J eg _ q1 q2 q3=>
   have hg:∀(i:Nat) (v:Value),([.lit (.int .u64 0),.lit (.int .u32 0)]:List AV)[i]?=some (AV.lit v)->J[i]?=some v:=λi v hv=>by
    have z:i<J.size:=by rw[q1];exact(List.getElem?_eq_some_iff.1 hv).1
    have A:=q2 i J[i] _ (by simp[z]) hv
    generalize hq:J[i]=u at A;cases A;simp[z,hq]
   obtain⟨ec,cc,_,D,_⟩:=t.part _ _ oL;refine .phase (λE G R=>T P m Q E G R) k (λ_ _ _ h=>h) (Er B C X CM XM F oF oG (hg 0 _ rfl) (hg 1 _ rfl) oL oM rM M λb hb=>?_)
   have H:CR P m fid n ro K kind cs I (λE G R=>T P m Q E G R):=λS s' E G l o p hn hs U=>by have:=p Q E G l o kind cs Z hs (h3.mono U);rw[hn]at this;exact this
   have p:=h b hb _ kind cs I H;refine p jn I _ tmps defs kind cs Z ⟨g.size,g.env,?_,g.ds,rfl,rfl,.refl I⟩ .none;refine⟨λd y e hy=>?_,λd e=>?_⟩
   . by_cases c:d=B.fb
     . subst c;simp[aa.set]at e;exact absurd e.symm hy
     by_cases f:d=B.mb
     . subst f;simp[aa.set,aa.del,c]at e
     by_cases j:d=B.gb
     . subst j;simp[aa.set,aa.del,c,f]at e
     by_cases q:d=B.cF
     . subst q;simp[aa.set,aa.del,c,f,j]at e
     simp only[aa.set,aa.del,c,f,j,q,if_false]at e;obtain⟨x,V,W⟩:=g.rel.1 d y e hy;exact⟨x,by simp[mC.rest,c,f,j,q,V],W⟩
   . by_cases c:d=B.fb
     . subst c;exact⟨by simp[mC.rest],_,D⟩
     by_cases f:d=B.mb
     . subst f;simp[aa.set,aa.del,c]at e
     by_cases j:d=B.gb
     . subst j;simp[aa.set,aa.del,c,f]at e
     by_cases q:d=B.cF
     . subst q;simp[aa.set,aa.del,c,f,j]at e
     simp only[aa.set,aa.del,c,f,j,q,if_false]at e;obtain⟨V,W⟩:=g.rel.2 d e;exact⟨by simp[mC.rest,c,f,j,q,V],W⟩
end
end Go.aR
namespace Go.aR
open Go.Conc
section
variable{P:Program}{m:Mo}{fid n:Nat}{ro:Option Nat}{hold:List Entry}{K:Exit->St->Prop}{todo:List Item}
theorem Go.OZ{env a:Env}{σ:aa}{D:List nj}{rc:Rec}(c:∀t,(env t).W (a t))(h:Go P m fid n ro todo ⟨a,σ,D,rc⟩ K):Go P m fid n ro todo ⟨env,σ,D,rc⟩ K:=λQ k O tmps defs kind cs d b e=>h Q k O tmps defs kind cs d ⟨b.size,λt f=>c t _ _ (b.env t f),b.rel,b.ds,b.rc⟩ e
theorem ab.OZ{env a:Env}{σ:aa}{D:List nj}{rc:Rec}(c:∀t,(env t).W (a t))(h:ab P m fid n ro hold todo ⟨a,σ,D,rc⟩ K):ab P m fid n ro hold todo ⟨env,σ,D,rc⟩ K:=λb=>Go.OZ c (h b)
theorem ab.yD{env:Env}{σ:aa}{D:List nj}{rc:Rec}(t:Nat){a':AV}(a:(env t).W a')(h:ab P m fid n ro hold todo ⟨env.upd t a',σ,D,rc⟩ K):ab P m fid n ro hold todo ⟨env,σ,D,rc⟩ K:=
 ab.OZ (λu=>by
  by_cases e:u=t
  . subst e;simpa[Env.upd]using a
  . simp only[Env.upd,e,if_false];exact .refl _) h
theorem Tok.up{σ0 σ σ':aa}{a:AV}{kk:Nat}{es:List AV}(h:Tok σ0 σ a kk es)(c:σ.Le σ'):Tok σ0 σ' a kk es:=by
 refine⟨aa.le_trans h.1 c,?_⟩;rcases h.2 with h|h|⟨b,e,d,f,g⟩
 . exact .inl h
 . exact .inr (.inl h)
 . exact .inr (.inr ⟨b,e,d,f,c _ _ g⟩)
theorem ab.bD{env:Env}{σ:aa}{D:List nj}{rc:Rec}(t:Nat){b:Nat}{l:List AV}(v:AV)(hb:σ b=some (.cells l))(d:env t=.ref b 0)(c:v.cells=l)(h:ab P m fid n ro hold todo ⟨env.upd t (.cp v 0),σ.del b,D,rc⟩ K):ab P m fid n ro hold todo ⟨env,σ,D,rc⟩ K:=
 ab.freeze b l hb (λu=>Fz.upd (t:=t) (a':=.cp v 0) (by rw[d];exact .cp 0 0 v (by rw[c];simp) (λj a h=>by rw[c]at h;simpa using h)) u) (LS.del _ _ _) h
theorem rO(L:jr P){t f:Nat}{name:String}{i:TI}{info:TypeInfo}{mt:Method}{a:AV}(e:L.tt t=some i)(g:P.info? t=some info)(h:info.methods.find? (·.name==name)=some mt)(j:mt.path.toList=[])(l:mt.func=some (f,false))(m:i.kind=.struct):wn P t name f a a:=by
 intro k O v K Kp n o;have p:Made.depth≠0:=by decide
 obtain⟨N,q⟩:∃N,P.types.size+Made.depth=N+1:=Nat.exists_eq_succ_of_ne_zero (by omega);rw[q];unfold method;refine af (cT L e λc b _ _ _=>?_);rw[g]at b;cases b;simp only[h,j];unfold follow;refine af (ak ?_);simp only[l];refine af ?_;unfold receiverAt;refine af (aC L e λs _ d=>?_);obtain⟨r,rfl,_⟩:=rU d m;simp only[Place.get];exact ak (ak (o _ n))
theorem aa.Le.none{σ σ':aa}(h:σ.Le σ'){b:Nat}(hb:σ' b=Option.none):σ b=Option.none:=by
 cases e:σ b with
 |none=>rfl
 |some x=>rw[h b x e]at hb;cases hb
end
def ku.plain:ku->Bool
 |.part _=>false
 |.iG=>false
 |.map _=>false
 |_=>true
structure Fa(P:Program)(m:Mo)(nm:zd)(b o mb:Nat)(kd:IntKind)(GI:List (Int × AV)->Prop)(Un:aa->Prop)(Ld:aa->List (Int × AV)->Prop):Prop where
 lock:∀{a:AV}{σ:aa}{KF:dF->aa->Prop},rN b o a->Un σ->(∀σ' l,Ld σ' l->GI l->(∀c,c≠b->c≠mb->σ' c=σ c)->(∀y,σ mb=some y->y.plain=false)->KF (.val (.bk [])) σ')->ar P m nm.lock [a] σ KF
 unlock:∀{a:AV}{σ:aa}{l:List (Int × AV)}{KF:dF->aa->Prop},rN b o a->Ld σ l->GI l->(∀σ',Un σ'->(∀c,c≠b->c≠mb->σ' c=σ c)->KF (.val (.bk [])) σ')->ar P m nm.unlock [a] σ KF
 map:∀{σ:aa}{l:List (Int × AV)},Ld σ l->σ mb=some (mapA kd l)
 put:∀{σ:aa}{l l':List (Int × AV)},Ld σ l->Ld (σ.set mb (mapA kd l')) l'
 un:∀{σ σ':aa},(∀c,c=b\/c=mb->(∃x,σ c=some x/\x.plain=false)->σ' c=σ c)->Un σ->Un σ'
 ld:∀{σ σ':aa}{l:List (Int × AV)},(∀c,c=b\/c=mb->(∃x,σ c=some x/\x.plain=false)->σ' c=σ c)->Ld σ l->Ld σ' l
 Mb:∀{σ:aa},Un σ->∃x,σ b=some x/\x.plain=false
 Uj:∀{σ:aa}{l:List (Int × AV)},Ld σ l->∃x,σ b=some x/\x.plain=false
def rj(b o mb:Nat)(kd:IntKind)(GI:List (Int × AV)->Prop)(σ:aa):Prop:=σ b=some (.part (bP o))/\∃l,σ mb=some (mapA kd l)/\GI l
def RV(b o mb:Nat)(kd:IntKind)(σ:aa)(l:List (Int × AV)):Prop:=σ b=some (.part (iO o))/\σ mb=some (mapA kd l)
def Uk(b:Nat)(σ:aa):Prop:=σ b=some .iG
def Vy(b mb:Nat)(kd:IntKind)(σ:aa)(l:List (Int × AV)):Prop:=σ b=some (.part sI)/\σ mb=some (mapA kd l)
section
variable{P:Program}{nm:zd}(C:jf P nm)(X:jg P nm)(F:rH P nm)
include C X F in
theorem eo{m:Mo}(hs:m.solo=true){b o mb:Nat}(d:b≠mb){kd:IntKind}{GI:List (Int × AV)->Prop}:Fa P m nm b o mb kd GI (rj b o mb kd GI) (RV b o mb kd) where
 lock {a σ p} g hu h:=by obtain⟨f,l,e,i⟩:=hu;exact Hi C X F hs g f (h _ l ⟨aa.an _ _ _,by rw[aa.ag _ _ (Ne.symm d)];exact e⟩ i (λc hc _=>aa.ag _ _ hc) (λy k=>by rw[e]at k;cases k;rfl))
 unlock {a σ l p} g n hg h:=CK C X F hs g n.1 (h _ ⟨aa.an _ _ _,l,by rw[aa.ag _ _ (Ne.symm d)];exact n.2,hg⟩ (λc hc _=>aa.ag _ _ hc))
 map h:=h.2
 put {σ l q} h:=⟨by rw[aa.ag _ _ d];exact h.1,aa.an _ _ _⟩
 un {σ j} he h:=by obtain⟨f,l,e,i⟩:=h;exact⟨by rw[he b (.inl rfl) ⟨_,f,rfl⟩];exact f,l,by rw[he mb (.inr rfl) ⟨_,e,rfl⟩];exact e,i⟩
 ld {σ j l} he h:=⟨by rw[he b (.inl rfl) ⟨_,h.1,rfl⟩];exact h.1,by rw[he mb (.inr rfl) ⟨_,h.2,rfl⟩];exact h.2⟩
 Mb h:=⟨_,h.1,rfl⟩
 Uj h:=⟨_,h.1,rfl⟩
theorem Kf{A:eD}{j:Nat}{kd:IntKind}{GI:List (Int × AV)->Prop}(i:∀x,A.GI x↔∃l,x=mapA kd l/\GI l):Fa P (lG P A j) A.nm A.fb A.fo A.mb kd GI (Uk A.fb) (Vy A.fb A.mb kd) where
 lock {a σ k} e hu h:=Hj e hu λx m hm=>by obtain⟨l,rfl,d⟩:=(i x).1 m;exact h _ l ⟨aa.an _ _ _,by rw[aa.ag _ _ (Ne.symm A.d5),aa.an]⟩ d (λc f g=>by rw[aa.ag _ _ f,aa.ag _ _ g]) (λy n=>by rw[hm y n];rfl)
 unlock {a σ l k} e d hg h:=CN e d.1 d.2 ((i _).2 ⟨l,rfl,hg⟩) (by simp[mapA]) (h _ (aa.an _ _ _) (λc f g=>by rw[aa.ag _ _ f];simp[aa.del,g]))
 map h:=h.2
 put {σ l o} h:=⟨by rw[aa.ag _ _ A.d5];exact h.1,aa.an _ _ _⟩
 un {σ b} he h:=by have h:σ A.fb=some .iG:=h;show b A.fb=some .iG;rw[he _ (.inl rfl) ⟨_,h,rfl⟩];exact h
 ld {σ b l} he h:=⟨by rw[he _ (.inl rfl) ⟨_,h.1,rfl⟩];exact h.1,by rw[he _ (.inr rfl) ⟨_,h.2,rfl⟩];exact h.2⟩
 Mb h:=⟨_,h,rfl⟩
 Uj h:=⟨_,h.1,rfl⟩
end
def zu(a:Nat):Option TypeDesc->Bool
 |some (.struct fs)=>(match fs.toList with|[f]=>f.name !=  "_" && f.type==a && f.offset==0|_=>false)
 |_=>false
theorem GG.of{P:Program}{mt b e c:Nat}{kd:IntKind}(g:P.underlying mt=some (.map b e))(a:zu c (P.underlying b)=true)(h:P.underlying c=some (.int kd))(i:P.stoodInHeld b=false):GG P mt b e c kd:=by
 refine⟨g,?_,h,i⟩;generalize P.underlying b=d at a;unfold zu at a;split at a
 . next fs=>
   split at a
   . next f j=>simp only[Bool.and_eq_true,bne_iff_ne,beq_iff_eq]at a;refine⟨f,?_,a.1.1,a.1.2,a.2⟩;congr 2;apply Array.ext';rw[j]
   . cases a
 . cases a
def lq(b mb:Nat)(σ σ':aa):Prop:=∀c x,σ c=some x->c≠b->(c≠mb\/x.plain=true)->σ' c=some x
theorem lq.refl(b mb:Nat)(σ:aa):lq b mb σ σ:=λ_ _ h _ _=>h
section
variable{P:Program}(L:jr P){m:Mo}{fid n:Nat}{ro:Option Nat}{hold:List Entry}{s:St}{k:List Item}{K:Exit->St->Prop}{A:eD}{Fin:ah->aj->Goroutine->Prop}
theorem ab.runN(mu:List Nat)(N:Nat){todo:List Item}(h:bu L m fid n ro mu hold N todo s K):ab P m fid n ro hold todo s K:=λa=>Go.bu L mu hold N a h
theorem ab.Kg{c:Code}(h:ab P m fid n ro hold (.code c::.inLoop c::k) s K):ab P m fid n ro hold (.code (.loop c)::k) s K:=λa=>.NK (h (by simpa[lX,nH]using a))
theorem ab.again{c:Code}(b:nH hold c=true)(h:ab P m fid n ro hold (.code c::.inLoop c::k) s K):ab P m fid n ro hold (.inLoop c::k) s K:=λa=>.inLoop (h (by simp only[lX,List.all_cons,Bool.and_eq_true]at a ⊢;exact⟨b,trivial,a.2⟩))
theorem ab.cG{todo:List Item}(d:m.solo=true)(B:mC)(C:jS P B.ng)(X:lw P B.ng)(k:jf P B.nm)(l:jg P B.nm)(F:rH P B.nm){tm:Bool}{a:ku}
 (o:s.σ B.cF=some (.raw (.chan 0 #[] false 0 0 tm))) (p:s.σ B.gb=some (.cells [.lit (.int .u64 0),.lit (.int .u32 0)])) (q:s.σ B.fb=some (.part (bP B.fo))) (r:s.σ B.mb=some a) (f:a≠.iG) (g:B.GI a) (i:s.rc=.no)
 (h:∀(b:Nat) (hb:0<b) (Fin:ah->aj->Goroutine->Prop) (kd:CallKind) (c:List Frame) (e:ah),CR P m fid n ro K kd c e Fin ->
   ab P (zf P (B.at b hb) Fin B.n) fid n ro hold todo {s with σ:=((((s.σ.del B.cF).del B.gb).del B.mb).set B.fb .iG),rc:=.told kd c e} (λ_ _=>False)):ab P m fid n ro hold todo s K:=λj=>
 Go.cG d B C X k l F o p q r f g i λb hb Fin kd c e t=>h b hb Fin kd c e t j
theorem ab.Nf{m:Nat}{ops:Array Oper}{i:Nat}{rest:List Nat}{o:Oper}{args:Array Operand}{a:Array TypeId}{fn:Func}(f:ops[i]?=some o)(b:o.op=.call ⟨.value (.func A.ng.add),args,a⟩)(g:o.guard=none)(c:Oper.ok n o=true)
 (j:P.funcs[A.ng.add]?=some fn) (hb:fn.body.isSome=true) (d:(fn.name==  "runtime.NumGoroutine")=false) (l:args.toList.map (aq s.env)=[.ref A.gb 0,.lit (.int .i64 1)])
 (h:ab P (FF P A Fin m) fid n ro hold (.inRegion ops rest::k) {s with env:=bp s.env o.dst (.bk [])} (λ_ _=>False)):ab P (zf P A Fin (m+1)) fid n ro hold (.inRegion ops (i::rest)::k) s K:=λe=>
 Go.Nf f b (fV g) c j hb d l (h (by simpa[lX,nH]using e))
theorem ab.vp{m:Nat}{ops:Array Oper}{i:Nat}{rest:List Nat}{o:Oper}{fo:Operand}{args:Array Operand}{b:Array TypeId}{f:FuncId}{fn:Func}{body:Code}{first cap:List AV}{hold':List Entry}(q:ops[i]?=some o)(c:o.op=.go ⟨.value fo,args,b⟩)(r:o.guard=none)(d:Oper.ok n o=true)
 (e:aq s.env fo=.fn (.func f) first cap) (t:P.funcs[f]?=some fn) (hb:fn.body=some body) (g:(fn.name==  "runtime.NumGoroutine")=false) (u:((first++args.toList.map (aq s.env))++cap).length<=fn.ntmps) (j:s.σ A.fb=some .iG) (a:lX hold' [.code body]=true)
 (v:∀l,ab P (lG P A (A.n-(m+1))) f fn.ntmps none hold' [.code body] ⟨dT ((first++args.toList.map (aq s.env))++cap),kP A.fb,[],.told .deferred [dl P] l⟩ (λ_ _=>False))
 (h:ab P (zf P A Fin m) fid n ro hold (.inRegion ops rest::k) {s with env:=bp s.env o.dst .bJ} (λ_ _=>False)):ab P (FF P A Fin m) fid n ro hold (.inRegion ops (i::rest)::k) s K:=λp=>
 Go.vp q c (fV r) d e t hb g u j (λl=>v l a) (h (by simpa[lX,nH]using p))
theorem ab.S8{ops:Array Oper}{i:Nat}{rest:List Nat}{o:Oper}{fo:Operand}{args:Array Operand}{b:Array TypeId}{f:FuncId}{fn:Func}{body:Code}{first cap:List AV}{hold':List Entry}(p:ops[i]?=some o)(c:o.op=.go ⟨.value fo,args,b⟩)(q:o.guard=none)(d:Oper.ok n o=true)
 (e:aq s.env fo=.fn (.func f) first cap) (r:P.funcs[f]?=some fn) (hb:fn.body=some body) (g:(fn.name==  "runtime.NumGoroutine")=false) (t:((first++args.toList.map (aq s.env))++cap).length<=fn.ntmps) (j:s.σ A.fb=some .iG) (a:lX hold' [.code body]=true)
 (u:∀l,ab P (wG P A) f fn.ntmps none hold' [.code body] ⟨dT ((first++args.toList.map (aq s.env))++cap),kP A.fb,[],.told .deferred [dl P] l⟩ (λ_ _=>False))
 (h:ab P (qW P A Fin A.n (List.range A.n)) fid n ro hold (.inRegion ops rest::k) {s with env:=bp s.env o.dst .bJ} (λ_ _=>False)):ab P (zf P A Fin 0) fid n ro hold (.inRegion ops (i::rest)::k) s K:=λm=>
 Go.S8 p c (fV q) d e r hb g t j (λl=>u l a) (h (by simpa[lX,nH]using m))
theorem ab.Kd{j:Nat}{ops:Array Oper}{i:Nat}{rest:List Nat}{o:Oper}{ch x:Operand}{fn fd:Func}{q:ah}(r:ops[i]?=some o)(b:o.op=.send ch x)(c:Oper.ok n o=true)(t:o.guard=none)(d:aq s.env ch=.chan A.cF)(u:aq s.env x=A.res j)
 (e:s.σ A.fb=some .iG) (f:s.rc=.told .deferred [dl P] q) (g:ro=none) (v:P.funcs[fid]?=some fn) (w:n=fn.ntmps) (l:P.funcs[A.ng.done]?=some fd) (m:fd.body.isSome=true) (a:(fd.name==  "runtime.NumGoroutine")=false)
 (h:ab P (qJ P A) fid n ro hold (.inRegion ops rest::k) {s with env:=bp s.env o.dst (.lit undef)} (OY P A fn)):ab P (lG P A j) fid n ro hold (.inRegion ops (i::rest)::k) s K:=λp=>
 Go.Kd r b c (fV t) d u e f g v w l m a (h (by simpa[lX,nH]using p))
theorem ab.Ke{ops:Array Oper}{i:Nat}{rest:List Nat}{o:Oper}{args:Array Operand}{a:Array TypeId}{fn:Func}(f:ops[i]?=some o)(b:o.op=.call ⟨.value (.func A.ng.wait),args,a⟩)(g:o.guard=none)(c:Oper.ok n o=true)
 (j:P.funcs[A.ng.wait]?=some fn) (hb:fn.body.isSome=true) (d:(fn.name==  "runtime.NumGoroutine")=false) (l:args.toList.map (aq s.env)=[.ref A.gb 0])
 (h:ab P (rI P A) fid n ro hold (.inRegion ops rest::k) {s with env:=bp s.env o.dst (.bk [])} (λ_ _=>False)):ab P (wG P A) fid n ro hold (.inRegion ops (i::rest)::k) s K:=λe=>
 Go.Ke f b (fV g) c j hb d l (h (by simpa[lX,nH]using e))
theorem ab.Ew{ops:Array Oper}{i:Nat}{rest:List Nat}{o:Oper}{ch:Operand}{a:Array TypeId}{fn:Func}{g:ah}(h:ops[i]?=some o)(b:o.op=.call ⟨.builtin .close,#[ch],a⟩)(c:Oper.ok n o=true)(j:o.guard=none)(d:aq s.env ch=.chan A.cF)
 (e:s.rc=.told .deferred [dl P] g) (l:s.D=[]) (f:ro=none) (m:P.funcs[fid]?=some fn) (p:fn.results=#[]) (q:(Item.inRegion ops rest::k).all zt=true):ab P (rI P A) fid n ro hold (.inRegion ops (i::rest)::k) s K:=λ_=>
 Go.Ew h b c j d e l f m p q
theorem ab.FU{m:Nat}{R:List Nat}{ops:Array Oper}{i:Nat}{rest:List Nat}{o:Oper}{ct ce:Nat}{l p:TI}{ch:Operand}(q:ops[i]?=some o)(a:o.op=.recv ct ch true)(b:L.tt ct=some l)(c:l.kind=.chan ce)(d:L.tt ce=some p)
 (e:Oper.ok n o=true) (r:o.guard=none) (f:aq s.env ch=.chan A.cF)
 (h:∀j∈R,ab P (qW P A Fin m (R.erase j)) fid n ro hold (.inRegion ops rest::k) {s with env:=bp s.env o.dst (.bk [A.res j,.lit (.bool true)])} (λ_ _=>False)):ab P (qW P A Fin (m+1) R) fid n ro hold (.inRegion ops (i::rest)::k) s K:=λg=>
 Go.FU L q a b c d e (fV r) f λj t=>h j t (by simpa[lX,nH]using g)
theorem ab.AZ{t:Exit->St->Prop}{kd:CallKind}{b:List Frame}{u:ah}{R:List Nat}{ops:Array Oper}{i:Nat}{rest:List Nat}{o:Oper}{ct ce:Nat}{v w:TI}{ch:Operand}(x:ops[i]?=some o)(d:o.op=.recv ct ch true)(e:L.tt ct=some v)(f:v.kind=.chan ce)(g:L.tt ce=some w)
 (j:Oper.ok n o=true) (y:o.guard=none) (l:aq s.env ch=.chan A.cF) (p:s.σ A.fb=some .iG) (q:s.rc=.told kd b u) (c:CR P m fid n ro t kd b u Fin)
 (h:∀a,A.GI a->ab P m fid n ro hold (.inRegion ops rest::k) {s with env:=bp s.env o.dst (.bk [.bJ,.lit (.bool false)]),σ:=(s.σ.set A.mb a).set A.fb (.part (bP A.fo)),rc:=.no} t):ab P (qW P A Fin 0 R) fid n ro hold (.inRegion ops (i::rest)::k) s K:=λr=>
 Go.AZ L x d e f g j (fV y) l p q c λa z=>h a z (by simpa[lX,nH]using r)
end
section
variable{P:Program}(L:jr P){m:Mo}
theorem ar.O0{f:FuncId}{fn:Func}{args:List AV}{σ:aa}{c:dF->aa->Prop}{body:Code}(mu:List Nat)(hold:List Entry)(N k:Nat)(d:P.funcs[f]?=some fn)(hb:fn.body=some body)(e:args.length=k)(a:ou fn k=true)(b:nH hold body=true)
 (h:bu L m f fn.ntmps none mu hold N [.code body] ⟨dT args,σ,[],.no⟩ (Pi L m fn.results.toList (ov c))):ar P m f args σ c:=by
 simp only[ou,Bool.and_eq_true]at a;refine ar.thaw (ar.intro L d hb (by rw[e];exact Nat.le_of_ble_eq_true a.1) ?_ (Go.bu L mu hold N (by simpa[lX]using b) h));have:=a.2;simpa using this
variable{fid n:Nat}{ro:Option Nat}{hold:List Entry}{K:Exit->St->Prop}{todo:List Item}
@[simp] theorem PY{mu:List Nat}{s:St}:bu L m fid n ro mu hold 0 todo s K=ab P m fid n ro hold todo s K:=propext Iff.rfl
theorem ab.FV{env:Env}{σ:aa}{D:List nj}{rc:Rec}(I:Env->aa->Prop)(a:I env σ)(h:∀env σ,I env σ->ab P m fid n ro hold todo ⟨env,σ,D,rc⟩ K):ab P m fid n ro hold todo ⟨env,σ,D,rc⟩ K:=h env σ a
end
section
variable{P:Program}(L:jr P){o:Oper}{env:Env}{σ:aa}{K:AV->aa->Prop}{Kp:AV->aa->Prop}
theorem oW{t e:Nat}{x y:Operand}{it g:TI}{n:Int}{A:AV}(I:o.op=.makeSlice t x y)(Z:L.tt t=some it)(hk:it.kind=.slice e)(E:L.tt e=some g)(U:g.size=1)(hb:g.bytes<=1024)
 (W:(np g.zero).cells=[A]) (J:A.flat=true) (hx:aq env x=.lit (.int .i64 n)) (hy:aq env y=.lit (.int .i64 n)) (X:0<=n/\n<=1000000)
 (hK:∀b,σ b=none->K (.gn b 0 n.toNat n.toNat) (σ.set b (.cells (List.replicate n.toNat A)))):aM P o env σ K Kp:=
 aM.val (s:=λF=>Instr.makeSlice t (F x) (F y)) (λF=>by simp[execOp,I]) λk O F B hr=>by
  have M:=B x (by simp[I,Op.operands])
  have G:=B y (by simp[I,Op.operands])
  rw[hx]at M;rw[hy]at G;have e1:=c9 M;have e2:=c9 G
  have hw:IntKind.i64.wrap n=n:=by simp[IntKind.wrap,IntKind.signed,IntKind.bits];omega
  have C:g.zero.cells.size=1:=by obtain⟨_,_,_,_,_,_,h⟩:=L.facts E;rw[h];exact U
  have m:=z7 (k:=k) (z:=g.zero) (by rw[W];simp[J])
  rw[W]at m;rw[e1,e2];unfold Instr.makeSlice;refine af (aC L Z λd _ hd=>?_)
  rw[bN hd hk];dsimp only;refine af (s:=asInt (.int .i64 n)) (ak ?_);refine af (s:=asInt (.int .i64 n)) (ak ?_);refine af (cT L E λinfo _ _ N _=>?_)
  dsimp only;rw[hw]
  have Q:((decide (n<0)||decide ((info.bytes:Int)*n>2 ^ 48))||decide (n<0)||decide (n>n))=false:=by
   have q:(info.bytes:Int)*n<=1024*1000000:=by rw[N];exact Int.mul_le_mul (by omega) X.2 X.1 (by omega)
   have q2:¬((info.bytes:Int)*n>2 ^ 48):=by omega
   simp;omega
  simp only[Q,Bool.false_eq_true,if_false];refine af (pz ?_);refine af (cq L E ?_);rw[U]
  have j:∀zero:Array Value,(n.toNat≠0->zero=g.zero.cells)->fE P (do let a <-newRow e ((Array.range (n.toNat*1)).map (zero[· % zero.size]!));pure (Value.slice (some a) n.toNat n.toNat)) k O (λv u H=>mN u H λR O2=>k.Le R/\∃a c,V R v a/\Rel R O2 c/\K a c) (λv u H=>k.Le u/\∃a c,V u v a/\Rel u H c/\Kp a c):=λzero hzero=>by
   have f:∀(i:Nat) v,((Array.range (n.toNat*1)).map (zero[· % zero.size]!))[i]?=some v->i<n.toNat/\g.zero.cells[0]?=some v:=λi v w=>by
    have hi:=(Array.getElem?_eq_some_iff.1 w).1;obtain⟨a7,p⟩:=Array.getElem?_eq_some_iff.1 w;simp at hi p;rw[hzero (by omega),C]at p
    refine⟨by omega,?_⟩
    subst p;simp[Nat.mod_one,C]
   refine af (jt (l:=List.replicate n.toNat A) hr (by simp) (λi v a w ha=>?_) (λi v w=>?_) λr u H S T D=>ak (.here ⟨T,.gn r 0 n.toNat n.toNat,_,.gn ..,D,hK r S⟩))
   . obtain⟨M,G⟩:=f i v w
     have:a=A:=(List.mem_replicate.1 (List.mem_of_getElem? ha)).2;subst this;exact m.2.1 0 v a G rfl
   . exact m.2.2 0 v (f i v w).2
  by_cases Y:n.toNat*1=0
  . rw[if_pos Y]
    refine af (ak ?_);exact j _ (λh=>by omega)
  . rw[if_neg Y]
    refine af (dz L E (af (ak ?_)));exact j _ (λ_=>rfl)
end
section
variable{P:Program}{m:Mo}{fid n:Nat}{ro:Option Nat}{hold:List Entry}{K:Exit->St->Prop}{todo:List Item}
theorem ab.Ng{env:Env}{σ:aa}{D:List nj}{rc:Rec}{b d i:Nat}{l cs:List AV}{es:List AV}{sp:bX}{at_:Nat}(hd:d≠b)(hb:σ b=some (.cells l))(z:∀e∈l,e.cells=[e])(E:σ d=some (.cells cs))(g:cs[at_]?=some (.sl 1 es sp))(k:∀e∈es,e.cells=[e])(A:es[i]?=some (.gn b 0 l.length l.length))
 (F:ab P m fid n ro hold todo ⟨env,(σ.del b).set d (.cells (cs.set at_ (.sl 1 (es.set i (.sl 1 l .any)) sp))),D,rc⟩ K):ab P m fid n ro hold todo ⟨env,σ,D,rc⟩ K:=by
 have r:=dU z;refine ab.freeze b l hb (λu=>.refl _) (λy x c=>?_) F;by_cases e:y=d
 . subst e
   simp[aa.set]at c;subst c;refine⟨hd,.inr ⟨cs,_,E,rfl,by simp,λj a G s o=>?_⟩⟩;by_cases B:j=at_
   . subst B
     rw[g]at s;cases s;have f:=(List.getElem?_eq_some_iff.1 g).1;rw[List.getElem?_set_self f]at o;cases o;refine .rows es _ sp (by simp) k (λx t=>?_) (λp a G v q=>?_)
     . rcases List.mem_or_eq_of_mem_set t with t|rfl
       . exact k x t
       . rfl
     . by_cases C:p=i
       . subst C
         rw[A]at v;cases v;have f:=(List.getElem?_eq_some_iff.1 A).1;rw[List.getElem?_set_self f]at q;cases q;exact .sl 0 l.length 1 l .any (Nat.le_refl _) (by omega) (λe H=>by rw[z e H];rfl) (λj a h=>by rw[r]at h;simpa using h) (.inl rfl)
       . rw[List.getElem?_set_ne (Ne.symm C)]at q
         rw[v]at q;cases q;exact .refl _
   . rw[List.getElem?_set_ne (Ne.symm B)]at o
     rw[s]at o;cases o;exact .refl _
 . rw[aa.ag _ _ e]at c
   unfold aa.del at c;split at c
   . cases c
   . next w=>exact⟨w,.inl c⟩
end
end Go.aR

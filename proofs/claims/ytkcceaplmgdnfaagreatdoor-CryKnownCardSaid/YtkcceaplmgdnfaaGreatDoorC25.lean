import Derived.Test.YtkcceaplmgdnfaaGreatDoorC24
set_option linter.all false
namespace Go.bu
open Go.Conc
open Go.ConcN (sumTo upd sumTo_upd upd_ne upd_same)
section
variable{P:Program}(L:hQ P){o:Oper}{env:Env}{σ:aa}{K:AV->aa->Prop}{Kp:AV->aa->Prop}
theorem yx{i:TI}{d:TypeDesc}{e:Nat}(h:dg P i d=true)(a:i.kind=.chan e):∃dir,d=.chan dir e:=by cases d<;>simp_all [dg]
theorem BQ{t e:Nat}{x:Operand}{i h:TI}{kd:IntKind}{n:Int}(l:o.op=.makeChan t x)(m:L.tt t=some i)(p:i.kind=.chan e)(q:L.tt e=some h)(u:au env x=.lit (.int kd n))(z:0<=n/\n<=1000000/\h.bytes<=1000000)
 (v:∀b,σ b=none->K (.chan b) (σ.set b (.raw (.chan n.toNat #[] false 0 0 false)))):aJ P o env σ K Kp:=
 aJ.val (s:=λf=>Instr.makeChan t (f x)) (λf=>by simp[execOp,l]) λk O f w j=>by
  have c:=w x (by simp_all)
  rw[u]at c;rw[dC c];unfold Instr.makeChan;refine ag (ah ?_);refine ag (aE L m λd _ hd=>?_)
  obtain⟨dir,rfl⟩:=yx hd p;simp only;refine ag (cV L q λinfo _ _ hb _=>?_)
  have y:((info.bytes:Int)*n)<=1000000*1000000:=by rw[hb];exact Int.mul_le_mul (by omega) (by omega) (by omega) (by omega)
  have g:¬(n<0\/n>IntKind.i64.max\/(info.bytes:Int)*n>2 ^ 48-112):=by have:IntKind.i64.max=9223372036854775807:=rfl;omega
  rw[if_neg g];refine ag (s:=newObj _) ⟨rfl,λr a=>ah ?_⟩
  exact .here ⟨.made a.2.2,_,_,.chan r,(j.mono (.made a.2.2)).set (.raw _ rfl),v r (j.isNone a.1 a.2.2)⟩
end
def v7(P:Program)(d:Deferred):Goroutine:=G {(default:Frame)with fn:=P.funcs.size,defers:=[d],mode:=.panicking [goexitEntry]} []
def yy:Item->Bool
 |.inRegion _ []=>true
 |.inBlock _=>true
 |.inScope _=>true
 |.code .skip=>true
 |.code .ret=>true
 |_=>false
theorem v8{P:Program}{f:FuncId}{fn:Func}{tmps:Array Value}(b:P.funcs[f]?=some fn)(d:fn.results=#[]):∀(todo:List Item),todo.all yy=true->∃n,QuitsD P n 0 (G ⟨f,tmps,todo,[],.run,.deferred,none⟩ [cd P])
 |[],_=>⟨_,.ctl rfl (λw=>by simp[G,stepG,stepG.exec,jO]) (sm b d (todo:=[]) (tmps:=tmps))⟩
 | i ::k,h=>by
   simp only[List.all_cons,Bool.and_eq_true]at h;obtain⟨n,e⟩:=v8 (tmps:=tmps) b d k h.2;by_cases a:i=.code .ret
   . subst a
     exact⟨_,.ctl rfl (λw=>by simp[G,stepG,stepG.exec,jO]) (sm b d (todo:=.code .ret::k) (tmps:=tmps))⟩
   . refine⟨_,.ctl rfl (λw=>?_) e⟩
     cases i with
     |code c=>cases c<;>first|(exact absurd rfl a)|(simp[yy]at h;done)|simp[G,stepG,stepG.exec]
     |inRegion ops l=>cases l<;>first|(simp[yy]at h;done)|simp[G,stepG,stepG.exec]
     |_=>first|(simp[yy]at h;done)|simp[G,stepG,stepG.exec]
section
variable{P:Program}{fid n:Nat}{ro:Option Nat}{s:St}{k:List Item}{K:Exit->St->Prop}{A:bt}{Fin:ai->aj->Goroutine->Prop}
theorem uR.none{m:Mo}{Q:ai->aj->Goroutine->Prop}{kind:CallKind}{cs:List Frame}{a:ai}:uR P m Q fid n ro kind cs (λ_ _=>False) a:=⟨λ_ _ _ _ _ _ _ _ _ _ h=>h.elim,λ_ _ _ _ _ _ _ _ _ _ _ h=>h.elim⟩
theorem v9{fn:FuncId}:seen P fn #[]=#[]:=rfl
theorem Dy{fr:Frame}{cs:List Frame}{x:Sem Go.Next}{w:World}{cases:Array CommCase}{b:Bool}{sh:CommShape}(h:x.runT P w #[]=(.ok (.comm cases b sh) w,#[])):stepG.apply P true fr cs none x w=.comm (G fr cs) cases b sh w #[]:=by simp only[stepG.apply,if_true,h,ite_self,v9,GStep.after];rfl
theorem BR{fr:Frame}{cs:List Frame}{x:Sem Go.Next}{w:World}{f:Fn}{cap:Array Value}{args:Array Value}(h:x.runT P w #[]=(.ok (.spawn {target:=.fn f cap,args}) w,#[])):stepG.apply P true fr cs none x w=.spawn (G (fr.finish undef) cs) (v7 P {target:=.fn f cap,args}) w #[]:=by simp only[stepG.apply,if_true,h,ite_self,v9,GStep.after];simp[v7,G]
theorem wh{b:Bool}{ops:Array Oper}{i:Nat}{rest:List Nat}{o:Oper}{ch x:Operand}{tmps:Array Value}{defs:List Deferred}{kind:CallKind}{cs:List Frame}{m:Mo}{env:Env}{d:ai}{c:Nat}(r:ops[i]?=some o)(f:o.op=.send ch x)(p:tmps.size=n)(q:eD d tmps env)(s:bK ops n env o)
 (g:Oper.ok n o=true) (h:au env ch=.chan c) (w:World):
 ∃ v,V d v (au env x)/\stepG P m.main (G ⟨fid,tmps,.inRegion ops (i::rest)::k,defs,.run,kind,ro⟩ cs) w=.comm (G ⟨fid,tmps,.inRegion ops (i::rest)::k,defs,.run,kind,ro⟩ cs) #[scase c v (.tuple #[])] true .send w #[]/\
   v=Frame.eval ⟨fid,tmps,.inRegion ops (i::rest)::k,defs,.run,kind,ro⟩ x:=by
 have a:∀y∈o.op.operands,V d (Frame.eval ⟨fid,tmps,.inRegion ops (i::rest)::k,defs,.run,kind,ro⟩ y) (au env y):=λy A=>by
  refine V.eval q p y ?_;simp only[Oper.ok,Bool.and_eq_true,Array.all_eq_true_iff_forall_mem]at g
  grind
 have j:=a ch (by simp_all);have t:=a x (by simp_all);rw[h]at j;generalize u:Frame.eval ⟨fid,tmps,.inRegion ops (i::rest)::k,defs,.run,kind,ro⟩ ch=B at j;cases j;refine⟨_,t,?_,rfl⟩;rw[dA r (fR p q s) (.inr λc e=>by simp_all) w];have l:execOp (Frame.eval ⟨fid,tmps,.inRegion ops (i::rest)::k,defs,.run,kind,ro⟩) o=pure (.comm #[scase c (Frame.eval ⟨fid,tmps,.inRegion ops (i::rest)::k,defs,.run,kind,ro⟩ x) (.tuple #[])] true .send):=by simp[execOp,f,u,scase]
 rw[l];by_cases z:(kind==CallKind.early)=true<;>simp[stepG.apply,seen,z,GStep.after,G]
theorem uk{α:Type}{f:TypeDesc->Sem α}{t:TypeId}{d:TypeDesc}{w:World}{es:Array Event}(h:P.underlying t=some d):(underlying t >>=f).runT P w es=(f d).runT P w es:=by
 unfold underlying
 simp_all
theorem wj{α:Type}{f:Value->Sem α}{t:TypeId}{info:TypeInfo}{z:Value}{w:World}{es:Array Event}(h:P.info? t=some info)(a:info.zero=some z):(zeroValue t >>=f).runT P w es=(f z).runT P w es:=by
 unfold zeroValue typeInfo
 simp_all
theorem wo(L:hQ P){ok:Bool}{ops:Array Oper}{i:Nat}{rest:List Nat}{o:Oper}{ct ce:Nat}{v a:TI}{ch:Operand}{tmps:Array Value}{defs:List Deferred}{kind:CallKind}{cs:List Frame}{m:Mo}{env:Env}{x:ai}{c:Nat}(A:ops[i]?=some o)(b:o.op=.recv ct ch ok)(f:L.tt ct=some v)(g:v.kind=.chan ce)(h:L.tt ce=some a)
 (y:tmps.size=n) (z:eD x tmps env) (B:bK ops n env o) (j:Oper.ok n o=true) (l:au env ch=.chan c) (w:World):
 stepG P m.main (G ⟨fid,tmps,.inRegion ops (i::rest)::k,defs,.run,kind,ro⟩ cs) w=.comm (G ⟨fid,tmps,.inRegion ops (i::rest)::k,defs,.run,kind,ro⟩ cs) #[rcase c a.zero] true (.recv ok) w #[]:=by
 have p:V x (Frame.eval ⟨fid,tmps,.inRegion ops (i::rest)::k,defs,.run,kind,ro⟩ ch) (au env ch):=by
  refine V.eval z y ch ?_;simp only[Oper.ok,Bool.and_eq_true,Array.all_eq_true_iff_forall_mem]at j
  simp_all
 rw[l]at p;generalize C:Frame.eval ⟨fid,tmps,.inRegion ops (i::rest)::k,defs,.run,kind,ro⟩ ch=D at p;cases p;rw[dA A (fR y z B) (.inr λc e=>by simp_all) w]
 obtain⟨⟨d,q,r⟩,_⟩:=L.facts f;obtain⟨dir,rfl⟩:=yx r g;obtain⟨_,info,s,_,_,t,_⟩:=L.facts h
 have u:(execOp (Frame.eval ⟨fid,tmps,.inRegion ops (i::rest)::k,defs,.run,kind,ro⟩) o).runT P w #[]=(.ok (.comm #[rcase c a.zero] true (.recv ok)) w,#[]):=by simp only[execOp,b,C];rw[uk q];simp only;rw[wj s t];rfl
 exact Dy u
theorem BS{ops:Array Oper}{i:Nat}{rest:List Nat}{o:Oper}{fo:Operand}{args:Array Operand}{j:Array TypeId}{f:Fn}{first cap:List AV}{tmps:Array Value}{defs:List Deferred}{kind:CallKind}{cs:List Frame}{m:Mo}{env:Env}{d:ai}(B:ops[i]?=some o)(l:o.op=.go ⟨.value fo,args,j⟩)
 (s:tmps.size=n) (t:eD d tmps env) (C:bK ops n env o) (p:Oper.ok n o=true) (q:au env fo=.fn f first cap):
 ∃ u y,Vs d u cap/\Vs d y (first++args.toList.map (au env))/\∀w,stepG P m.main (G ⟨fid,tmps,.inRegion ops (i::rest)::k,defs,.run,kind,ro⟩ cs) w=
   .spawn (G (Frame.finish ⟨fid,tmps,.inRegion ops (i::rest)::k,defs,.run,kind,ro⟩ undef) cs) (v7 P {target:=.fn f u.toArray,args:=y.toArray}) w #[]:=by
 have b:∀x∈o.op.operands,V d (Frame.eval ⟨fid,tmps,.inRegion ops (i::rest)::k,defs,.run,kind,ro⟩ x) (au env x):=λx D=>by
  refine V.eval t s x ?_;simp only[Oper.ok,Bool.and_eq_true,Array.all_eq_true_iff_forall_mem]at p
  grind
 have r:=b fo (by simp_all);rw[q]at r;generalize E:Frame.eval _ fo=cf at r;cases r with
 | fn _ h z K L M F N H=>
   have I:=Vs.ofArray (k:=d) (ρ:=Frame.eval ⟨fid,tmps,.inRegion ops (i::rest)::k,defs,.run,kind,ro⟩) (env:=env) (xs:=args) (λx D=>b x (by simp_all));refine⟨z.toList,h.toList++(args.map (Frame.eval ⟨fid,tmps,.inRegion ops (i::rest)::k,defs,.run,kind,ro⟩)).toList,⟨by omega,λi v a A g=>H i v a (by grind) g⟩,Vs.append ⟨by omega,λi v a A g=>F i v a (by grind) g⟩ ⟨by grind,λi v a A g=>I.2 i v a (by grind) g⟩,λw=>?_⟩;rw[dA B (fR s t C) (.inr λc e=>by simp_all) w];refine(BR (f:=f) (cap:=z) (args:=h++args.map (Frame.eval ⟨fid,tmps,.inRegion ops (i::rest)::k,defs,.run,kind,ro⟩)) ?_).trans ?_
   . simp only[execOp,l,resolve,E,Deferred.ofValue]
     rfl
   . have J:∀x:Array Value,(h.toList++x.toList).toArray=h++x:=λx=>by grind
     rw[J,Array.toArray_toList]
theorem Dz{m:Mo}{Q:ai->aj->Goroutine->Prop}{kk:ai}{O:aj}{tmps:Array Value}{defs:List Deferred}{kind:CallKind}{cs:List Frame}{f:FuncId}{fn:Func}{ops:Array Oper}{i:Nat}{rest:List Nat}{o:Oper}{args:Array Operand}{j:Array TypeId}(z:ops[i]?=some o)(p:o.op=.call ⟨.value (.func f),args,j⟩)(A:bK ops n s.env o)(q:Oper.ok n o=true)
 (B:P.funcs[f]?=some fn) (hb:fn.body.isSome=true) (t:(fn.name==  "runtime.NumGoroutine")=false) (g:AE n kk O tmps defs kind cs s)
 (h:∀cargs,Vs kk cargs (args.toList.map (au s.env))->T P m Q kk O (G (Frame.enter P f cargs.toArray .normal) (⟨fid,tmps,.inRegion ops (i::rest)::k,defs,.run,kind,ro⟩::eM s.rc cs))):T P m Q kk O (G ⟨fid,tmps,.inRegion ops (i::rest)::k,defs,.run,kind,ro⟩ (eM s.rc cs)):=by
 refine T.mP (λw=>dA z (fR g.size g.env A) (.inr λc e=>by simp_all) w) (dv ?_)
 have b:∀x∈o.op.operands,V kk (Frame.eval ⟨fid,tmps,.inRegion ops (i::rest)::k,defs,.run,kind,ro⟩ x) (au s.env x):=λx y=>by
  refine V.eval g.env g.size x ?_;simp only[Oper.ok,Bool.and_eq_true,Array.all_eq_true_iff_forall_mem]at q
  grind
 have C:=Vs.ofArray (k:=kk) (ρ:=Frame.eval ⟨fid,tmps,.inRegion ops (i::rest)::k,defs,.run,kind,ro⟩) (env:=s.env) (xs:=args) (λx y=>b x (by simp_all))
 have u:fn.body.isNone=false:=by cases y:fn.body<;>simp_all
 simp only[execOp,p,resolve];refine ag ?_;show dk P (Deferred.ofValue (.func (.func f) #[] #[]) _) kk O _ _;simp only[Deferred.ofValue];refine ah ?_;simp only[invoke,callFunc];refine ag (bb ?_);rw[B];simp only[t,u,Bool.false_eq_true,if_false];refine ah λ_=>⟨λd w r s l=>by simp,?_⟩
 have:=h (args.map (Frame.eval ⟨fid,tmps,.inRegion ops (i::rest)::k,defs,.run,kind,ro⟩)).toList ⟨by grind,λi v a E D=>C.2 i v a (by grind) D⟩
 have key:∀x:Array Value,x=(args.map (Frame.eval ⟨fid,tmps,.inRegion ops (i::rest)::k,defs,.run,kind,ro⟩)).toList.toArray->T P m Q kk O (G (Frame.enter P f x .normal) (⟨fid,tmps,.inRegion ops (i::rest)::k,defs,.run,kind,ro⟩::eM s.rc cs)):=λx e=>by grind
 grind
def pN(P:Program)(m:Mo)(fid n:Nat)(ro:Option Nat)(K:Exit->St->Prop)(kd:CallKind)(a:List Frame)(d:ai)(Fin:ai->aj->Goroutine->Prop):Prop:=∀todo s b c tmps defs,Go P m fid n ro todo s K->s.rc=.no->AE n b c tmps defs kd a s->d.Le b->Fin b c (G ⟨fid,tmps,todo,defs,.run,kd,ro⟩ a)
theorem Go.JG{m:Nat}{ops:Array Oper}{i:Nat}{rest:List Nat}{o:Oper}{args:Array Operand}{f:Array TypeId}{fn:Func}(r:ops[i]?=some o)(g:o.op=.call ⟨.value (.func A.ng.add),args,f⟩)(u:bK ops n s.env o)(j:Oper.ok n o=true)
 (w:P.funcs[A.ng.add]?=some fn) (hb:fn.body.isSome=true) (l:(fn.name==  "runtime.NumGoroutine")=false) (z:args.toList.map (au s.env)=[.ref A.gb 0,.lit (.int .i64 1)])
 (h:Go P (Dk P A Fin m) fid n ro (.inRegion ops rest::k) {s with env:=aX s.env o.dst (.bp [])} (λ_ _=>False)):Go P (nK P A Fin (m+1)) fid n ro (.inRegion ops (i::rest)::k) s K:=by
 intro Q kk O tmps defs kind cs p q F;refine Dz r g u j w hb l q λb t=>?_
 rw[z]at t;obtain⟨B,c⟩:=t
 have e:b.toArray=#[.pointer (some ⟨A.gb,0,none⟩),.int .i64 1]:=by
  match b,B,c with
  |[x,y],_,c=>have C:=c 0 x _ rfl rfl;have p:=c 1 y _ rfl rfl;cases C;cases p;rfl
 rw[e];refine .cN fH rfl ⟨rfl,_,_,rfl,?_⟩ (λ_ _ _ h=>h.elim);obtain⟨d,D,E⟩:=q.put (fid:=fid) (ro:=ro) (rest:=rest) (kk:=k) (σ':=s.σ) (v:=.tuple #[]) (a:=.bp []) (.refl kk) r (.bp _ _ rfl λi v a h=>by simp at h) q.rel;show T P (Dk P A Fin m) fH kk O (G (Frame.finish ⟨fid,tmps,.inRegion ops (i::rest)::k,defs,.run,kind,ro⟩ (.tuple #[])) (eM s.rc cs));rw[D];exact h fH kk O d defs kind cs p E .none
def ij(b:Nat):aa:=λc=>if c=b then some .fC else none
theorem Fu{m:Mo}{f:FuncId}{fn:Func}{body:Code}{cap args:List AV}{σ0:aa}{KE:ai->Exit->St->Prop}(k:P.funcs[f]?=some fn)(hb:fn.body=some body)(n:(fn.name==  "runtime.NumGoroutine")=false)(q:(args++cap).length<=fn.ntmps){kk:ai}(d:Rel kk aj.bot σ0)
 (o:uR P m fH f fn.ntmps none .deferred [cd P] (KE kk) kk)
 (h:∀l,Go P m f fn.ntmps none [.code body] ⟨cW (args++cap),σ0,[],.told .deferred [cd P] l⟩ (KE l)){a b:List Value}(g:Vs kk a cap) (i:Vs kk b args):
 T P m fH kk aj.bot (v7 P {target:=.fn (.func f) a.toArray,args:=b.toArray}):=by
 have p:fn.body.isNone=false:=by simp[hb]
 have hinv:∀w,(invoke (.fn (.func f) a.toArray) b.toArray).runT P w #[]=(.ok (.enter f (b++a).toArray) w,#[]):=λw=>by
  show Sem.runT P (callFunc f (b.toArray++a.toArray)) w #[]=_;unfold callFunc;rw[eW,k]
  simp_all
 refine T.cR (g':=G (Frame.enter P f (b++a).toArray .deferred) [cd P]) rfl (λw=>?_) ?_
 . simp only[v7,G,stepG,unwind,callDeferred,hinv]
   simp;rfl
 . have c:=i.append g
   have e:Frame.enter P f (b++a).toArray .deferred=⟨f,(b++a).toArray++Array.replicate (fn.ntmps-(b++a).length) undef,[.code body],[],.run,.deferred,none⟩:=by simp[Frame.enter,k,hb]
   have j:((b++a).toArray++Array.replicate (fn.ntmps-(b++a).length) undef).size=fn.ntmps:=by
    have:=c.1
    simp_all
   rw[e];exact h kk fH kk aj.bot _ [] .deferred [cd P] (by simp) ⟨j,rY c _,d,trivial,rfl,rfl,.refl kk⟩ o
def Pn(P:Program)(A:bt)(fn:Func):Exit->St->Prop:=λe s=>fn.results=#[]/\(e=.leave none\/e=.leave (some .ret))/\(∃a,s.rc=.told .deferred [cd P] a)/\∃r,s.D=[.mark r,.call (.func A.ng.done) [] [.ref A.gb 0]]/\s.σ r=some (.raw (.deferred (some [])))
theorem GB{f:FuncId}{fn fd:Func}(hf:P.funcs[f]?=some fn)(d:P.funcs[A.ng.done]?=some fd)(z:fd.body.isSome=true)(a:(fd.name==  "runtime.NumGoroutine")=false){kk:ai}:uR P (jY P A) fH f fn.ntmps none .deferred [cd P] (Pn P A fn) kk where
 leave k' O' tmps defs s todo n hle hs B e:=by
  obtain⟨b,J,⟨L,c⟩,r,o,p⟩:=e;obtain⟨env,σ,D,rc⟩:=s;simp only at c o p;subst c o;show T P (jY P A) fH k' O' (G ⟨f,tmps,todo,defs,.run,.deferred,none⟩ [cd P]);have g:=hs.ds
  match defs,g with
  | [d1,d2],⟨q,t,_⟩=>
    simp only[rX]at q t;obtain⟨C,E,rfl,i,j⟩:=t;subst q;have e1:C=#[]:=by have:=i.1;simp_all
    have e2:E=#[.pointer (some ⟨A.gb,0,none⟩)]:=by
     obtain⟨v,M,k⟩:=Vs.one j;cases k
     grind
    subst e1 e2;refine T.cR (g':=G ⟨f,tmps,todo,[{target:=.collected r,args:=#[]},{target:=.fn (.func A.ng.done) #[],args:=#[.pointer (some ⟨A.gb,0,none⟩)]}],.returning,.deferred,none⟩ [cd P]) rfl (λw=>?_) ?_
    . rcases B with⟨rfl,rfl⟩|⟨kk,rfl,rfl⟩|⟨_,_,_,_,rfl⟩
      . simp[G,stepG,stepG.exec]
      . simp[G,stepG,stepG.exec]
      grind
    . refine T.AS (fid:=f) (s:=Instr.takeDeferred r) rfl (K:=λcalls u F=>calls=[]/\u=k') (nxt:=λcalls w=>.go (G ⟨f,tmps,todo,calls++[{target:=.fn (.func A.ng.done) #[],args:=#[.pointer (some ⟨A.gb,0,none⟩)]}],.returning,.deferred,none⟩ [cd P]) w) ?_ ?_ ?_
      . rintro calls u F H _ _ ⟨rfl,rfl⟩
        refine⟨_,rfl,?_⟩
        have hinv:∀w,(invoke (.fn (.func A.ng.done) #[]) #[.pointer (some ⟨A.gb,0,none⟩)]).runT P w #[]=(.ok (.enter A.ng.done #[.pointer (some ⟨A.gb,0,none⟩)]) w,#[]):=λw=>by
         show Sem.runT P (callFunc A.ng.done _) w #[]=_;unfold callFunc;have l:fd.body.isNone=false:=by simp_all
         rw[eW,d];simp only[a,l,Bool.false_eq_true,if_false];simp
        refine T.cR (g':=G (Frame.enter P A.ng.done #[.pointer (some ⟨A.gb,0,none⟩)] .deferred) [jO P f tmps todo,cd P]) rfl (λw=>?_) ?_
        . simp only[G,stepG,unwind,callDeferred,hinv,List.nil_append]
          simp;rfl
        . exact .cN fH rfl ⟨rfl,f,fn,tmps,todo,hf,b,rfl⟩ (λ_ _ _ h=>h.elim)
      . intro w v H y
        simp only[G,stepG,unwind]
        simp_all
      . obtain⟨x,hx,m⟩:=hs.rel.1 r _ p (by simp)
        cases m with
        |raw _ hc=>unfold Instr.takeDeferred;refine ag (s:=getObj r) ⟨_,hx,rfl,?_⟩;exact ag (s:=setObj r _) ⟨⟨_,hx,rfl⟩,rfl,ah ⟨rfl,rfl⟩⟩
 panic k' O' tmps defs s todo N O hle hs I e:=by obtain⟨_,h|h,_⟩:=e<;>cases h
theorem BT{kk:ai}{O:aj}{σ:aa}{b:Nat}(d:Rel kk O σ)(h:σ b=some .fC):Rel kk aj.bot (ij b):=by
 refine⟨λc a e f=>?_,λc a e _=>?_⟩
 . unfold ij at e
   split at e
   . cases e;cases f
   . cases e
 . unfold ij at e
   split at e
   . next q=>subst q;cases e;exact⟨rfl,(d.2 _ _ h rfl).2.1,λl q=>by cases q⟩
   . cases e
theorem Go.FV{m:Nat}{KE:Exit->St->Prop}{ops:Array Oper}{i:Nat}{rest:List Nat}{o:Oper}{fo:Operand}{args:Array Operand}{c:Array TypeId}{f:FuncId}{fn:Func}{body:Code}{first cap:List AV}(u:ops[i]?=some o)(d:o.op=.go ⟨.value fo,args,c⟩)(v:bK ops n s.env o)(e:Oper.ok n o=true)
 (g:au s.env fo=.fn (.func f) first cap) (x:P.funcs[f]?=some fn) (hb:fn.body=some body) (j:(fn.name==  "runtime.NumGoroutine")=false) (y:((first++args.toList.map (au s.env))++cap).length<=fn.ntmps) (l:s.σ A.fb=some .fC) (p:∀kk,uR P (gg P A (A.n-(m+1))) fH f fn.ntmps none .deferred [cd P] KE kk)
 (z:∀B,Go P (gg P A (A.n-(m+1))) f fn.ntmps none [.code body] ⟨cW ((first++args.toList.map (au s.env))++cap),ij A.fb,[],.told .deferred [cd P] B⟩ KE)
 (h:Go P (nK P A Fin m) fid n ro (.inRegion ops rest::k) {s with env:=aX s.env o.dst .bJ} (λ_ _=>False)):Go P (Dk P A Fin m) fid n ro (.inRegion ops (i::rest)::k) s K:=by
 intro Q kk O tmps defs kind cs C b F;obtain⟨G,H,q,r,t⟩:=BS (P:=P) (fid:=fid) (k:=k) (rest:=rest) (defs:=defs) (kind:=kind) (ro:=ro) (cs:=eM s.rc cs) (m:=Dk P A Fin m) u d b.size b.env v e g;obtain⟨a,D,E⟩:=b.put (fid:=fid) (ro:=ro) (rest:=rest) (kk:=k) (σ':=s.σ) (.refl kk) u (.bJ undef) b.rel;refine .cN fH rfl ⟨rfl,_,_,λw _=>t w,Fu (KE:=λ_=>KE) x hb j y (BT b.rel l) (p _) z q r,?_⟩ (λ_ _ _ h=>h.elim);rw[D];exact h fH kk O a defs kind cs C E .none
theorem Go.Uh(u:A.dir=false){ops:Array Oper}{i:Nat}{rest:List Nat}{o:Oper}{fo:Operand}{args:Array Operand}{d:Array TypeId}{f:FuncId}{fn:Func}{body:Code}{first cap:List AV}(v:ops[i]?=some o)(e:o.op=.go ⟨.value fo,args,d⟩)(x:bK ops n s.env o)(g:Oper.ok n o=true)
 (j:au s.env fo=.fn (.func f) first cap) (y:P.funcs[f]?=some fn) (hb:fn.body=some body) (l:(fn.name==  "runtime.NumGoroutine")=false) (z:((first++args.toList.map (au s.env))++cap).length<=fn.ntmps) (p:s.σ A.fb=some .fC)
 (B:∀C,Go P (vG P A) f fn.ntmps none [.code body] ⟨cW ((first++args.toList.map (au s.env))++cap),ij A.fb,[],.told .deferred [cd P] C⟩ (λ_ _=>False))
 (h:Go P (pM P A Fin A.n (List.range A.n)) fid n ro (.inRegion ops rest::k) {s with env:=aX s.env o.dst .bJ} (λ_ _=>False)):Go P (nK P A Fin 0) fid n ro (.inRegion ops (i::rest)::k) s K:=by
 intro Q kk O tmps defs kind cs D b G;obtain⟨H,I,q,r,t⟩:=BS (P:=P) (fid:=fid) (k:=k) (rest:=rest) (defs:=defs) (kind:=kind) (ro:=ro) (cs:=eM s.rc cs) (m:=nK P A Fin 0) v e b.size b.env x g j;obtain⟨a,E,F⟩:=b.put (fid:=fid) (ro:=ro) (rest:=rest) (kk:=k) (σ':=s.σ) (.refl kk) v (.bJ undef) b.rel;have c:nK P A Fin 0=_:=if_neg (by simp_all);rw[c];refine .cN fH rfl ⟨rfl,_,_,λw _=>by have:=t w;rw[c]at this;exact this,Fu (KE:=λ_ _ _=>False) y hb l z (BT b.rel p) .none B q r,?_⟩ (λ_ _ _ h=>h.elim);rw[E];exact h fH kk O a defs kind cs D F .none
theorem Go.JH(f:A.dir=false){j:Nat}{ops:Array Oper}{i:Nat}{rest:List Nat}{o:Oper}{ch x:Operand}{fn fd:Func}{D:ai}(r:ops[i]?=some o)(g:o.op=.send ch x)(l:Oper.ok n o=true)(C:bK ops n s.env o)(p:au s.env ch=.chan A.cF)(L:au s.env x=A.res j)
 (t:s.σ A.fb=some .fC) (u:s.rc=.told .deferred [cd P] D) (y:ro=none) (E:P.funcs[fid]?=some fn) (F:n=fn.ntmps) (z:P.funcs[A.ng.done]?=some fd) (B:fd.body.isSome=true) (q:(fd.name==  "runtime.NumGoroutine")=false)
 (h:Go P (jY P A) fid n ro (.inRegion ops rest::k) {s with env:=aX s.env o.dst (.lit undef)} (Pn P A fn)):Go P (gg P A j) fid n ro (.inRegion ops (i::rest)::k) s K:=by
 intro Q kk O tmps defs kind cs H a M;have c:=a.rc;rw[u]at c;obtain⟨rfl,rfl,I⟩:=c;subst y F;obtain⟨d,N,J⟩:=a.put (fid:=fid) (ro:=none) (rest:=rest) (kk:=k) (σ':=s.σ) (.refl kk) r (.lit undef) a.rel;have R:=h fH kk O d defs .deferred [cd P] H J (GB E z B q);refine .cN fH rfl (.inr (.inr ⟨f,rfl,(a.rel.2 _ _ t rfl).1,G ⟨fid,tmps,.inRegion ops (i::rest)::k,defs,.run,.deferred,none⟩ (eM s.rc [cd P]),.tuple #[],Frame.eval ⟨fid,tmps,.inRegion ops (i::rest)::k,defs,.run,.deferred,none⟩ x,λw _=>?_,?_,?_⟩)) (λ_ _ _ h=>h.elim)
 . obtain⟨v,_,e,rfl⟩:=wh (P:=P) (m:=gg P A j) (b:=false) r g a.size a.env C l p w (fid:=fid) (ro:=none) (k:=k) (rest:=rest) (defs:=defs) (kind:=.deferred) (cs:=eM s.rc [cd P])
   exact e
 . obtain⟨v,S,_,rfl⟩:=wh (P:=P) (m:=gg P A j) (b:=false) r g a.size a.env C l p default (fid:=fid) (ro:=none) (k:=k) (rest:=rest) (defs:=defs) (kind:=.deferred) (cs:=eM s.rc [cd P])
   simp_all
 . show T P (jY P A) fH kk O (G (Frame.finish ⟨fid,tmps,.inRegion ops (i::rest)::k,defs,.run,.deferred,none⟩ undef) (eM s.rc [cd P]))
   simp_all
theorem Go.JI{ops:Array Oper}{i:Nat}{rest:List Nat}{o:Oper}{args:Array Operand}{d:Array TypeId}{fn:Func}(p:ops[i]?=some o)(e:o.op=.call ⟨.value (.func A.ng.wait),args,d⟩)(t:bK ops n s.env o)(f:Oper.ok n o=true)
 (u:P.funcs[A.ng.wait]?=some fn) (hb:fn.body.isSome=true) (g:(fn.name==  "runtime.NumGoroutine")=false) (w:args.toList.map (au s.env)=[.ref A.gb 0])
 (h:Go P (qg P A) fid n ro (.inRegion ops rest::k) {s with env:=aX s.env o.dst (.bp [])} (λ_ _=>False)):Go P (vG P A) fid n ro (.inRegion ops (i::rest)::k) s K:=by
 intro Q kk O tmps defs kind cs x j B;refine Dz p e t f u hb g j λl q=>?_
 rw[w]at q;obtain⟨v,rfl,m⟩:=Vs.one q;cases m;refine .cN fH rfl ⟨rfl,_,_,rfl,λr c=>?_⟩ (λ_ _ _ h=>h.elim);obtain⟨b,y,z⟩:=j.put (fid:=fid) (ro:=ro) (rest:=rest) (kk:=k) (σ':=s.σ) (v:=.tuple #[]) (a:=.bp []) c p (.bp _ _ rfl λi v a h=>by simp at h) (j.rel.mono c);show T P (qg P A) fH r O (G (Frame.finish ⟨fid,tmps,.inRegion ops (i::rest)::k,defs,.run,kind,ro⟩ (.tuple #[])) (eM s.rc cs));rw[y];exact h fH r O b defs kind cs x z .none
theorem DC{c s r:Nat}{tm:Bool}{w:World}{a:Array TypeId}{ty:TypeId}{cs:Array Bool}(h:w.heap[c]?=some (.chan 0 #[] false s r tm)):
 (invoke (.builtin .close a ty cs) #[.chan (some c)]).runT P w #[]=(.ok (.value (.tuple #[])) {w with heap:=w.heap.setIfInBounds c (.chan 0 #[] true s r tm)},#[⟨.obj c,false,true⟩,⟨.obj c,true,true⟩]):=by
 change Sem.runT P (Sem.getObj c _) w #[]=_;rw[Sem.runT,h];change Sem.runT P (Sem.setObj c _ _) w _=_;rw[Sem.runT,h];rfl
theorem BU{fr:Frame}{cs:List Frame}{x:Sem Go.Next}{w w':World}{v:Value}{es:Array Event}(a:(fr.kind==.early)=false)(h:x.runT P w #[]=(.ok (.value v) w',es))(b:seen P fr.fn es=es):stepG.apply P true fr cs none x w=.go (G (fr.finish v) cs) w' es:=by simp only[stepG.apply,if_true,h,a,GStep.after];simp[b,G]
theorem Go.DD{ops:Array Oper}{i:Nat}{rest:List Nat}{o:Oper}{ch:Operand}{g:Array TypeId}{fn:Func}{y:ai}(j:ops[i]?=some o)(e:o.op=.call ⟨.builtin .close,#[ch],g⟩)(l:Oper.ok n o=true)(B:o.guard=none)(a:au s.env ch=.chan A.cF)
 (f:s.rc=.told .deferred [cd P] y) (z:s.D=[]) (p:ro=none) (C:P.funcs[fid]?=some fn) (E:fn.results=#[]) (F:(Item.inRegion ops rest::k).all yy=true):Go P (qg P A) fid n ro (.inRegion ops (i::rest)::k) s K:=by
 intro Q kk O tmps defs kind cs J d L;obtain⟨env,σ,D,rc⟩:=s;simp only at f z;subst f;subst z;subst p;obtain⟨rfl,rfl,H⟩:=d.rc;have b:defs=[]:=by cases defs with|nil=>rfl|cons _ _=>exact d.ds.elim
 subst b;obtain⟨c,M,R⟩:=d.put (fid:=fid) (ro:=none) (rest:=rest) (kk:=k) (σ':=σ) (v:=.tuple #[]) (.refl kk) j (.bJ _) d.rel;obtain⟨N,S⟩:=v8 (tmps:=c) C E _ F
 have q:V kk (Frame.eval ⟨fid,tmps,.inRegion ops (i::rest)::k,[],.run,.deferred,none⟩ ch) (au env ch):=by
  refine V.eval d.env d.size ch ?_;simp only[Oper.ok,Bool.and_eq_true,Array.all_eq_true_iff_forall_mem]at l
  simp_all
 simp only at a;rw[a]at q;generalize t:Frame.eval ⟨fid,tmps,.inRegion ops (i::rest)::k,[],.run,.deferred,none⟩ ch=T at q;cases q;refine .cN fH rfl ⟨rfl,G (Frame.finish ⟨fid,tmps,.inRegion ops (i::rest)::k,[],.run,.deferred,none⟩ (.tuple #[])) [cd P],N,?_,λw s r I U a=>?_,?_⟩ (λ_ _ _ h=>h.elim)
 . simp[mayWake,G,eM,j,e]
 . have u:Region.wanted o (yielded ops tmps)=true:=by simp[Region.wanted,B]
   have x:(execOp (Frame.eval ⟨fid,tmps,.inRegion ops (i::rest)::k,[],.run,.deferred,none⟩) o).runT P w #[]=(.ok (.value (.tuple #[])) {w with heap:=w.heap.setIfInBounds A.cF (.chan 0 #[] true s r I)},#[⟨.obj A.cF,false,true⟩,⟨.obj A.cF,true,true⟩]):=by
    simp only[execOp,e,resolve];have:(#[ch].map (Frame.eval ⟨fid,tmps,.inRegion ops (i::rest)::k,[],.run,.deferred,none⟩))=#[.chan (some A.cF)]:=by simp[t]
    rw[this];exact DC (cs:=#[]) a
   rw[show eM (Rec.told CallKind.deferred [cd P] y) [cd P]=[cd P]from rfl];refine(dA (m:=qg P A) j u (.inl rfl) w).trans ?_;exact BU (by simp) x (by simp[seen])
 simp_all
theorem Go.Fv(L:hQ P){m:Nat}{R:List Nat}{ops:Array Oper}{i:Nat}{rest:List Nat}{o:Oper}{ct ce:Nat}{z D:TI}{ch:Operand}(B:ops[i]?=some o)(g:o.op=.recv ct ch true)(l:L.tt ct=some z)(p:z.kind=.chan ce)(q:L.tt ce=some D)
 (r:Oper.ok n o=true) (E:bK ops n s.env o) (t:au s.env ch=.chan A.cF)
 (h:∀j∈R,Go P (pM P A Fin m (R.erase j)) fid n ro (.inRegion ops rest::k) {s with env:=aX s.env o.dst (.bp [A.res j,.lit (.bool true)])} (λ_ _=>False)):Go P (pM P A Fin (m+1) R) fid n ro (.inRegion ops (i::rest)::k) s K:=by
 intro Q kk O tmps defs kind cs F f M;have c:=wo (P:=P) (fid:=fid) (k:=k) (rest:=rest) (defs:=defs) (kind:=kind) (ro:=ro) (cs:=eM s.rc cs) (m:=pM P A Fin (m+1) R) L B g l p q f.size f.env E r t;refine .cN fH rfl ⟨rfl,_,_,λw _=>c w,λw _=>c w,rfl,λj H x v d N=>?_⟩ (λ_ _ _ h=>h.elim)
 have e:V x (.tuple #[v,.bool true]) (.bp [A.res j,.lit (.bool true)]):=.bp _ _ rfl λi u a C y=>by
  match i with
  |0=>simp_all
  |1=>simp at C y;subst C;subst y;exact .lit _
  |i+2=>simp at y
 obtain⟨b,I,J⟩:=f.put (fid:=fid) (ro:=ro) (rest:=rest) (kk:=k) (σ':=s.σ) d B e (f.rel.mono d);show T P (pM P A Fin m (R.erase j)) fH x O (G (Frame.finish ⟨fid,tmps,.inRegion ops (i::rest)::k,defs,.run,kind,ro⟩ _) (eM s.rc cs));rw[I];exact h j H fH x O b defs kind cs F J .none
theorem Go.zW(L:hQ P){m:Mo}{M:Exit->St->Prop}{kd:CallKind}{f:List Frame}{N:ai}{R:List Nat}{ops:Array Oper}{i:Nat}{rest:List Nat}{o:Oper}{ct ce:Nat}{S T:TI}{ch:Operand}(U:ops[i]?=some o)(v:o.op=.recv ct ch true)(y:L.tt ct=some S)(z:S.kind=.chan ce)(B:L.tt ce=some T)
 (C:Oper.ok n o=true) (W:bK ops n s.env o) (D:au s.env ch=.chan A.cF) (E:s.σ A.fb=some .fC) (g:s.rc=.told kd f N) (j:pN P m fid n ro M kd f N Fin)
 (h:∀a,A.GI a->Go P m fid n ro (.inRegion ops rest::k) {s with env:=aX s.env o.dst (.bp [.bJ,.lit (.bool false)]),σ:=(s.σ.set A.mb a).set A.fb (.part (bo A.fo)),rc:=.no} M):Go P (pM P A Fin 0 R) fid n ro (.inRegion ops (i::rest)::k) s K:=by
 intro Q kk O tmps defs kind cs Y e Z;have l:=wo (P:=P) (fid:=fid) (k:=k) (rest:=rest) (defs:=defs) (kind:=kind) (ro:=ro) (cs:=eM s.rc cs) (m:=pM P A Fin 0 R) L U v y z B e.size e.env W C D;have b:=e.rc;rw[g]at b;obtain⟨rfl,rfl,F⟩:=b;refine .cN fH rfl ⟨rfl,_,_,λw _=>l w,λw _=>l w,rfl,(e.rel.2 _ _ E rfl).2.1,λH x a c I J=>?_⟩ (λ_ _ _ h=>h.elim)
 have p:V H (.tuple #[T.zero,.bool false]) (.bp [.bJ,.lit (.bool false)]):=.bp _ _ rfl λi u a r q=>by
  match i with
  |0=>simp at r q;subst r;subst q;exact .bJ _
  |1=>simp at r q;subst r;subst q;exact .lit _
  |i+2=>simp at q
 obtain⟨d,X,t⟩:=e.put (fid:=fid) (ro:=ro) (rest:=rest) (kk:=k) (σ':=(s.σ.set A.mb a).set A.fb (.part (bo A.fo))) (O':=(O.set A.mb x).set A.fb (.part (bo A.fo))) c U p (((e.rel.mono c).set I).set (.part _));show Fin H _ (G (Frame.finish ⟨fid,tmps,.inRegion ops (i::rest)::k,defs,.run,kind,ro⟩ _) (eM s.rc cs));rw[X,g];exact j _ _ H _ d defs (h a J) rfl ⟨t.size,t.env,t.rel,t.ds,trivial⟩ (F.trans c)
theorem T.R9{m:Mo}{Q:ai->aj->Goroutine->Prop}{kk:ai}{O:aj}:∀(n:Nat){g a:Goroutine},iu P (λ_=>True) n g a->T P m Q kk O a->T P m Q kk O g
 |0,g,a,h,b=>by obtain rfl:g=a:=h;exact b
 |n+1,g,a,⟨c,d,h⟩,b=>.step (λe f i=>e=kk/\f=O/\i=c) d.1 (λe f i j=>by obtain⟨rfl,rfl,rfl⟩:=j;exact T.R9 n h b) λw k=>⟨c,w,#[],kk,O,d.2 _ w trivial,Eff.refl _ _ _,k,rfl,rfl,rfl⟩
theorem Go.Ok{m:Mo}{todo:List Item}(f:m.solo=true)(B:fI)(C:fG P B.ng)(X:gF P B.ng)(CM:eY P B.nm)(XM:eZ P B.nm)(F:lq P B.nm){a:fy}{H:Nat->Option Value}{σ':aa}
 (N:B.dir=false->∃tm,s.σ B.cF=some (.raw (.chan 0 #[] false 0 0 tm))) (hG:s.σ B.gb=some (.cells [.lit (.int .u64 0),.lit (.int .u32 0)])) (hL:s.σ B.fb=some (.part H)) (R:H B.fo=some (.int .i32 0)) (S:H (B.fo+1)=some (.int .u32 0)) (U:B.dir=true->∀j,j<B.n->H (B.fo+2+j)≠none)
 (hM:s.σ B.mb=some a) (V:a.gone=false) (W:B.GI a) (Y:s.rc=.no) (r:∀d y,σ' d=some y->(d=B.fb/\y=.fC)\/(d≠B.fb/\d≠B.mb/\d≠B.gb/\(B.dir=false->d≠B.cF)/\s.σ d=some y))
 (h:∀(b:Nat) (hb:0<b) (Fin:ai->aj->Goroutine->Prop) (kd:CallKind) (t:List Frame) (k0:ai),pN P m fid n ro K kd t k0 Fin ->
   Go P (nK P (B.at b hb) Fin B.n) fid n ro todo {s with σ:=σ',rc:=.told kd t k0} (λ_ _=>False)):Go P m fid n ro todo s K:=by
 intro Q I O tmps defs kind cs h1 c h3;rw[Y];refine T.sat rfl λ⟨w,A⟩=>?_
 obtain⟨xG,oG,rG⟩:=c.rel.1 _ _ hG (by simp)
 obtain⟨xM,oM,rM⟩:=c.rel.1 _ _ hM V;have oL:=c.rel.yv hL;cases rG with
 | cells J eg _ q1 q2 q3=>
   have hg:∀(i:Nat) (v:Value),([.lit (.int .u64 0),.lit (.int .u32 0)]:List AV)[i]?=some (AV.lit v)->J[i]?=some v:=λi v hv=>by
    have Z:i<J.size:=by grind
    have D:=q2 i J[i] _ (by simp[Z]) hv
    generalize hq:J[i]=u at D;cases D
    grind
   obtain⟨ec,cc,_,E,_⟩:=A.part _ _ oL
   refine .phase (λp q L=>T P m Q p q L) f (λ_ _ _ h=>h) (Dv B C X CM XM F (λhd=>by
    obtain⟨tm,N⟩:=N hd;obtain⟨xF,oF,rF⟩:=c.rel.1 _ _ N (by simp)
    cases rF
    simp_all) oG (hg 0 _ rfl) (hg 1 _ rfl) oL R S U (λn p q L gB h hT=>T.R9 n h hT) oM rM W λb hb=>?_)
   have G:pN P m fid n ro K kind cs I (λp q L=>T P m Q p q L):=λa7 s' p q g k o hn hs a8=>by have:=o Q p q g k kind cs h1 hs (h3.mono a8);rw[hn]at this;exact this
   have o:=h b hb _ kind cs I G;refine o fH I _ tmps defs kind cs h1 ⟨c.size,c.env,⟨λd y e M=>?_,λd y e M=>?_⟩,c.ds,rfl,rfl,.refl I⟩ .none
   . rcases r d y e with⟨rfl,rfl⟩|⟨d1,d2,d3,d4,e⟩
     . cases M
     . obtain⟨x,z1,z2⟩:=c.rel.1 d y e M
       exact⟨x,by simp only[fI.rest];grind,z2⟩
   . rcases r d y e with⟨rfl,rfl⟩|⟨d1,d2,d3,d4,e⟩
     . exact⟨by simp[fI.rest],⟨_,E⟩,λl z=>by cases z⟩
     . obtain⟨z1,z2⟩:=c.rel.2 d y e M
       exact⟨by simp[fI.rest,z1],z2⟩
theorem Go.bL{m:Mo}{todo:List Item}(c:m.solo=true)(B:fI)(p:B.dir=false)(C:fG P B.ng)(X:gF P B.ng)(u:eY P B.nm)(v:eZ P B.nm)(F:lq P B.nm){tm:Bool}{a:fy}
 (w:s.σ B.cF=some (.raw (.chan 0 #[] false 0 0 tm))) (x:s.σ B.gb=some (.cells [.lit (.int .u64 0),.lit (.int .u32 0)])) (z:s.σ B.fb=some (.part (bo B.fo))) (A:s.σ B.mb=some a) (j:a.gone=false) (k:B.GI a) (l:s.rc=.no)
 (h:∀(b:Nat) (hb:0<b) (Fin:ai->aj->Goroutine->Prop) (kd:CallKind) (f:List Frame) (r:ai),pN P m fid n ro K kd f r Fin ->
   Go P (nK P (B.at b hb) Fin B.n) fid n ro todo {s with σ:=((((s.σ.del B.cF).del B.gb).del B.mb).set B.fb .fC),rc:=.told kd f r} (λ_ _=>False)):Go P m fid n ro todo s K:=
 Go.Ok c B C X u v F (λ_=>⟨tm,w⟩) x z (by simp[bo]) (by simp[bo]) (λq=>by simp_all) A j k l (λd y e=>by
  by_cases g:d=B.fb
  . simp_all
  by_cases i:d=B.mb
  . subst i;simp[aa.set,aa.del,g]at e
  by_cases o:d=B.gb
  . subst o;simp[aa.set,aa.del,g,i]at e
  by_cases t:d=B.cF
  . subst t;simp[aa.set,aa.del,g,i,o]at e
  simp only[aa.set,aa.del,g,i,o,t,if_false]at e
  simp_all) h
end
end Go.bu
namespace Go.bu
open Go.Conc
section
variable{P:Program}(L:hQ P){o:Oper}{env:Env}{σ:aa}{K:AV->aa->Prop}{Kp:AV->aa->Prop}
theorem DF{i:TI}{d:TypeDesc}(h:dg P i d=true)(a:i.kind=.iface):∃ms,d=.interface ms:=by cases d<;>simp_all [dg]
theorem cK{op:BinOp}{t z:Nat}{x:Operand}{i:TI}{isNil:Bool}(A:o.op=.binOp op t x (.const .nilIface) z)(B:L.tt t=some i)(C:i.kind=.iface)
 (D:(au env x=.lit .nilIface/\isNil=true)\/(∃d a,au env x=.kD d a)/\isNil=false){b:Bool}(l:(op=.eql/\b=isNil)\/(op=.neq/\b=!isNil)) (E:K (.lit (.bool b)) σ):aJ P o env σ K Kp:=
 aJ.val (s:=λc=>do eqGuard op t x (.const .nilIface) (c x) (c (.const .nilIface));binOp op t (c x) (c (.const .nilIface))) (λc=>by simp[execOp,A]) λk O c m F=>by
  have n:=m x (by simp_all)
  have q:=m (.const .nilIface) (by simp_all)
  have G:c (.const .nilIface)=.nilIface:=by simp only[au]at q;generalize c (.const .nilIface)=w at q;cases q;rfl
  have f:(c x=.nilIface/\isNil=true)\/∃d v,c x=.iface d v/\isNil=false:=by
   rcases D with⟨e,h⟩|⟨⟨d,a,e⟩,h⟩<;>rw[e]at n
   . generalize c x=w at n;cases n;simp_all
   . generalize c x=w at n;cases n;simp_all
  rw[G]
  have H:eqGuard op t x (.const .nilIface) (c x) .nilIface=pure ():=by rcases f with⟨f,_⟩|⟨d,v,f,_⟩<;>rw[f]<;>rcases l with⟨rfl,_⟩|⟨rfl,_⟩<;>simp[eqGuard]
  rw[H];refine ag (ah ?_)
  have fin:∀{s:Sem Value},s=(do pure (.bool b))->dk P s k O (λv p r=>ly p r λu I=>k.Le u/\∃a g,V u v a/\Rel u I g/\K a g) (λv p r=>k.Le p/\∃a g,V p v a/\Rel p r g/\Kp a g):=λe=>by rw[e];exact ah (.here ⟨.refl k,_,σ,.lit _,F,E⟩)
  have j:∀(R:Bool->ai->aj->Prop) (y:Value->ai->aj->Prop),R isNil k O->dk P (Op.equal t (c x) .nilIface) k O R y:=λR y J=>by
   show dk P (Op.equalIn (9999+1) t (c x) .nilIface) k O R y;rw[Op.equalIn];refine ag (aE L B λd _ hd=>?_)
   obtain⟨ms,rfl⟩:=DF hd C
   rcases f with⟨f,rfl⟩|⟨d,v,f,rfl⟩<;>rw[f]<;>exact ah J
  rcases f with⟨f,M⟩|⟨d,v,f,M⟩<;>rw[f]at j ⊢<;>rcases l with⟨rfl,rfl⟩|⟨rfl,rfl⟩
  . exact ag (s:=Op.equal t .nilIface .nilIface) (j _ _ (fin rfl))
  . exact ag (s:=Op.equal t .nilIface .nilIface) (j _ _ (fin rfl))
  . exact ag (s:=Op.equal t (.iface d v) .nilIface) (j _ _ (fin rfl))
  . exact ag (s:=Op.equal t (.iface d v) .nilIface) (j _ _ (fin rfl))
end
section
variable{P:Program}{m:Mo}{fid n:Nat}{ro:Option Nat}{hold:List Entry}{K:Exit->St->Prop}{todo:List Item}
theorem Go.Po{env a:Env}{σ:aa}{D:List kF}{rc:Rec}(c:∀t,(env t).W (a t))(h:Go P m fid n ro todo ⟨a,σ,D,rc⟩ K):Go P m fid n ro todo ⟨env,σ,D,rc⟩ K:=λQ k O tmps defs kind cs d b e=>h Q k O tmps defs kind cs d ⟨b.size,λt f=>c t _ _ (b.env t f),b.rel,b.ds,b.rc⟩ e
theorem af.Po{env a:Env}{σ:aa}{D:List kF}{rc:Rec}(c:∀t,(env t).W (a t))(h:af P m fid n ro hold todo ⟨a,σ,D,rc⟩ K):af P m fid n ro hold todo ⟨env,σ,D,rc⟩ K:=λb=>Go.Po c (h b)
theorem af.CS{env:Env}{σ:aa}{D:List kF}{rc:Rec}(t:Nat){a':AV}(a:(env t).W a')(h:af P m fid n ro hold todo ⟨env.upd t a',σ,D,rc⟩ K):af P m fid n ro hold todo ⟨env,σ,D,rc⟩ K:=
 af.Po (λu=>by
  by_cases e:u=t
  . simp_all
  . simp only[Env.upd,e,if_false];exact .refl _) h
theorem Tok.up{σ0 σ σ':aa}{a:AV}{kk:Nat}{es:List AV}(h:Tok σ0 σ a kk es)(c:σ.Le σ'):Tok σ0 σ' a kk es:=by
 refine⟨aa.le_trans h.1 c,?_⟩;rcases h.2 with h|h|⟨b,e,d,f,g⟩
 . exact .inl h
 . simp_all
 . exact .inr (.inr ⟨b,e,d,f,c _ _ g⟩)
theorem af.aV{env:Env}{σ:aa}{D:List kF}{rc:Rec}(t:Nat){b:Nat}{l:List AV}(v:AV)(hb:σ b=some (.cells l))(c:env t=.ref b 0)(d:v.cells=l)(h:af P m fid n ro hold todo ⟨env.upd t (.cp v 0),σ.del b,D,rc⟩ K):af P m fid n ro hold todo ⟨env,σ,D,rc⟩ K:=
 af.freeze b l hb (λu=>Fz.upd (t:=t) (a':=.cp v 0) (by rw[c];exact .cp 0 0 v (by grind) (λj a h=>by simp_all)) u) (FP.del _ _ _) h
theorem qj(L:hQ P){t f:Nat}{name:String}{i:TI}{info:TypeInfo}{mt:Method}{a:AV}(e:L.tt t=some i)(g:P.info? t=some info)(h:info.methods.find? (·.name==name)=some mt)(j:mt.path.toList=[])(l:mt.func=some (f,false))(m:i.kind=.struct):mW P t name f a a:=by
 intro k O v K Kp n o;have p:Made.depth≠0:=by decide
 obtain⟨N,q⟩:∃N,P.types.size+Made.depth=N+1:=Nat.exists_eq_succ_of_ne_zero (by omega);rw[q];unfold method;refine ag (cV L e λc b _ _ _=>?_);rw[g]at b;cases b;simp only[h,j];unfold follow;refine ag (ah ?_);simp only[l];refine ag ?_;unfold receiverAt;refine ag (aE L e λs _ d=>?_);obtain⟨r,rfl,_⟩:=qy d m;simp only[Place.get];exact ah (ah (o _ n))
theorem aa.Le.none{σ σ':aa}(h:σ.Le σ'){b:Nat}(hb:σ' b=Option.none):σ b=Option.none:=by
 cases e:σ b with
 |none=>rfl
 |some x=>rw[h b x e]at hb;cases hb
end
def fy.plain:fy->Bool
 |.part _=>false
 |.fC=>false
 |.stay _=>false
 |.map _=>false
 |_=>true
structure JJ(P:Program)(m:Mo)(nm:xy)(b o mb:Nat)(kd:IntKind)(GI:List (Int × AV)->Prop)(Un:aa->Prop)(Ld:aa->List (Int × AV)->Prop):Prop where
 lock:∀{a:AV}{σ:aa}{KF:cJ->aa->Prop},iM b o a->Un σ->(∀σ' l,Ld σ' l->GI l->(∀c,c≠b->c≠mb->σ' c=σ c)->(∀y,σ mb=some y->y.plain=false)->KF (.val (.bp [])) σ')->aB P m nm.lock [a] σ KF
 unlock:∀{a:AV}{σ:aa}{l:List (Int × AV)}{KF:cJ->aa->Prop},iM b o a->Ld σ l->GI l->(∀σ',Un σ'->(∀c,c≠b->c≠mb->σ' c=σ c)->KF (.val (.bp [])) σ')->aB P m nm.unlock [a] σ KF
 map:∀{σ:aa}{l:List (Int × AV)},Ld σ l->σ mb=some (mapA kd l)
 put:∀{σ:aa}{l l':List (Int × AV)},Ld σ l->Ld (σ.set mb (mapA kd l')) l'
 un:∀{σ σ':aa},(∀c,c=b\/c=mb->(∃x,σ c=some x/\x.plain=false)->σ' c=σ c)->Un σ->Un σ'
 ld:∀{σ σ':aa}{l:List (Int × AV)},(∀c,c=b\/c=mb->(∃x,σ c=some x/\x.plain=false)->σ' c=σ c)->Ld σ l->Ld σ' l
 QC:∀{σ:aa},Un σ->∃x,σ b=some x/\x.plain=false
 Vl:∀{σ:aa}{l:List (Int × AV)},Ld σ l->∃x,σ b=some x/\x.plain=false
def QD(b o mb:Nat)(kd:IntKind)(GI:List (Int × AV)->Prop)(σ:aa):Prop:=σ b=some (.part (bo o))/\∃l,σ mb=some (mapA kd l)/\GI l
def WW(b o mb:Nat)(kd:IntKind)(σ:aa)(l:List (Int × AV)):Prop:=σ b=some (.part (vX o))/\σ mb=some (mapA kd l)
def Vm(b:Nat)(σ:aa):Prop:=σ b=some .fC
def WX(b mb:Nat)(kd:IntKind)(σ:aa)(l:List (Int × AV)):Prop:=σ b=some (.part I')/\σ mb=some (mapA kd l)
section
variable{P:Program}{nm:xy}(C:eY P nm)(X:eZ P nm)(F:lq P nm)
include C X F in
theorem BV{m:Mo}(hs:m.solo=true){b o mb:Nat}(d:b≠mb){kd:IntKind}{GI:List (Int × AV)->Prop}:JJ P m nm b o mb kd GI (QD b o mb kd GI) (WW b o mb kd) where
 lock {a σ n} g hu h:=by obtain⟨f,l,e,i⟩:=hu;exact Gz C X F hs g f (h _ l ⟨aa.ao _ _ _,by rw[aa.ak _ _ (Ne.symm d)];exact e⟩ i (λc hc _=>aa.ak _ _ hc) (λy hy=>by rw[e]at hy;cases hy;rfl))
 unlock {a σ l n} g k hg h:=BO C X F hs g k.1 (h _ ⟨aa.ao _ _ _,l,by rw[aa.ak _ _ (Ne.symm d)];exact k.2,hg⟩ (λc hc _=>aa.ak _ _ hc))
 map h:=h.2
 put {σ l p} h:=⟨by rw[aa.ak _ _ d];exact h.1,aa.ao _ _ _⟩
 un {σ j} he h:=by obtain⟨f,l,e,i⟩:=h;exact⟨by rw[he b (.inl rfl) ⟨_,f,rfl⟩];exact f,l,by rw[he mb (.inr rfl) ⟨_,e,rfl⟩];exact e,i⟩
 ld {σ j l} he h:=⟨by rw[he b (.inl rfl) ⟨_,h.1,rfl⟩];exact h.1,by rw[he mb (.inr rfl) ⟨_,h.2,rfl⟩];exact h.2⟩
 QC h:=⟨_,h.1,rfl⟩
 Vl h:=⟨_,h.1,rfl⟩
theorem JK{A:bt}(hd:A.dir=false){j:Nat}{kd:IntKind}{GI:List (Int × AV)->Prop}(i:∀x,A.GI x↔∃l,x=mapA kd l/\GI l):JJ P (gg P A j) A.nm A.fb A.fo A.mb kd GI (Vm A.fb) (WX A.fb A.mb kd) where
 lock {a σ k} e hu h:=GA hd e hu λx hx hm=>by obtain⟨l,rfl,d⟩:=(i x).1 hx;exact h _ l ⟨aa.ao _ _ _,by rw[aa.ak _ _ (Ne.symm A.d5),aa.ao]⟩ d (λc f g=>by rw[aa.ak _ _ f,aa.ak _ _ g]) (λy hy=>by have:=hm y hy;cases y<;>first|rfl|cases this)
 unlock {a σ l k} e d hg h:=BP hd e d.1 d.2 ((i _).2 ⟨l,rfl,hg⟩) rfl (h _ (aa.ao _ _ _) (λc f g=>by rw[aa.ak _ _ f];simp[aa.del,g]))
 map h:=h.2
 put {σ l m} h:=⟨by rw[aa.ak _ _ A.d5];exact h.1,aa.ao _ _ _⟩
 un {σ b} he h:=by have h:σ A.fb=some .fC:=h;show b A.fb=some .fC;rw[he _ (.inl rfl) ⟨_,h,rfl⟩];exact h
 ld {σ b l} he h:=⟨by rw[he _ (.inl rfl) ⟨_,h.1,rfl⟩];exact h.1,by rw[he _ (.inr rfl) ⟨_,h.2,rfl⟩];exact h.2⟩
 QC h:=⟨_,h,rfl⟩
 Vl h:=⟨_,h.1,rfl⟩
end
def yz(a:Nat):Option TypeDesc->Bool
 |some (.struct fs)=>(match fs.toList with|[f]=>f.name !=  "_" && f.type==a && f.offset==0|_=>false)
 |_=>false
theorem IA.of{P:Program}{mt b e c:Nat}{kd:IntKind}(g:P.underlying mt=some (.map b e))(a:yz c (P.underlying b)=true)(h:P.underlying c=some (.int kd))(i:P.stoodInHeld b=false):IA P mt b e c kd:=by
 refine⟨g,?_,h,i⟩;generalize P.underlying b=d at a;unfold yz at a;split at a
 . next fs=>
   split at a
   . next f j=>
     simp only[Bool.and_eq_true,bne_iff_ne,beq_iff_eq]at a;refine⟨f,?_,a.1.1,a.1.2,a.2⟩;congr 2
     grind
   . cases a
 . cases a
def nL(b mb:Nat)(σ σ':aa):Prop:=∀c x,σ c=some x->c≠b->(c≠mb\/x.plain=true)->σ' c=some x
theorem nL.refl(b mb:Nat)(σ:aa):nL b mb σ σ:=λ_ _ h _ _=>h
section
variable{P:Program}(L:hQ P){m:Mo}{fid n:Nat}{ro:Option Nat}{hold:List Entry}{s:St}{k:List Item}{K:Exit->St->Prop}{A:bt}{Fin:ai->aj->Goroutine->Prop}
theorem af.runN(mu:List Nat)(N:Nat){todo:List Item}(h:bd L m fid n ro mu hold N todo s K):af P m fid n ro hold todo s K:=λa=>Go.bd L mu hold N a h
theorem af.sF{c:Code}(h:af P m fid n ro hold (.code c::.inLoop c::k) s K):af P m fid n ro hold (.code (.loop c)::k) s K:=λa=>.NS (h (by simpa[iW,jX]using a))
theorem af.again{c:Code}(b:jX hold c=true)(h:af P m fid n ro hold (.code c::.inLoop c::k) s K):af P m fid n ro hold (.inLoop c::k) s K:=λa=>.inLoop (h (by
 simp only[iW,List.all_cons,Bool.and_eq_true]at a ⊢
 simp_all))
theorem af.bL{todo:List Item}(d:m.solo=true)(B:fI)(e:B.dir=false)(C:fG P B.ng)(X:gF P B.ng)(l:eY P B.nm)(o:eZ P B.nm)(F:lq P B.nm){tm:Bool}{a:fy}
 (p:s.σ B.cF=some (.raw (.chan 0 #[] false 0 0 tm))) (q:s.σ B.gb=some (.cells [.lit (.int .u64 0),.lit (.int .u32 0)])) (r:s.σ B.fb=some (.part (bo B.fo))) (t:s.σ B.mb=some a) (g:a.gone=false) (i:B.GI a) (j:s.rc=.no)
 (h:∀(b:Nat) (hb:0<b) (Fin:ai->aj->Goroutine->Prop) (kd:CallKind) (c:List Frame) (f:ai),pN P m fid n ro K kd c f Fin ->
   af P (nK P (B.at b hb) Fin B.n) fid n ro hold todo {s with σ:=((((s.σ.del B.cF).del B.gb).del B.mb).set B.fb .fC),rc:=.told kd c f} (λ_ _=>False)):af P m fid n ro hold todo s K:=λk=>
 Go.bL d B e C X l o F p q r t g i j λb hb Fin kd c f u=>h b hb Fin kd c f u k
theorem af.JG{m:Nat}{ops:Array Oper}{i:Nat}{rest:List Nat}{o:Oper}{args:Array Operand}{a:Array TypeId}{fn:Func}(f:ops[i]?=some o)(b:o.op=.call ⟨.value (.func A.ng.add),args,a⟩)(g:o.guard=none)(c:Oper.ok n o=true)
 (j:P.funcs[A.ng.add]?=some fn) (hb:fn.body.isSome=true) (d:(fn.name==  "runtime.NumGoroutine")=false) (l:args.toList.map (au s.env)=[.ref A.gb 0,.lit (.int .i64 1)])
 (h:af P (Dk P A Fin m) fid n ro hold (.inRegion ops rest::k) {s with env:=aX s.env o.dst (.bp [])} (λ_ _=>False)):af P (nK P A Fin (m+1)) fid n ro hold (.inRegion ops (i::rest)::k) s K:=λe=>
 Go.JG f b (bs g) c j hb d l (h (by simpa[iW,jX]using e))
theorem af.qJ{m:Nat}{ops:Array Oper}{i:Nat}{rest:List Nat}{o:Oper}{fo:Operand}{args:Array Operand}{b:Array TypeId}{f:FuncId}{fn:Func}{body:Code}{first cap:List AV}{hold':List Entry}(q:ops[i]?=some o)(c:o.op=.go ⟨.value fo,args,b⟩)(r:o.guard=none)(d:Oper.ok n o=true)
 (e:au s.env fo=.fn (.func f) first cap) (t:P.funcs[f]?=some fn) (hb:fn.body=some body) (g:(fn.name==  "runtime.NumGoroutine")=false) (u:((first++args.toList.map (au s.env))++cap).length<=fn.ntmps) (j:s.σ A.fb=some .fC) (a:iW hold' [.code body]=true)
 (v:∀l,af P (gg P A (A.n-(m+1))) f fn.ntmps none hold' [.code body] ⟨cW ((first++args.toList.map (au s.env))++cap),ij A.fb,[],.told .deferred [cd P] l⟩ (λ_ _=>False))
 (h:af P (nK P A Fin m) fid n ro hold (.inRegion ops rest::k) {s with env:=aX s.env o.dst .bJ} (λ_ _=>False)):af P (Dk P A Fin m) fid n ro hold (.inRegion ops (i::rest)::k) s K:=λp=>
 Go.FV q c (bs r) d e t hb g u j (λ_=>.none) (λl=>v l a) (h (by simpa[iW,jX]using p))
theorem af.Uh(a:A.dir=false){ops:Array Oper}{i:Nat}{rest:List Nat}{o:Oper}{fo:Operand}{args:Array Operand}{c:Array TypeId}{f:FuncId}{fn:Func}{body:Code}{first cap:List AV}{hold':List Entry}(q:ops[i]?=some o)(d:o.op=.go ⟨.value fo,args,c⟩)(r:o.guard=none)(e:Oper.ok n o=true)
 (g:au s.env fo=.fn (.func f) first cap) (t:P.funcs[f]?=some fn) (hb:fn.body=some body) (j:(fn.name==  "runtime.NumGoroutine")=false) (u:((first++args.toList.map (au s.env))++cap).length<=fn.ntmps) (l:s.σ A.fb=some .fC) (b:iW hold' [.code body]=true)
 (v:∀m,af P (vG P A) f fn.ntmps none hold' [.code body] ⟨cW ((first++args.toList.map (au s.env))++cap),ij A.fb,[],.told .deferred [cd P] m⟩ (λ_ _=>False))
 (h:af P (pM P A Fin A.n (List.range A.n)) fid n ro hold (.inRegion ops rest::k) {s with env:=aX s.env o.dst .bJ} (λ_ _=>False)):af P (nK P A Fin 0) fid n ro hold (.inRegion ops (i::rest)::k) s K:=λp=>
 Go.Uh a q d (bs r) e g t hb j u l (λm=>v m b) (h (by simpa[iW,jX]using p))
theorem af.JH(a:A.dir=false){j:Nat}{ops:Array Oper}{i:Nat}{rest:List Nat}{o:Oper}{ch x:Operand}{fn fd:Func}{r:ai}(t:ops[i]?=some o)(c:o.op=.send ch x)(d:Oper.ok n o=true)(u:o.guard=none)(e:au s.env ch=.chan A.cF)(v:au s.env x=A.res j)
 (f:s.σ A.fb=some .fC) (g:s.rc=.told .deferred [cd P] r) (l:ro=none) (w:P.funcs[fid]?=some fn) (y:n=fn.ntmps) (m:P.funcs[A.ng.done]?=some fd) (p:fd.body.isSome=true) (b:(fd.name==  "runtime.NumGoroutine")=false)
 (h:af P (jY P A) fid n ro hold (.inRegion ops rest::k) {s with env:=aX s.env o.dst (.lit undef)} (Pn P A fn)):af P (gg P A j) fid n ro hold (.inRegion ops (i::rest)::k) s K:=λq=>
 Go.JH a t c d (bs u) e v f g l w y m p b (h (by simpa[iW,jX]using q))
theorem af.JI{ops:Array Oper}{i:Nat}{rest:List Nat}{o:Oper}{args:Array Operand}{a:Array TypeId}{fn:Func}(f:ops[i]?=some o)(b:o.op=.call ⟨.value (.func A.ng.wait),args,a⟩)(g:o.guard=none)(c:Oper.ok n o=true)
 (j:P.funcs[A.ng.wait]?=some fn) (hb:fn.body.isSome=true) (d:(fn.name==  "runtime.NumGoroutine")=false) (l:args.toList.map (au s.env)=[.ref A.gb 0])
 (h:af P (qg P A) fid n ro hold (.inRegion ops rest::k) {s with env:=aX s.env o.dst (.bp [])} (λ_ _=>False)):af P (vG P A) fid n ro hold (.inRegion ops (i::rest)::k) s K:=λe=>
 Go.JI f b (bs g) c j hb d l (h (by simpa[iW,jX]using e))
theorem af.DD{ops:Array Oper}{i:Nat}{rest:List Nat}{o:Oper}{ch:Operand}{a:Array TypeId}{fn:Func}{g:ai}(h:ops[i]?=some o)(b:o.op=.call ⟨.builtin .close,#[ch],a⟩)(c:Oper.ok n o=true)(j:o.guard=none)(d:au s.env ch=.chan A.cF)
 (e:s.rc=.told .deferred [cd P] g) (l:s.D=[]) (f:ro=none) (m:P.funcs[fid]?=some fn) (p:fn.results=#[]) (q:(Item.inRegion ops rest::k).all yy=true):af P (qg P A) fid n ro hold (.inRegion ops (i::rest)::k) s K:=λ_=>
 Go.DD h b c j d e l f m p q
theorem af.Fv{m:Nat}{R:List Nat}{ops:Array Oper}{i:Nat}{rest:List Nat}{o:Oper}{ct ce:Nat}{l p:TI}{ch:Operand}(q:ops[i]?=some o)(a:o.op=.recv ct ch true)(b:L.tt ct=some l)(c:l.kind=.chan ce)(d:L.tt ce=some p)
 (e:Oper.ok n o=true) (r:o.guard=none) (f:au s.env ch=.chan A.cF)
 (h:∀j∈R,af P (pM P A Fin m (R.erase j)) fid n ro hold (.inRegion ops rest::k) {s with env:=aX s.env o.dst (.bp [A.res j,.lit (.bool true)])} (λ_ _=>False)):af P (pM P A Fin (m+1) R) fid n ro hold (.inRegion ops (i::rest)::k) s K:=λg=>
 Go.Fv L q a b c d e (bs r) f λj t=>h j t (by simpa[iW,jX]using g)
theorem af.zW{t:Exit->St->Prop}{kd:CallKind}{b:List Frame}{u:ai}{R:List Nat}{ops:Array Oper}{i:Nat}{rest:List Nat}{o:Oper}{ct ce:Nat}{v w:TI}{ch:Operand}(x:ops[i]?=some o)(d:o.op=.recv ct ch true)(e:L.tt ct=some v)(f:v.kind=.chan ce)(g:L.tt ce=some w)
 (j:Oper.ok n o=true) (y:o.guard=none) (l:au s.env ch=.chan A.cF) (p:s.σ A.fb=some .fC) (q:s.rc=.told kd b u) (c:pN P m fid n ro t kd b u Fin)
 (h:∀a,A.GI a->af P m fid n ro hold (.inRegion ops rest::k) {s with env:=aX s.env o.dst (.bp [.bJ,.lit (.bool false)]),σ:=(s.σ.set A.mb a).set A.fb (.part (bo A.fo)),rc:=.no} t):af P (pM P A Fin 0 R) fid n ro hold (.inRegion ops (i::rest)::k) s K:=λr=>
 Go.zW L x d e f g j (bs y) l p q c λa z=>h a z (by simpa[iW,jX]using r)
end
end Go.bu

import Derived.Test.YtkcceaplmgdnfaaGreatDoorC23
set_option linter.all false
namespace Go.bQ
section
open Go.Conc
open Go.ConcN (sumTo upd sumTo_upd upd_ne upd_same)
section
variable{P:acD}(L:iZ P){o:Oper}{env:Env}{σ:aa}{K:abU}{Kp:abU}
theorem Ab{i:TI}{d:TypeDesc}{e:Nat}(h:dF P i d=true)(a:i.kind=.chan e):∃dir,d=.chan dir e:=by cases d<;>simp_all [dF]
theorem Dk{t e:Nat}{x:acE}{i h:TI}{kd:IntKind}{n:Int}(l:o.op=.makeChan t x)(m:L.tt t=some i)(p:i.kind=.chan e)(q:L.tt e=some h)(u:an env x=.lit (.int kd n))(z:0<=n/\n<=1000000/\h.bytes<=1000000)
 (v:∀b,σ b=none->K (.chan b) (σ.set b (.raw (.chan n.toNat #[] false 0 0 false)))):aI P o env σ K Kp:=
 aI.val (s:=λf=>Instr.makeChan t (f x)) (λf=>by simp[execOp,l]) λk O f w j=>by
  have c:=w x (by simp_all)
  rw[u]at c;rw[dk c];unfold Instr.makeChan;refine af (ag ?_);refine af (aF L m λd _ hd=>?_)
  obtain⟨dir,rfl⟩:=Ab hd p;simp only;refine af (cU L q λinfo _ _ hb _=>?_)
  have y:((info.bytes:Int)*n)<=1000000*1000000:=by rw[hb];exact Int.mul_le_mul (by omega) (by omega) (by omega) (by omega)
  have g:¬(n<0\/n>IntKind.i64.max\/(info.bytes:Int)*n>2 ^ 48-112):=by have:IntKind.i64.max=9223372036854775807:=rfl;omega
  rw[if_neg g];refine af (s:=newObj _) ⟨rfl,λr a=>ag ?_⟩
  exact .here ⟨.made a.2.2,_,_,.chan r,(j.mono (.made a.2.2)).set (.raw _ rfl),v r (j.isNone a.1 a.2.2)⟩
end
def xO(P:acD)(d:Deferred):aco:=G {(default:Frame)with fn:=P.funcs.size,defers:=[d],mode:=.panicking [goexitEntry]} []
def Ac:Item->Bool
 |.inRegion _ []=>true
 |.inBlock _=>true
 |.inScope _=>true
 |.code .skip=>true
 |.code .ret=>true
 |_=>false
theorem xP{P:acD}{f:FuncId}{fn:Func}{tmps:abY}(b:P.funcs[f]?=some fn)(d:fn.results=#[]):∀(todo:acm),todo.all Ac=true->∃n,QuitsD P n 0 (G ⟨f,tmps,todo,[],.run,.deferred,none⟩ [cI P])
 |[],_=>⟨_,.ctl rfl (λw=>by simp[G,stepG,stepG.exec,kD]) (ub b d (todo:=[]) (tmps:=tmps))⟩
 | i ::k,h=>by
   simp only[ZY,zj]at h;obtain⟨n,e⟩:=xP (tmps:=tmps) b d k h.2;by_cases a:i=.code .ret
   . subst a
     exact⟨_,.ctl rfl (λw=>by simp[G,stepG,stepG.exec,kD]) (ub b d (todo:=.code .ret::k) (tmps:=tmps))⟩
   . refine⟨_,.ctl rfl (λw=>?_) e⟩
     cases i with
     |code c=>cases c<;>first|(exact absurd rfl a)|(simp[Ac]at h;done)|simp[G,stepG,stepG.exec]
     |inRegion ops l=>cases l<;>first|(simp[Ac]at h;done)|simp[G,stepG,stepG.exec]
     |_=>first|(simp[Ac]at h;done)|simp[G,stepG,stepG.exec]
section
variable{P:acD}{fid n:Nat}{ro:acf}{s:St}{k:acm}{K:abK}{A:bJ}{Fin:abz}
theorem wx.none{m:Mo}{Q:abz}{kind:acv}{cs:acb}{a:ah}:wx P m Q fid n ro kind cs (λ_ _=>False) a:=⟨λ_ _ _ _ _ _ _ _ _ _ h=>h.elim,λ_ _ _ _ _ _ _ _ _ _ _ h=>h.elim⟩
theorem xQ{fn:FuncId}:seen P fn #[]=#[]:=rfl
theorem Fe{fr:Frame}{cs:acb}{x:Sem Go.Next}{w:World}{cases:Array CommCase}{b:Bool}{sh:CommShape}(h:x.runT P w #[]=(.ok (.comm cases b sh) w,#[])):stepG.apply P true fr cs none x w=.comm (G fr cs) cases b sh w #[]:=by simp only[stepG.apply,if_true,h,ite_self,xQ,GStep.after];rfl
theorem Dl{fr:Frame}{cs:acb}{x:Sem Go.Next}{w:World}{f:Fn}{cap:abY}{args:abY}(h:x.runT P w #[]=(.ok (.spawn {target:=.fn f cap,args}) w,#[])):stepG.apply P true fr cs none x w=.spawn (G (fr.finish undef) cs) (xO P {target:=.fn f cap,args}) w #[]:=by simp only[stepG.apply,if_true,h,ite_self,xQ,GStep.after];simp[xO,G]
theorem xR{b:Bool}{ops:acd}{i:Nat}{rest:acr}{o:Oper}{ch x:acE}{tmps:abY}{defs:abR}{kind:acv}{cs:acb}{m:Mo}{env:Env}{d:ah}{c:Nat}(r:ops[i]?=some o)(f:o.op=.send ch x)(p:tmps.size=n)(q:fG d tmps env)(s:bW ops n env o)
 (g:Oper.ok n o=true) (h:an env ch=.chan c) (w:World):
 ∃ v,V d v (an env x)/\stepG P m.main (G ⟨fid,tmps,.inRegion ops (i::rest)::k,defs,.run,kind,ro⟩ cs) w=.comm (G ⟨fid,tmps,.inRegion ops (i::rest)::k,defs,.run,kind,ro⟩ cs) #[scase c v (.tuple #[])] true .send w #[]/\
   v=Frame.eval ⟨fid,tmps,.inRegion ops (i::rest)::k,defs,.run,kind,ro⟩ x:=by
 have a:∀y∈o.op.operands,V d (Frame.eval ⟨fid,tmps,.inRegion ops (i::rest)::k,defs,.run,kind,ro⟩ y) (an env y):=λy A=>by
  refine V.eval q p y ?_;simp only[Oper.ok,zj,ZH]at g
  grind
 have j:=a ch (by simp_all);have t:=a x (by simp_all);rw[h]at j;generalize u:Frame.eval ⟨fid,tmps,.inRegion ops (i::rest)::k,defs,.run,kind,ro⟩ ch=B at j;cases j;refine⟨_,t,?_,rfl⟩;rw[dQ r (gY p q s) (.inr λc e=>by simp_all) w];have l:execOp (Frame.eval ⟨fid,tmps,.inRegion ops (i::rest)::k,defs,.run,kind,ro⟩) o=pure (.comm #[scase c (Frame.eval ⟨fid,tmps,.inRegion ops (i::rest)::k,defs,.run,kind,ro⟩ x) (.tuple #[])] true .send):=by simp[execOp,f,u,scase]
 rw[l];by_cases z:(kind==CallKind.early)=true<;>simp[stepG.apply,seen,z,GStep.after,G]
theorem vI{α:Type}{f:TypeDesc->Sem α}{t:TypeId}{d:TypeDesc}{w:World}{es:aca}(h:P.underlying t=some d):(underlying t >>=f).runT P w es=(f d).runT P w es:=by
 unfold underlying
 simp_all
theorem xS{α:Type}{f:Value->Sem α}{t:TypeId}{info:TypeInfo}{z:Value}{w:World}{es:aca}(h:P.info? t=some info)(a:info.zero=some z):(zeroValue t >>=f).runT P w es=(f z).runT P w es:=by
 unfold zeroValue typeInfo
 simp_all
theorem xT(L:iZ P){ok:Bool}{ops:acd}{i:Nat}{rest:acr}{o:Oper}{ct ce:Nat}{v a:TI}{ch:acE}{tmps:abY}{defs:abR}{kind:acv}{cs:acb}{m:Mo}{env:Env}{x:ah}{c:Nat}(A:ops[i]?=some o)(b:o.op=.recv ct ch ok)(f:L.tt ct=some v)(g:v.kind=.chan ce)(h:L.tt ce=some a)
 (y:tmps.size=n) (z:fG x tmps env) (B:bW ops n env o) (j:Oper.ok n o=true) (l:an env ch=.chan c) (w:World):
 stepG P m.main (G ⟨fid,tmps,.inRegion ops (i::rest)::k,defs,.run,kind,ro⟩ cs) w=.comm (G ⟨fid,tmps,.inRegion ops (i::rest)::k,defs,.run,kind,ro⟩ cs) #[rcase c a.zero] true (.recv ok) w #[]:=by
 have p:V x (Frame.eval ⟨fid,tmps,.inRegion ops (i::rest)::k,defs,.run,kind,ro⟩ ch) (an env ch):=by
  refine V.eval z y ch ?_;simp only[Oper.ok,zj,ZH]at j
  simp_all
 rw[l]at p;generalize C:Frame.eval ⟨fid,tmps,.inRegion ops (i::rest)::k,defs,.run,kind,ro⟩ ch=D at p;cases p;rw[dQ A (gY y z B) (.inr λc e=>by simp_all) w]
 obtain⟨⟨d,q,r⟩,_⟩:=L.facts f;obtain⟨dir,rfl⟩:=Ab r g;obtain⟨_,info,s,_,_,t,_⟩:=L.facts h
 have u:(execOp (Frame.eval ⟨fid,tmps,.inRegion ops (i::rest)::k,defs,.run,kind,ro⟩) o).runT P w #[]=(.ok (.comm #[rcase c a.zero] true (.recv ok)) w,#[]):=by simp only[execOp,b,C];rw[vI q];simp only;rw[xS s t];rfl
 exact Fe u
theorem Dm{ops:acd}{i:Nat}{rest:acr}{o:Oper}{fo:acE}{args:abQ}{j:abW}{f:Fn}{first cap:acw}{tmps:abY}{defs:abR}{kind:acv}{cs:acb}{m:Mo}{env:Env}{d:ah}(B:ops[i]?=some o)(l:o.op=.go ⟨.value fo,args,j⟩)
 (s:tmps.size=n) (t:fG d tmps env) (C:bW ops n env o) (p:Oper.ok n o=true) (q:an env fo=.fn f first cap):
 ∃ u y,Vs d u cap/\Vs d y (first++args.toList.map (an env))/\∀w,stepG P m.main (G ⟨fid,tmps,.inRegion ops (i::rest)::k,defs,.run,kind,ro⟩ cs) w=
   .spawn (G (Frame.finish ⟨fid,tmps,.inRegion ops (i::rest)::k,defs,.run,kind,ro⟩ undef) cs) (xO P {target:=.fn f u.toArray,args:=y.toArray}) w #[]:=by
 have b:∀x∈o.op.operands,V d (Frame.eval ⟨fid,tmps,.inRegion ops (i::rest)::k,defs,.run,kind,ro⟩ x) (an env x):=λx D=>by
  refine V.eval t s x ?_;simp only[Oper.ok,zj,ZH]at p
  grind
 have r:=b fo (by simp_all);rw[q]at r;generalize E:Frame.eval _ fo=cf at r;cases r with
 | fn _ h z K L M F N H=>
   have I:=Vs.ofArray (k:=d) (ρ:=Frame.eval ⟨fid,tmps,.inRegion ops (i::rest)::k,defs,.run,kind,ro⟩) (env:=env) (xs:=args) (λx D=>b x (by simp_all));refine⟨z.toList,h.toList++(args.map (Frame.eval ⟨fid,tmps,.inRegion ops (i::rest)::k,defs,.run,kind,ro⟩)).toList,⟨by omega,λi v a A g=>H i v a (by grind) g⟩,Vs.append ⟨by omega,λi v a A g=>F i v a (by grind) g⟩ ⟨by grind,λi v a A g=>I.2 i v a (by grind) g⟩,λw=>?_⟩;rw[dQ B (gY s t C) (.inr λc e=>by simp_all) w];refine(Dl (f:=f) (cap:=z) (args:=h++args.map (Frame.eval ⟨fid,tmps,.inRegion ops (i::rest)::k,defs,.run,kind,ro⟩)) ?_).trans ?_
   . simp only[execOp,l,resolve,E,Deferred.ofValue]
     rfl
   . have J:∀x:abY,(h.toList++x.toList).toArray=h++x:=λx=>by grind
     rw[J,Array.toArray_toList]
theorem Ff{m:Mo}{Q:abz}{kk:ah}{O:aj}{tmps:abY}{defs:abR}{kind:acv}{cs:acb}{f:FuncId}{fn:Func}{ops:acd}{i:Nat}{rest:acr}{o:Oper}{args:abQ}{j:abW}(z:ops[i]?=some o)(p:o.op=.call ⟨.value (.func f),args,j⟩)(A:bW ops n s.env o)(q:Oper.ok n o=true)
 (B:P.funcs[f]?=some fn) (hb:fn.body.isSome=true) (t:(fn.name==  "runtime.NumGoroutine")=false) (g:Cf n kk O tmps defs kind cs s)
 (h:∀cargs,Vs kk cargs (args.toList.map (an s.env))->T P m Q kk O (G (Frame.enter P f cargs.toArray .normal) (⟨fid,tmps,.inRegion ops (i::rest)::k,defs,.run,kind,ro⟩::fP s.rc cs))):T P m Q kk O (G ⟨fid,tmps,.inRegion ops (i::rest)::k,defs,.run,kind,ro⟩ (fP s.rc cs)):=by
 refine T.nW (λw=>dQ z (gY g.size g.env A) (.inr λc e=>by simp_all) w) (dN ?_)
 have b:∀x∈o.op.operands,V kk (Frame.eval ⟨fid,tmps,.inRegion ops (i::rest)::k,defs,.run,kind,ro⟩ x) (an s.env x):=λx y=>by
  refine V.eval g.env g.size x ?_;simp only[Oper.ok,zj,ZH]at q
  grind
 have C:=Vs.ofArray (k:=kk) (ρ:=Frame.eval ⟨fid,tmps,.inRegion ops (i::rest)::k,defs,.run,kind,ro⟩) (env:=s.env) (xs:=args) (λx y=>b x (by simp_all))
 have u:fn.body.isNone=false:=by cases y:fn.body<;>simp_all
 simp only[execOp,p,resolve];refine af ?_;show dI P (Deferred.ofValue (.func (.func f) #[] #[]) _) kk O _ _;simp only[Deferred.ofValue];refine ag ?_;simp only[invoke,callFunc];refine af (bo ?_);rw[B];simp only[t,u,zR,if_false];refine ag λ_=>⟨λd w r s l=>by simp,?_⟩
 have:=h (args.map (Frame.eval ⟨fid,tmps,.inRegion ops (i::rest)::k,defs,.run,kind,ro⟩)).toList ⟨by grind,λi v a E D=>C.2 i v a (by grind) D⟩
 have key:∀x:abY,x=(args.map (Frame.eval ⟨fid,tmps,.inRegion ops (i::rest)::k,defs,.run,kind,ro⟩)).toList.toArray->T P m Q kk O (G (Frame.enter P f x .normal) (⟨fid,tmps,.inRegion ops (i::rest)::k,defs,.run,kind,ro⟩::fP s.rc cs)):=λx e=>by grind
 grind
def rk(P:acD)(m:Mo)(fid n:Nat)(ro:acf)(K:abK)(kd:acv)(a:acb)(d:ah)(Fin:abz):Prop:=∀todo s b c tmps defs,Go P m fid n ro todo s K->s.rc=.no->Cf n b c tmps defs kd a s->d.Le b->Fin b c (G ⟨fid,tmps,todo,defs,.run,kd,ro⟩ a)
theorem Go.Lt{m:Nat}{ops:acd}{i:Nat}{rest:acr}{o:Oper}{args:abQ}{f:abW}{fn:Func}(r:ops[i]?=some o)(g:o.op=.call ⟨.value (.func A.ng.add),args,f⟩)(u:bW ops n s.env o)(j:Oper.ok n o=true)
 (w:P.funcs[A.ng.add]?=some fn) (hb:fn.body.isSome=true) (l:(fn.name==  "runtime.NumGoroutine")=false) (z:args.toList.map (an s.env)=[.ref A.gb 0,.lit (.int .i64 1)])
 (h:Go P (E0 P A Fin m) fid n ro (.inRegion ops rest::k) {s with env:=bc s.env o.dst (.cB [])} (λ_ _=>False)):Go P (oZ P A Fin (m+1)) fid n ro (.inRegion ops (i::rest)::k) s K:=by
 intro Q kk O tmps defs kind cs p q F;refine Ff r g u j w hb l q λb t=>?_
 rw[z]at t;obtain⟨B,c⟩:=t
 have e:b.toArray=#[.pointer (some ⟨A.gb,0,none⟩),.int .i64 1]:=by
  match b,B,c with
  |[x,y],_,c=>have C:=c 0 x _ rfl rfl;have p:=c 1 y _ rfl rfl;cases C;cases p;rfl
 rw[e];refine .de gN rfl ⟨rfl,_,_,rfl,?_⟩ (λ_ _ _ h=>h.elim);obtain⟨d,D,E⟩:=q.put (fid:=fid) (ro:=ro) (rest:=rest) (kk:=k) (σ':=s.σ) (v:=.tuple #[]) (a:=.cB []) (.refl kk) r (.cB _ _ rfl λi v a h=>by simp at h) q.rel;show T P (E0 P A Fin m) gN kk O (G (Frame.finish ⟨fid,tmps,.inRegion ops (i::rest)::k,defs,.run,kind,ro⟩ (.tuple #[])) (fP s.rc cs));rw[D];exact h gN kk O d defs kind cs p E .none
def jK(b:Nat):aa:=λc=>if c=b then some .gX else none
theorem G2{m:Mo}{f:FuncId}{fn:Func}{body:Code}{cap args:acw}{σ0:aa}{KE:ah->abK}(k:P.funcs[f]?=some fn)(hb:fn.body=some body)(n:(fn.name==  "runtime.NumGoroutine")=false)(q:(args++cap).length<=fn.ntmps){kk:ah}(d:Rel kk aj.bot σ0)
 (o:wx P m gN f fn.ntmps none .deferred [cI P] (KE kk) kk)
 (h:∀l,Go P m f fn.ntmps none [.code body] ⟨dt (args++cap),σ0,[],.told .deferred [cI P] l⟩ (KE l)){a b:acg}(g:Vs kk a cap) (i:Vs kk b args):
 T P m gN kk aj.bot (xO P {target:=.fn (.func f) a.toArray,args:=b.toArray}):=by
 have p:fn.body.isNone=false:=by simp[hb]
 have hinv:∀w,(invoke (.fn (.func f) a.toArray) b.toArray).runT P w #[]=(.ok (.enter f (b++a).toArray) w,#[]):=λw=>by
  show Sem.runT P (callFunc f (b.toArray++a.toArray)) w #[]=_;unfold callFunc;rw[gi,k]
  simp_all
 refine T.di (g':=G (Frame.enter P f (b++a).toArray .deferred) [cI P]) rfl (λw=>?_) ?_
 . simp only[xO,G,stepG,unwind,callDeferred,hinv]
   simp;rfl
 . have c:=i.append g
   have e:Frame.enter P f (b++a).toArray .deferred=⟨f,(b++a).toArray++Array.replicate (fn.ntmps-(b++a).length) undef,[.code body],[],.run,.deferred,none⟩:=by simp[Frame.enter,k,hb]
   have j:((b++a).toArray++Array.replicate (fn.ntmps-(b++a).length) undef).size=fn.ntmps:=by
    have:=c.1
    simp_all
   rw[e];exact h kk gN kk aj.bot _ [] .deferred [cI P] (by simp) ⟨j,tN c _,d,trivial,rfl,rfl,.refl kk⟩ o
def Q'(P:acD)(A:bJ)(fn:Func):abK:=λe s=>fn.results=#[]/\(e=.leave none\/e=.leave (some .ret))/\(∃a,s.rc=.told .deferred [cI P] a)/\∃r,s.D=[.mark r,.call (.func A.ng.done) [] [.ref A.gb 0]]/\s.σ r=some (.raw (.deferred (some [])))
theorem Im{f:FuncId}{fn fd:Func}(hf:P.funcs[f]?=some fn)(d:P.funcs[A.ng.done]?=some fd)(z:fd.body.isSome=true)(a:(fd.name==  "runtime.NumGoroutine")=false){kk:ah}:wx P (kP P A) gN f fn.ntmps none .deferred [cI P] (Q' P A fn) kk where
 leave k' O' tmps defs s todo n hle hs B e:=by
  obtain⟨b,J,⟨L,c⟩,r,o,p⟩:=e;obtain⟨env,σ,D,rc⟩:=s;simp only at c o p;subst c o;show T P (kP P A) gN k' O' (G ⟨f,tmps,todo,defs,.run,.deferred,none⟩ [cI P]);have g:=hs.ds
  match defs,g with
  | [d1,d2],⟨q,t,_⟩=>
    simp only[tK]at q t;obtain⟨C,E,rfl,i,j⟩:=t;subst q;have e1:C=#[]:=by have:=i.1;simp_all
    have e2:E=#[.pointer (some ⟨A.gb,0,none⟩)]:=by
     obtain⟨v,M,k⟩:=Vs.one j;cases k
     grind
    subst e1 e2;refine T.di (g':=G ⟨f,tmps,todo,[{target:=.collected r,args:=#[]},{target:=.fn (.func A.ng.done) #[],args:=#[.pointer (some ⟨A.gb,0,none⟩)]}],.returning,.deferred,none⟩ [cI P]) rfl (λw=>?_) ?_
    . rcases B with⟨rfl,rfl⟩|⟨kk,rfl,rfl⟩|⟨_,_,_,_,rfl⟩
      . simp[G,stepG,stepG.exec]
      . simp[G,stepG,stepG.exec]
      grind
    . refine T.Ct (fid:=f) (s:=Instr.takeDeferred r) rfl (K:=λcalls u F=>calls=[]/\u=k') (nxt:=λcalls w=>.go (G ⟨f,tmps,todo,calls++[{target:=.fn (.func A.ng.done) #[],args:=#[.pointer (some ⟨A.gb,0,none⟩)]}],.returning,.deferred,none⟩ [cI P]) w) ?_ ?_ ?_
      . rintro calls u F H _ _ ⟨rfl,rfl⟩
        refine⟨_,rfl,?_⟩
        have hinv:∀w,(invoke (.fn (.func A.ng.done) #[]) #[.pointer (some ⟨A.gb,0,none⟩)]).runT P w #[]=(.ok (.enter A.ng.done #[.pointer (some ⟨A.gb,0,none⟩)]) w,#[]):=λw=>by
         show Sem.runT P (callFunc A.ng.done _) w #[]=_;unfold callFunc;have l:fd.body.isNone=false:=by simp_all
         rw[gi,d];simp only[a,l,zR,if_false];simp
        refine T.di (g':=G (Frame.enter P A.ng.done #[.pointer (some ⟨A.gb,0,none⟩)] .deferred) [kD P f tmps todo,cI P]) rfl (λw=>?_) ?_
        . simp only[G,stepG,unwind,callDeferred,hinv,aaZ]
          simp;rfl
        . exact .de gN rfl ⟨rfl,f,fn,tmps,todo,hf,b,rfl⟩ (λ_ _ _ h=>h.elim)
      . intro w v H y
        simp only[G,stepG,unwind]
        simp_all
      . obtain⟨x,hx,m⟩:=hs.rel.1 r _ p (by simp)
        cases m with
        |raw _ hc=>unfold Instr.takeDeferred;refine af (s:=getObj r) ⟨_,hx,rfl,?_⟩;exact af (s:=setObj r _) ⟨⟨_,hx,rfl⟩,rfl,ag ⟨rfl,rfl⟩⟩
 panic k' O' tmps defs s todo N O hle hs I e:=by obtain⟨_,h|h,_⟩:=e<;>cases h
theorem Dp{kk:ah}{O:aj}{σ:aa}{b:Nat}(d:Rel kk O σ)(h:σ b=some .gX):Rel kk aj.bot (jK b):=by
 refine⟨λc a e f=>?_,λc a e _=>?_⟩
 . unfold jK at e
   split at e
   . cases e;cases f
   . cases e
 . unfold jK at e
   split at e
   . next q=>subst q;cases e;exact⟨rfl,(d.2 _ _ h rfl).2.1,λl q=>by cases q⟩
   . cases e
theorem Go.HE{m:Nat}{KE:abK}{ops:acd}{i:Nat}{rest:acr}{o:Oper}{fo:acE}{args:abQ}{c:abW}{f:FuncId}{fn:Func}{body:Code}{first cap:acw}(u:ops[i]?=some o)(d:o.op=.go ⟨.value fo,args,c⟩)(v:bW ops n s.env o)(e:Oper.ok n o=true)
 (g:an s.env fo=.fn (.func f) first cap) (x:P.funcs[f]?=some fn) (hb:fn.body=some body) (j:(fn.name==  "runtime.NumGoroutine")=false) (y:((first++args.toList.map (an s.env))++cap).length<=fn.ntmps) (l:s.σ A.fb=some .gX) (p:∀kk,wx P (iu P A (A.n-(m+1))) gN f fn.ntmps none .deferred [cI P] KE kk)
 (z:∀B,Go P (iu P A (A.n-(m+1))) f fn.ntmps none [.code body] ⟨dt ((first++args.toList.map (an s.env))++cap),jK A.fb,[],.told .deferred [cI P] B⟩ KE)
 (h:Go P (oZ P A Fin m) fid n ro (.inRegion ops rest::k) {s with env:=bc s.env o.dst .cE} (λ_ _=>False)):Go P (E0 P A Fin m) fid n ro (.inRegion ops (i::rest)::k) s K:=by
 intro Q kk O tmps defs kind cs C b F;obtain⟨G,H,q,r,t⟩:=Dm (P:=P) (fid:=fid) (k:=k) (rest:=rest) (defs:=defs) (kind:=kind) (ro:=ro) (cs:=fP s.rc cs) (m:=E0 P A Fin m) u d b.size b.env v e g;obtain⟨a,D,E⟩:=b.put (fid:=fid) (ro:=ro) (rest:=rest) (kk:=k) (σ':=s.σ) (.refl kk) u (.cE undef) b.rel;refine .de gN rfl ⟨rfl,_,_,λw _=>t w,G2 (KE:=λ_=>KE) x hb j y (Dp b.rel l) (p _) z q r,?_⟩ (λ_ _ _ h=>h.elim);rw[D];exact h gN kk O a defs kind cs C E .none
theorem Go.V7(u:A.dir=false){ops:acd}{i:Nat}{rest:acr}{o:Oper}{fo:acE}{args:abQ}{d:abW}{f:FuncId}{fn:Func}{body:Code}{first cap:acw}(v:ops[i]?=some o)(e:o.op=.go ⟨.value fo,args,d⟩)(x:bW ops n s.env o)(g:Oper.ok n o=true)
 (j:an s.env fo=.fn (.func f) first cap) (y:P.funcs[f]?=some fn) (hb:fn.body=some body) (l:(fn.name==  "runtime.NumGoroutine")=false) (z:((first++args.toList.map (an s.env))++cap).length<=fn.ntmps) (p:s.σ A.fb=some .gX)
 (B:∀C,Go P (xp P A) f fn.ntmps none [.code body] ⟨dt ((first++args.toList.map (an s.env))++cap),jK A.fb,[],.told .deferred [cI P] C⟩ (λ_ _=>False))
 (h:Go P (rf P A Fin A.n (List.range A.n)) fid n ro (.inRegion ops rest::k) {s with env:=bc s.env o.dst .cE} (λ_ _=>False)):Go P (oZ P A Fin 0) fid n ro (.inRegion ops (i::rest)::k) s K:=by
 intro Q kk O tmps defs kind cs D b G;obtain⟨H,I,q,r,t⟩:=Dm (P:=P) (fid:=fid) (k:=k) (rest:=rest) (defs:=defs) (kind:=kind) (ro:=ro) (cs:=fP s.rc cs) (m:=oZ P A Fin 0) v e b.size b.env x g j;obtain⟨a,E,F⟩:=b.put (fid:=fid) (ro:=ro) (rest:=rest) (kk:=k) (σ':=s.σ) (.refl kk) v (.cE undef) b.rel;have c:oZ P A Fin 0=_:=if_neg (by simp_all);rw[c];refine .de gN rfl ⟨rfl,_,_,λw _=>by have:=t w;rw[c]at this;exact this,G2 (KE:=λ_ _ _=>False) y hb l z (Dp b.rel p) .none B q r,?_⟩ (λ_ _ _ h=>h.elim);rw[E];exact h gN kk O a defs kind cs D F .none
theorem Go.Lu(f:A.dir=false){j:Nat}{ops:acd}{i:Nat}{rest:acr}{o:Oper}{ch x:acE}{fn fd:Func}{D:ah}(r:ops[i]?=some o)(g:o.op=.send ch x)(l:Oper.ok n o=true)(C:bW ops n s.env o)(p:an s.env ch=.chan A.cF)(L:an s.env x=A.res j)
 (t:s.σ A.fb=some .gX) (u:s.rc=.told .deferred [cI P] D) (y:ro=none) (E:P.funcs[fid]?=some fn) (F:n=fn.ntmps) (z:P.funcs[A.ng.done]?=some fd) (B:fd.body.isSome=true) (q:(fd.name==  "runtime.NumGoroutine")=false)
 (h:Go P (kP P A) fid n ro (.inRegion ops rest::k) {s with env:=bc s.env o.dst (.lit undef)} (Q' P A fn)):Go P (iu P A j) fid n ro (.inRegion ops (i::rest)::k) s K:=by
 intro Q kk O tmps defs kind cs H a M;have c:=a.rc;rw[u]at c;obtain⟨rfl,rfl,I⟩:=c;subst y F;obtain⟨d,N,J⟩:=a.put (fid:=fid) (ro:=none) (rest:=rest) (kk:=k) (σ':=s.σ) (.refl kk) r (.lit undef) a.rel;have R:=h gN kk O d defs .deferred [cI P] H J (Im E z B q);refine .de gN rfl (.inr (.inr ⟨f,rfl,(a.rel.2 _ _ t rfl).1,G ⟨fid,tmps,.inRegion ops (i::rest)::k,defs,.run,.deferred,none⟩ (fP s.rc [cI P]),.tuple #[],Frame.eval ⟨fid,tmps,.inRegion ops (i::rest)::k,defs,.run,.deferred,none⟩ x,λw _=>?_,?_,?_⟩)) (λ_ _ _ h=>h.elim)
 . obtain⟨v,_,e,rfl⟩:=xR (P:=P) (m:=iu P A j) (b:=false) r g a.size a.env C l p w (fid:=fid) (ro:=none) (k:=k) (rest:=rest) (defs:=defs) (kind:=.deferred) (cs:=fP s.rc [cI P])
   exact e
 . obtain⟨v,S,_,rfl⟩:=xR (P:=P) (m:=iu P A j) (b:=false) r g a.size a.env C l p default (fid:=fid) (ro:=none) (k:=k) (rest:=rest) (defs:=defs) (kind:=.deferred) (cs:=fP s.rc [cI P])
   simp_all
 . show T P (kP P A) gN kk O (G (Frame.finish ⟨fid,tmps,.inRegion ops (i::rest)::k,defs,.run,.deferred,none⟩ undef) (fP s.rc [cI P]))
   simp_all
theorem Go.Lv{ops:acd}{i:Nat}{rest:acr}{o:Oper}{args:abQ}{d:abW}{fn:Func}(p:ops[i]?=some o)(e:o.op=.call ⟨.value (.func A.ng.wait),args,d⟩)(t:bW ops n s.env o)(f:Oper.ok n o=true)
 (u:P.funcs[A.ng.wait]?=some fn) (hb:fn.body.isSome=true) (g:(fn.name==  "runtime.NumGoroutine")=false) (w:args.toList.map (an s.env)=[.ref A.gb 0])
 (h:Go P (rN P A) fid n ro (.inRegion ops rest::k) {s with env:=bc s.env o.dst (.cB [])} (λ_ _=>False)):Go P (xp P A) fid n ro (.inRegion ops (i::rest)::k) s K:=by
 intro Q kk O tmps defs kind cs x j B;refine Ff p e t f u hb g j λl q=>?_
 rw[w]at q;obtain⟨v,rfl,m⟩:=Vs.one q;cases m;refine .de gN rfl ⟨rfl,_,_,rfl,λr c=>?_⟩ (λ_ _ _ h=>h.elim);obtain⟨b,y,z⟩:=j.put (fid:=fid) (ro:=ro) (rest:=rest) (kk:=k) (σ':=s.σ) (v:=.tuple #[]) (a:=.cB []) c p (.cB _ _ rfl λi v a h=>by simp at h) (j.rel.mono c);show T P (rN P A) gN r O (G (Frame.finish ⟨fid,tmps,.inRegion ops (i::rest)::k,defs,.run,kind,ro⟩ (.tuple #[])) (fP s.rc cs));rw[y];exact h gN r O b defs kind cs x z .none
theorem Fg{c s r:Nat}{tm:Bool}{w:World}{a:abW}{ty:TypeId}{cs:Array Bool}(h:w.heap[c]?=some (.chan 0 #[] false s r tm)):
 (invoke (.builtin .close a ty cs) #[.chan (some c)]).runT P w #[]=(.ok (.value (.tuple #[])) {w with heap:=w.heap.setIfInBounds c (.chan 0 #[] true s r tm)},#[⟨.obj c,false,true⟩,⟨.obj c,true,true⟩]):=by
 change Sem.runT P (Sem.getObj c _) w #[]=_;rw[Sem.runT,h];change Sem.runT P (Sem.setObj c _ _) w _=_;rw[Sem.runT,h];rfl
theorem Dq{fr:Frame}{cs:acb}{x:Sem Go.Next}{w w':World}{v:Value}{es:aca}(a:(fr.kind==.early)=false)(h:x.runT P w #[]=(.ok (.value v) w',es))(b:seen P fr.fn es=es):stepG.apply P true fr cs none x w=.go (G (fr.finish v) cs) w' es:=by simp only[stepG.apply,if_true,h,a,GStep.after];simp[b,G]
theorem Go.Fh{ops:acd}{i:Nat}{rest:acr}{o:Oper}{ch:acE}{g:abW}{fn:Func}{y:ah}(j:ops[i]?=some o)(e:o.op=.call ⟨.builtin .close,#[ch],g⟩)(l:Oper.ok n o=true)(B:o.guard=none)(a:an s.env ch=.chan A.cF)
 (f:s.rc=.told .deferred [cI P] y) (z:s.D=[]) (p:ro=none) (C:P.funcs[fid]?=some fn) (E:fn.results=#[]) (F:(Item.inRegion ops rest::k).all Ac=true):Go P (rN P A) fid n ro (.inRegion ops (i::rest)::k) s K:=by
 intro Q kk O tmps defs kind cs J d L;obtain⟨env,σ,D,rc⟩:=s;simp only at f z;subst f;subst z;subst p;obtain⟨rfl,rfl,H⟩:=d.rc;have b:defs=[]:=by cases defs with|nil=>rfl|cons _ _=>exact d.ds.elim
 subst b;obtain⟨c,M,R⟩:=d.put (fid:=fid) (ro:=none) (rest:=rest) (kk:=k) (σ':=σ) (v:=.tuple #[]) (.refl kk) j (.cE _) d.rel;obtain⟨N,S⟩:=xP (tmps:=c) C E _ F
 have q:V kk (Frame.eval ⟨fid,tmps,.inRegion ops (i::rest)::k,[],.run,.deferred,none⟩ ch) (an env ch):=by
  refine V.eval d.env d.size ch ?_;simp only[Oper.ok,zj,ZH]at l
  simp_all
 simp only at a;rw[a]at q;generalize t:Frame.eval ⟨fid,tmps,.inRegion ops (i::rest)::k,[],.run,.deferred,none⟩ ch=T at q;cases q;refine .de gN rfl ⟨rfl,G (Frame.finish ⟨fid,tmps,.inRegion ops (i::rest)::k,[],.run,.deferred,none⟩ (.tuple #[])) [cI P],N,?_,λw s r I U a=>?_,?_⟩ (λ_ _ _ h=>h.elim)
 . simp[mayWake,G,fP,j,e]
 . have u:Region.wanted o (yielded ops tmps)=true:=by simp[Region.wanted,B]
   have x:(execOp (Frame.eval ⟨fid,tmps,.inRegion ops (i::rest)::k,[],.run,.deferred,none⟩) o).runT P w #[]=(.ok (.value (.tuple #[])) {w with heap:=w.heap.setIfInBounds A.cF (.chan 0 #[] true s r I)},#[⟨.obj A.cF,false,true⟩,⟨.obj A.cF,true,true⟩]):=by
    simp only[execOp,e,resolve];have:(#[ch].map (Frame.eval ⟨fid,tmps,.inRegion ops (i::rest)::k,[],.run,.deferred,none⟩))=#[.chan (some A.cF)]:=by simp[t]
    rw[this];exact Fg (cs:=#[]) a
   rw[show fP (Rec.told CallKind.deferred [cI P] y) [cI P]=[cI P]from rfl];refine(dQ (m:=rN P A) j u (.inl rfl) w).trans ?_;exact Dq (by simp) x (by simp[seen])
 simp_all
theorem Go.G3(L:iZ P){m:Nat}{R:acr}{ops:acd}{i:Nat}{rest:acr}{o:Oper}{ct ce:Nat}{z D:TI}{ch:acE}(B:ops[i]?=some o)(g:o.op=.recv ct ch true)(l:L.tt ct=some z)(p:z.kind=.chan ce)(q:L.tt ce=some D)
 (r:Oper.ok n o=true) (E:bW ops n s.env o) (t:an s.env ch=.chan A.cF)
 (h:∀j∈R,Go P (rf P A Fin m (R.erase j)) fid n ro (.inRegion ops rest::k) {s with env:=bc s.env o.dst (.cB [A.res j,.lit (.bool true)])} (λ_ _=>False)):Go P (rf P A Fin (m+1) R) fid n ro (.inRegion ops (i::rest)::k) s K:=by
 intro Q kk O tmps defs kind cs F f M;have c:=xT (P:=P) (fid:=fid) (k:=k) (rest:=rest) (defs:=defs) (kind:=kind) (ro:=ro) (cs:=fP s.rc cs) (m:=rf P A Fin (m+1) R) L B g l p q f.size f.env E r t;refine .de gN rfl ⟨rfl,_,_,λw _=>c w,λw _=>c w,rfl,λj H x v d N=>?_⟩ (λ_ _ _ h=>h.elim)
 have e:V x (.tuple #[v,.bool true]) (.cB [A.res j,.lit (.bool true)]):=.cB _ _ rfl λi u a C y=>by
  match i with
  |0=>simp_all
  |1=>simp at C y;subst C;subst y;exact .lit _
  |i+2=>simp at y
 obtain⟨b,I,J⟩:=f.put (fid:=fid) (ro:=ro) (rest:=rest) (kk:=k) (σ':=s.σ) d B e (f.rel.mono d);show T P (rf P A Fin m (R.erase j)) gN x O (G (Frame.finish ⟨fid,tmps,.inRegion ops (i::rest)::k,defs,.run,kind,ro⟩ _) (fP s.rc cs));rw[I];exact h j H gN x O b defs kind cs F J .none
theorem Go.BF(L:iZ P){m:Mo}{M:abK}{kd:acv}{f:acb}{N:ah}{R:acr}{ops:acd}{i:Nat}{rest:acr}{o:Oper}{ct ce:Nat}{S T:TI}{ch:acE}(U:ops[i]?=some o)(v:o.op=.recv ct ch true)(y:L.tt ct=some S)(z:S.kind=.chan ce)(B:L.tt ce=some T)
 (C:Oper.ok n o=true) (W:bW ops n s.env o) (D:an s.env ch=.chan A.cF) (E:s.σ A.fb=some .gX) (g:s.rc=.told kd f N) (j:rk P m fid n ro M kd f N Fin)
 (h:∀a,A.GI a->Go P m fid n ro (.inRegion ops rest::k) {s with env:=bc s.env o.dst (.cB [.cE,.lit (.bool false)]),σ:=(s.σ.set A.mb a).set A.fb (.part (bH A.fo)),rc:=.no} M):Go P (rf P A Fin 0 R) fid n ro (.inRegion ops (i::rest)::k) s K:=by
 intro Q kk O tmps defs kind cs Y e Z;have l:=xT (P:=P) (fid:=fid) (k:=k) (rest:=rest) (defs:=defs) (kind:=kind) (ro:=ro) (cs:=fP s.rc cs) (m:=rf P A Fin 0 R) L U v y z B e.size e.env W C D;have b:=e.rc;rw[g]at b;obtain⟨rfl,rfl,F⟩:=b;refine .de gN rfl ⟨rfl,_,_,λw _=>l w,λw _=>l w,rfl,(e.rel.2 _ _ E rfl).2.1,λH x a c I J=>?_⟩ (λ_ _ _ h=>h.elim)
 have p:V H (.tuple #[T.zero,.bool false]) (.cB [.cE,.lit (.bool false)]):=.cB _ _ rfl λi u a r q=>by
  match i with
  |0=>simp at r q;subst r;subst q;exact .cE _
  |1=>simp at r q;subst r;subst q;exact .lit _
  |i+2=>simp at q
 obtain⟨d,X,t⟩:=e.put (fid:=fid) (ro:=ro) (rest:=rest) (kk:=k) (σ':=(s.σ.set A.mb a).set A.fb (.part (bH A.fo))) (O':=(O.set A.mb x).set A.fb (.part (bH A.fo))) c U p (((e.rel.mono c).set I).set (.part _));show Fin H _ (G (Frame.finish ⟨fid,tmps,.inRegion ops (i::rest)::k,defs,.run,kind,ro⟩ _) (fP s.rc cs));rw[X,g];exact j _ _ H _ d defs (h a J) rfl ⟨t.size,t.env,t.rel,t.ds,trivial⟩ (F.trans c)
theorem T.T7{m:Mo}{Q:abz}{kk:ah}{O:aj}:∀(n:Nat){g a:aco},jb P (λ_=>True) n g a->T P m Q kk O a->T P m Q kk O g
 |0,g,a,h,b=>by obtain rfl:g=a:=h;exact b
 |n+1,g,a,⟨c,d,h⟩,b=>.step (λe f i=>e=kk/\f=O/\i=c) d.1 (λe f i j=>by obtain⟨rfl,rfl,rfl⟩:=j;exact T.T7 n h b) λw k=>⟨c,w,#[],kk,O,d.2 _ w trivial,Eff.refl _ _ _,k,rfl,rfl,rfl⟩
theorem Go.Qf{m:Mo}{todo:acm}(f:m.solo=true)(B:gO)(C:gM P B.ng)(X:iD P B.ng)(CM:gn P B.nm)(XM:gq P B.nm)(F:mc P B.nm){a:ga}{H:Nat->abV}{σ':aa}
 (N:B.dir=false->∃tm,s.σ B.cF=some (.raw (.chan 0 #[] false 0 0 tm))) (hG:s.σ B.gb=some (.cells [.lit (.int .u64 0),.lit (.int .u32 0)])) (hL:s.σ B.fb=some (.part H)) (R:H B.fo=some (.int .i32 0)) (S:H (B.fo+1)=some (.int .u32 0)) (U:B.dir=true->∀j,j<B.n->H (B.fo+2+j)≠none)
 (hM:s.σ B.mb=some a) (V:a.gone=false) (W:B.GI a) (Y:s.rc=.no) (r:∀d y,σ' d=some y->(d=B.fb/\y=.gX)\/(d≠B.fb/\d≠B.mb/\d≠B.gb/\(B.dir=false->d≠B.cF)/\s.σ d=some y))
 (h:∀(b:Nat) (hb:0<b) (Fin:abz) (kd:acv) (t:acb) (k0:ah),rk P m fid n ro K kd t k0 Fin ->
   Go P (oZ P (B.at b hb) Fin B.n) fid n ro todo {s with σ:=σ',rc:=.told kd t k0} (λ_ _=>False)):Go P m fid n ro todo s K:=by
 intro Q I O tmps defs kind cs h1 c h3;rw[Y];refine T.sat rfl λ⟨w,A⟩=>?_
 obtain⟨xG,oG,rG⟩:=c.rel.1 _ _ hG (by simp)
 obtain⟨xM,oM,rM⟩:=c.rel.1 _ _ hM V;have oL:=c.rel.z9 hL;cases rG with
 | cells J eg _ q1 q2 q3=>
   have hg:∀(i:Nat) (v:Value),([.lit (.int .u64 0),.lit (.int .u32 0)]:acw)[i]?=some (AV.lit v)->J[i]?=some v:=λi v hv=>by
    have Z:i<J.size:=by grind
    have D:=q2 i J[i] _ (by simp[Z]) hv
    generalize hq:J[i]=u at D;cases D
    grind
   obtain⟨ec,cc,_,E,_⟩:=A.part _ _ oL
   refine .phase (λp q L=>T P m Q p q L) f (λ_ _ _ h=>h) (Fa B C X CM XM F (λhd=>by
    obtain⟨tm,N⟩:=N hd;obtain⟨xF,oF,rF⟩:=c.rel.1 _ _ N (by simp)
    cases rF
    simp_all) oG (hg 0 _ rfl) (hg 1 _ rfl) oL R S U (λn p q L gB h hT=>T.T7 n h hT) oM rM W λb hb=>?_)
   have G:rk P m fid n ro K kind cs I (λp q L=>T P m Q p q L):=λa7 s' p q g k o hn hs a8=>by have:=o Q p q g k kind cs h1 hs (h3.mono a8);rw[hn]at this;exact this
   have o:=h b hb _ kind cs I G;refine o gN I _ tmps defs kind cs h1 ⟨c.size,c.env,⟨λd y e M=>?_,λd y e M=>?_⟩,c.ds,rfl,rfl,.refl I⟩ .none
   . rcases r d y e with⟨rfl,rfl⟩|⟨d1,d2,d3,d4,e⟩
     . cases M
     . obtain⟨x,z1,z2⟩:=c.rel.1 d y e M
       exact⟨x,by simp only[gO.rest];grind,z2⟩
   . rcases r d y e with⟨rfl,rfl⟩|⟨d1,d2,d3,d4,e⟩
     . exact⟨by simp[gO.rest],⟨_,E⟩,λl z=>by cases z⟩
     . obtain⟨z1,z2⟩:=c.rel.2 d y e M
       exact⟨by simp[gO.rest,z1],z2⟩
theorem Go.bY{m:Mo}{todo:acm}(c:m.solo=true)(B:gO)(p:B.dir=false)(C:gM P B.ng)(X:iD P B.ng)(u:gn P B.nm)(v:gq P B.nm)(F:mc P B.nm){tm:Bool}{a:ga}
 (w:s.σ B.cF=some (.raw (.chan 0 #[] false 0 0 tm))) (x:s.σ B.gb=some (.cells [.lit (.int .u64 0),.lit (.int .u32 0)])) (z:s.σ B.fb=some (.part (bH B.fo))) (A:s.σ B.mb=some a) (j:a.gone=false) (k:B.GI a) (l:s.rc=.no)
 (h:∀(b:Nat) (hb:0<b) (Fin:abz) (kd:acv) (f:acb) (r:ah),rk P m fid n ro K kd f r Fin ->
   Go P (oZ P (B.at b hb) Fin B.n) fid n ro todo {s with σ:=((((s.σ.del B.cF).del B.gb).del B.mb).set B.fb .gX),rc:=.told kd f r} (λ_ _=>False)):Go P m fid n ro todo s K:=
 Go.Qf c B C X u v F (λ_=>⟨tm,w⟩) x z (by simp[bH]) (by simp[bH]) (λq=>by simp_all) A j k l (λd y e=>by
  by_cases g:d=B.fb
  . simp_all
  by_cases i:d=B.mb
  . subst i;simp[aa.set,aa.del,g]at e
  by_cases o:d=B.gb
  . subst o;simp[aa.set,aa.del,g,i]at e
  by_cases t:d=B.cF
  . subst t;simp[aa.set,aa.del,g,i,o]at e
  simp only[aa.set,aa.del,g,i,o,t,if_false]at e
  simp_all) h
end
end
open Go.Conc
section
variable{P:acD}{m:Mo}{fid n:Nat}{ro:acf}{hold:ace}{K:abK}{todo:acm}
theorem Go.Ra{env a:Env}{σ:aa}{D:acz}{rc:Rec}(c:∀t,(env t).W (a t))(h:Go P m fid n ro todo ⟨a,σ,D,rc⟩ K):Go P m fid n ro todo ⟨env,σ,D,rc⟩ K:=λQ k O tmps defs kind cs d b e=>h Q k O tmps defs kind cs d ⟨b.size,λt f=>c t _ _ (b.env t f),b.rel,b.ds,b.rc⟩ e
theorem ab.Ra{env a:Env}{σ:aa}{D:acz}{rc:Rec}(c:∀t,(env t).W (a t))(h:ab P m fid n ro hold todo ⟨a,σ,D,rc⟩ K):ab P m fid n ro hold todo ⟨env,σ,D,rc⟩ K:=λb=>Go.Ra c (h b)
theorem ab.Ew{env:Env}{σ:aa}{D:acz}{rc:Rec}(t:Nat){a':AV}(a:(env t).W a')(h:ab P m fid n ro hold todo ⟨env.upd t a',σ,D,rc⟩ K):ab P m fid n ro hold todo ⟨env,σ,D,rc⟩ K:=
 ab.Ra (λu=>by
  by_cases e:u=t
  . simp_all
  . simp only[Env.upd,e,if_false];exact .refl _) h
theorem Tok.up{σ0 σ σ':aa}{a:AV}{kk:Nat}{es:acw}(h:Tok σ0 σ a kk es)(c:σ.Le σ'):Tok σ0 σ' a kk es:=by
 refine⟨aa.le_trans h.1 c,?_⟩;rcases h.2 with h|h|⟨b,e,d,f,g⟩
 . exact .inl h
 . simp_all
 . exact .inr (.inr ⟨b,e,d,f,c _ _ g⟩)
theorem ab.bC{env:Env}{σ:aa}{D:acz}{rc:Rec}(t:Nat){b:Nat}{l:acw}(v:AV)(hb:σ b=some (.cells l))(c:env t=.ref b 0)(d:v.cells=l)(h:ab P m fid n ro hold todo ⟨env.upd t (.cp v 0),σ.del b,D,rc⟩ K):ab P m fid n ro hold todo ⟨env,σ,D,rc⟩ K:=
 ab.freeze b l hb (λu=>Fz.upd (t:=t) (a':=.cp v 0) (by rw[c];exact .cp 0 0 v (by grind) (λj a h=>by simp_all)) u) (J3.del _ _ _) h
theorem rQ(L:iZ P){t f:Nat}{name:String}{i:TI}{info:TypeInfo}{mt:Method}{a:AV}(e:L.tt t=some i)(hi:P.info? t=some info)(g:info.methods.find? (·.name==name)=some mt)(h:mt.path.toList=[])(j:mt.func=some (f,false))(l:i.kind=.struct):oc P t name f a a:=by
 intro k O v K Kp m n;have o:Made.depth≠0:=by decide
 obtain⟨N,p⟩:∃N,P.types.size+Made.depth=N+1:=Nat.exists_eq_succ_of_ne_zero (by omega);rw[p];unfold method;refine af (cU L e λc b _ _ _=>?_);rw[hi]at b;cases b;simp only[g,h];unfold follow;refine af (ag ?_);simp only[j];refine af ?_;unfold receiverAt;refine af (aF L e λr _ d=>?_);obtain⟨q,rfl,_⟩:=r7 d l;simp only[Place.get];exact ag (ag (n _ m))
theorem aa.Le.none{σ σ':aa}(h:σ.Le σ'){b:Nat}(hb:σ' b=Option.none):σ b=Option.none:=by
 cases e:σ b with
 |none=>rfl
 |some x=>rw[h b x e]at hb;cases hb
end
def ga.plain:ga->Bool
 |.part _=>false
 |.gX=>false
 |.stay _=>false
 |.map _=>false
 |_=>true
structure Lw(P:acD)(m:Mo)(nm:yV)(b o mb:Nat)(kd:IntKind)(GI:abI->Prop)(Un:acu)(Ld:aa->abI->Prop):Prop where
 lock:∀{a:AV}{σ:aa}{KF:abT},jv b o a->Un σ->(∀σ' l,Ld σ' l->GI l->(∀c,c≠b->c≠mb->σ' c=σ c)->(∀y,σ mb=some y->y.plain=false)->KF (.val (.cB [])) σ')->aA P m nm.lock [a] σ KF
 unlock:∀{a:AV}{σ:aa}{l:abI}{KF:abT},jv b o a->Ld σ l->GI l->(∀σ',Un σ'->(∀c,c≠b->c≠mb->σ' c=σ c)->KF (.val (.cB [])) σ')->aA P m nm.unlock [a] σ KF
 map:∀{σ:aa}{l:abI},Ld σ l->σ mb=some (mapA kd l)
 put:∀{σ:aa}{l l':abI},Ld σ l->Ld (σ.set mb (mapA kd l')) l'
 un:∀{σ σ':aa},(∀c,c=b\/c=mb->(∃x,σ c=some x/\x.plain=false)->σ' c=σ c)->Un σ->Un σ'
 ld:∀{σ σ':aa}{l:abI},(∀c,c=b\/c=mb->(∃x,σ c=some x/\x.plain=false)->σ' c=σ c)->Ld σ l->Ld σ' l
 Sv:∀{σ:aa},Un σ->∃x,σ b=some x/\x.plain=false
 Xo:∀{σ:aa}{l:abI},Ld σ l->∃x,σ b=some x/\x.plain=false
def Sw(b o mb:Nat)(kd:IntKind)(GI:abI->Prop)(σ:aa):Prop:=σ b=some (.part (bH o))/\∃l,σ mb=some (mapA kd l)/\GI l
def YP(b o mb:Nat)(kd:IntKind)(σ:aa)(l:abI):Prop:=σ b=some (.part (xK o))/\σ mb=some (mapA kd l)
def Xp(b:Nat)(σ:aa):Prop:=σ b=some .gX
def YQ(b mb:Nat)(kd:IntKind)(σ:aa)(l:abI):Prop:=σ b=some (.part KT)/\σ mb=some (mapA kd l)
section
variable{P:acD}{nm:yV}(C:gn P nm)(X:gq P nm)(F:mc P nm)
include C X F in
theorem Dr{m:Mo}(hs:m.solo=true){b o mb:Nat}(d:b≠mb){kd:IntKind}{GI:abI->Prop}:Lw P m nm b o mb kd GI (Sw b o mb kd GI) (YP b o mb kd) where
 lock {a σ n} g hu h:=by obtain⟨f,l,e,i⟩:=hu;exact Ik C X F hs g f (h _ l ⟨aa.ak _ _ _,by rw[aa.ai _ _ (za d)];exact e⟩ i (λc hc _=>aa.ai _ _ hc) (λy hy=>by rw[e]at hy;cases hy;rfl))
 unlock {a σ l n} g k hg h:=Di C X F hs g k.1 (h _ ⟨aa.ak _ _ _,l,by rw[aa.ai _ _ (za d)];exact k.2,hg⟩ (λc hc _=>aa.ai _ _ hc))
 map h:=h.2
 put {σ l p} h:=⟨by rw[aa.ai _ _ d];exact h.1,aa.ak _ _ _⟩
 un {σ j} he h:=by obtain⟨f,l,e,i⟩:=h;exact⟨by rw[he b (.inl rfl) ⟨_,f,rfl⟩];exact f,l,by rw[he mb (.inr rfl) ⟨_,e,rfl⟩];exact e,i⟩
 ld {σ j l} he h:=⟨by rw[he b (.inl rfl) ⟨_,h.1,rfl⟩];exact h.1,by rw[he mb (.inr rfl) ⟨_,h.2,rfl⟩];exact h.2⟩
 Sv h:=⟨_,h.1,rfl⟩
 Xo h:=⟨_,h.1,rfl⟩
theorem Lx{A:bJ}(hd:A.dir=false){j:Nat}{kd:IntKind}{GI:abI->Prop}(i:∀x,A.GI x↔∃l,x=mapA kd l/\GI l):Lw P (iu P A j) A.nm A.fb A.fo A.mb kd GI (Xp A.fb) (YQ A.fb A.mb kd) where
 lock {a σ k} e hu h:=Il hd e hu λx hx hm=>by obtain⟨l,rfl,d⟩:=(i x).1 hx;exact h _ l ⟨aa.ak _ _ _,by rw[aa.ai _ _ (za A.d5),aa.ak]⟩ d (λc f g=>by rw[aa.ai _ _ f,aa.ai _ _ g]) (λy hy=>by have:=hm y hy;cases y<;>first|rfl|cases this)
 unlock {a σ l k} e d hg h:=Dj hd e d.1 d.2 ((i _).2 ⟨l,rfl,hg⟩) rfl (h _ (aa.ak _ _ _) (λc f g=>by rw[aa.ai _ _ f];simp[aa.del,g]))
 map h:=h.2
 put {σ l m} h:=⟨by rw[aa.ai _ _ A.d5];exact h.1,aa.ak _ _ _⟩
 un {σ b} he h:=by have h:σ A.fb=some .gX:=h;show b A.fb=some .gX;rw[he _ (.inl rfl) ⟨_,h,rfl⟩];exact h
 ld {σ b l} he h:=⟨by rw[he _ (.inl rfl) ⟨_,h.1,rfl⟩];exact h.1,by rw[he _ (.inr rfl) ⟨_,h.2,rfl⟩];exact h.2⟩
 Sv h:=⟨_,h,rfl⟩
 Xo h:=⟨_,h.1,rfl⟩
end
def Ad(a:Nat):Option TypeDesc->Bool
 |some (.struct fs)=>(match fs.toList with|[f]=>f.name !=  "_" && f.type==a && f.offset==0|_=>false)
 |_=>false
theorem Ke.of{P:acD}{mt b e c:Nat}{kd:IntKind}(g:P.underlying mt=some (.map b e))(a:Ad c (P.underlying b)=true)(h:P.underlying c=some (.int kd))(i:P.stoodInHeld b=false):Ke P mt b e c kd:=by
 refine⟨g,?_,h,i⟩;generalize P.underlying b=d at a;unfold Ad at a;split at a
 . next fs=>
   split at a
   . next f j=>
     simp only[zj,bne_iff_ne,beq_iff_eq]at a;refine⟨f,?_,a.1.1,a.1.2,a.2⟩;congr 2
     grind
   . cases a
 . cases a
def o0(b mb:Nat)(σ σ':aa):Prop:=∀c x,σ c=some x->c≠b->(c≠mb\/x.plain=true)->σ' c=some x
theorem o0.refl(b mb:Nat)(σ:aa):o0 b mb σ σ:=λ_ _ h _ _=>h
section
variable{P:acD}(L:iZ P){m:Mo}{fid n:Nat}{ro:acf}{hold:ace}{s:St}{k:acm}{K:abK}{A:bJ}{Fin:abz}
theorem ab.runN(mu:acr)(N:Nat){todo:acm}(h:bs L m fid n ro mu hold N todo s K):ab P m fid n ro hold todo s K:=λa=>Go.bs L mu hold N a h
theorem ab.uu{c:Code}(h:ab P m fid n ro hold (.code c::.inLoop c::k) s K):ab P m fid n ro hold (.code (.loop c)::k) s K:=λa=>.PJ (h (by simpa[jI,kO]using a))
theorem ab.again{c:Code}(b:kO hold c=true)(h:ab P m fid n ro hold (.code c::.inLoop c::k) s K):ab P m fid n ro hold (.inLoop c::k) s K:=λa=>.inLoop (h (by
 simp only[jI,ZY,zj]at a ⊢
 simp_all))
theorem ab.bY{todo:acm}(d:m.solo=true)(B:gO)(e:B.dir=false)(C:gM P B.ng)(X:iD P B.ng)(l:gn P B.nm)(o:gq P B.nm)(F:mc P B.nm){tm:Bool}{a:ga}
 (p:s.σ B.cF=some (.raw (.chan 0 #[] false 0 0 tm))) (q:s.σ B.gb=some (.cells [.lit (.int .u64 0),.lit (.int .u32 0)])) (r:s.σ B.fb=some (.part (bH B.fo))) (t:s.σ B.mb=some a) (g:a.gone=false) (i:B.GI a) (j:s.rc=.no)
 (h:∀(b:Nat) (hb:0<b) (Fin:abz) (kd:acv) (c:acb) (f:ah),rk P m fid n ro K kd c f Fin ->
   ab P (oZ P (B.at b hb) Fin B.n) fid n ro hold todo {s with σ:=((((s.σ.del B.cF).del B.gb).del B.mb).set B.fb .gX),rc:=.told kd c f} (λ_ _=>False)):ab P m fid n ro hold todo s K:=λk=>
 Go.bY d B e C X l o F p q r t g i j λb hb Fin kd c f u=>h b hb Fin kd c f u k
theorem ab.Lt{m:Nat}{ops:acd}{i:Nat}{rest:acr}{o:Oper}{args:abQ}{a:abW}{fn:Func}(f:ops[i]?=some o)(b:o.op=.call ⟨.value (.func A.ng.add),args,a⟩)(g:o.guard=none)(c:Oper.ok n o=true)
 (j:P.funcs[A.ng.add]?=some fn) (hb:fn.body.isSome=true) (d:(fn.name==  "runtime.NumGoroutine")=false) (l:args.toList.map (an s.env)=[.ref A.gb 0,.lit (.int .i64 1)])
 (h:ab P (E0 P A Fin m) fid n ro hold (.inRegion ops rest::k) {s with env:=bc s.env o.dst (.cB [])} (λ_ _=>False)):ab P (oZ P A Fin (m+1)) fid n ro hold (.inRegion ops (i::rest)::k) s K:=λe=>
 Go.Lt f b (bX g) c j hb d l (h (by simpa[jI,kO]using e))
theorem ab.uX{m:Nat}{ops:acd}{i:Nat}{rest:acr}{o:Oper}{fo:acE}{args:abQ}{b:abW}{f:FuncId}{fn:Func}{body:Code}{first cap:acw}{hold':ace}(q:ops[i]?=some o)(c:o.op=.go ⟨.value fo,args,b⟩)(r:o.guard=none)(d:Oper.ok n o=true)
 (e:an s.env fo=.fn (.func f) first cap) (t:P.funcs[f]?=some fn) (hb:fn.body=some body) (g:(fn.name==  "runtime.NumGoroutine")=false) (u:((first++args.toList.map (an s.env))++cap).length<=fn.ntmps) (j:s.σ A.fb=some .gX) (a:jI hold' [.code body]=true)
 (v:∀l,ab P (iu P A (A.n-(m+1))) f fn.ntmps none hold' [.code body] ⟨dt ((first++args.toList.map (an s.env))++cap),jK A.fb,[],.told .deferred [cI P] l⟩ (λ_ _=>False))
 (h:ab P (oZ P A Fin m) fid n ro hold (.inRegion ops rest::k) {s with env:=bc s.env o.dst .cE} (λ_ _=>False)):ab P (E0 P A Fin m) fid n ro hold (.inRegion ops (i::rest)::k) s K:=λp=>
 Go.HE q c (bX r) d e t hb g u j (λ_=>.none) (λl=>v l a) (h (by simpa[jI,kO]using p))
theorem ab.V7(a:A.dir=false){ops:acd}{i:Nat}{rest:acr}{o:Oper}{fo:acE}{args:abQ}{c:abW}{f:FuncId}{fn:Func}{body:Code}{first cap:acw}{hold':ace}(q:ops[i]?=some o)(d:o.op=.go ⟨.value fo,args,c⟩)(r:o.guard=none)(e:Oper.ok n o=true)
 (g:an s.env fo=.fn (.func f) first cap) (t:P.funcs[f]?=some fn) (hb:fn.body=some body) (j:(fn.name==  "runtime.NumGoroutine")=false) (u:((first++args.toList.map (an s.env))++cap).length<=fn.ntmps) (l:s.σ A.fb=some .gX) (b:jI hold' [.code body]=true)
 (v:∀m,ab P (xp P A) f fn.ntmps none hold' [.code body] ⟨dt ((first++args.toList.map (an s.env))++cap),jK A.fb,[],.told .deferred [cI P] m⟩ (λ_ _=>False))
 (h:ab P (rf P A Fin A.n (List.range A.n)) fid n ro hold (.inRegion ops rest::k) {s with env:=bc s.env o.dst .cE} (λ_ _=>False)):ab P (oZ P A Fin 0) fid n ro hold (.inRegion ops (i::rest)::k) s K:=λp=>
 Go.V7 a q d (bX r) e g t hb j u l (λm=>v m b) (h (by simpa[jI,kO]using p))
theorem ab.Lu(a:A.dir=false){j:Nat}{ops:acd}{i:Nat}{rest:acr}{o:Oper}{ch x:acE}{fn fd:Func}{r:ah}(t:ops[i]?=some o)(c:o.op=.send ch x)(d:Oper.ok n o=true)(u:o.guard=none)(e:an s.env ch=.chan A.cF)(v:an s.env x=A.res j)
 (f:s.σ A.fb=some .gX) (g:s.rc=.told .deferred [cI P] r) (l:ro=none) (w:P.funcs[fid]?=some fn) (y:n=fn.ntmps) (m:P.funcs[A.ng.done]?=some fd) (p:fd.body.isSome=true) (b:(fd.name==  "runtime.NumGoroutine")=false)
 (h:ab P (kP P A) fid n ro hold (.inRegion ops rest::k) {s with env:=bc s.env o.dst (.lit undef)} (Q' P A fn)):ab P (iu P A j) fid n ro hold (.inRegion ops (i::rest)::k) s K:=λq=>
 Go.Lu a t c d (bX u) e v f g l w y m p b (h (by simpa[jI,kO]using q))
theorem ab.Lv{ops:acd}{i:Nat}{rest:acr}{o:Oper}{args:abQ}{a:abW}{fn:Func}(f:ops[i]?=some o)(b:o.op=.call ⟨.value (.func A.ng.wait),args,a⟩)(g:o.guard=none)(c:Oper.ok n o=true)
 (j:P.funcs[A.ng.wait]?=some fn) (hb:fn.body.isSome=true) (d:(fn.name==  "runtime.NumGoroutine")=false) (l:args.toList.map (an s.env)=[.ref A.gb 0])
 (h:ab P (rN P A) fid n ro hold (.inRegion ops rest::k) {s with env:=bc s.env o.dst (.cB [])} (λ_ _=>False)):ab P (xp P A) fid n ro hold (.inRegion ops (i::rest)::k) s K:=λe=>
 Go.Lv f b (bX g) c j hb d l (h (by simpa[jI,kO]using e))
theorem ab.Fh{ops:acd}{i:Nat}{rest:acr}{o:Oper}{ch:acE}{a:abW}{fn:Func}{g:ah}(h:ops[i]?=some o)(b:o.op=.call ⟨.builtin .close,#[ch],a⟩)(c:Oper.ok n o=true)(j:o.guard=none)(d:an s.env ch=.chan A.cF)
 (e:s.rc=.told .deferred [cI P] g) (l:s.D=[]) (f:ro=none) (m:P.funcs[fid]?=some fn) (p:fn.results=#[]) (q:(Item.inRegion ops rest::k).all Ac=true):ab P (rN P A) fid n ro hold (.inRegion ops (i::rest)::k) s K:=λ_=>
 Go.Fh h b c j d e l f m p q
theorem ab.G3{m:Nat}{R:acr}{ops:acd}{i:Nat}{rest:acr}{o:Oper}{ct ce:Nat}{l p:TI}{ch:acE}(q:ops[i]?=some o)(a:o.op=.recv ct ch true)(b:L.tt ct=some l)(c:l.kind=.chan ce)(d:L.tt ce=some p)
 (e:Oper.ok n o=true) (r:o.guard=none) (f:an s.env ch=.chan A.cF)
 (h:∀j∈R,ab P (rf P A Fin m (R.erase j)) fid n ro hold (.inRegion ops rest::k) {s with env:=bc s.env o.dst (.cB [A.res j,.lit (.bool true)])} (λ_ _=>False)):ab P (rf P A Fin (m+1) R) fid n ro hold (.inRegion ops (i::rest)::k) s K:=λg=>
 Go.G3 L q a b c d e (bX r) f λj t=>h j t (by simpa[jI,kO]using g)
theorem ab.BF{t:abK}{kd:acv}{b:acb}{u:ah}{R:acr}{ops:acd}{i:Nat}{rest:acr}{o:Oper}{ct ce:Nat}{v w:TI}{ch:acE}(x:ops[i]?=some o)(d:o.op=.recv ct ch true)(e:L.tt ct=some v)(f:v.kind=.chan ce)(g:L.tt ce=some w)
 (j:Oper.ok n o=true) (y:o.guard=none) (l:an s.env ch=.chan A.cF) (p:s.σ A.fb=some .gX) (q:s.rc=.told kd b u) (c:rk P m fid n ro t kd b u Fin)
 (h:∀a,A.GI a->ab P m fid n ro hold (.inRegion ops rest::k) {s with env:=bc s.env o.dst (.cB [.cE,.lit (.bool false)]),σ:=(s.σ.set A.mb a).set A.fb (.part (bH A.fo)),rc:=.no} t):ab P (rf P A Fin 0 R) fid n ro hold (.inRegion ops (i::rest)::k) s K:=λr=>
 Go.BF L x d e f g j (bX y) l p q c λa z=>h a z (by simpa[jI,kO]using r)
end
section
variable{P:acD}(L:iZ P){m:Mo}
theorem aA.Fi{f:FuncId}{fn:Func}{args:acw}{σ:aa}{b:abT}{body:Code}(mu:acr)(hold:ace)(N k:Nat)(c:P.funcs[f]?=some fn)(hb:fn.body=some body)(e:args.length=k)(d:nZ fn k=true)(a:kO hold body=true)
 (h:bs L m f fn.ntmps none mu hold N [.code body] ⟨dt args,σ,[],.no⟩ (RJ L m fn.results.toList (ny b))):aA P m f args σ b:=by
 simp only[nZ,zj]at d;refine aA.thaw (aA.intro L c hb (by simp_all) ?_ (Go.bs L mu hold N (by simpa[jI]using a) h))
 simp_all
variable{fid n:Nat}{ro:acf}{hold:ace}{K:abK}{todo:acm}
@[simp] theorem Sx{mu:acr}{s:St}:bs L m fid n ro mu hold 0 todo s K=ab P m fid n ro hold todo s K:=propext ZL
theorem ab.jL{env:Env}{σ:aa}{D:acz}{rc:Rec}(I:abP)(a:I env σ)(h:∀env σ,I env σ->ab P m fid n ro hold todo ⟨env,σ,D,rc⟩ K):ab P m fid n ro hold todo ⟨env,σ,D,rc⟩ K:=h env σ a
end
section
variable{P:acD}(L:iZ P){o:Oper}{env:Env}{σ:aa}{K:abU}{Kp:abU}
theorem sY{t e:Nat}{x y:acE}{it g:TI}{n:Int}{u:AV}(S:o.op=.makeSlice t x y)(T:L.tt t=some it)(U:it.kind=.slice e)(B:L.tt e=some g)(W:g.size=1)(hb:g.bytes<=1024)
 (X:(ly g.zero).cells=[u]) (Y:u.flat=true) (Z:an env x=.lit (.int .i64 n)) (hy:an env y=.lit (.int .i64 n)) (Q:0<=n/\n<=1000000)
 (hK:∀b,σ b=none->K (.gW b 0 n.toNat n.toNat) (σ.set b (.cells (List.replicate n.toNat u)))):aI P o env σ K Kp:=
 aI.val (s:=λC=>Instr.makeSlice t (C x) (C y)) (λC=>by simp[execOp,S]) λk O C w hr=>by
  have G:=w x (by simp_all)
  have D:=w y (by simp_all)
  rw[Z]at G;rw[hy]at D;have e1:=dk G;have e2:=dk D
  have hw:IntKind.i64.wrap n=n:=by simp[IntKind.wrap,IntKind.signed,IntKind.bits];omega
  have a7:g.zero.cells.size=1:=by obtain⟨_,_,_,_,_,_,h⟩:=L.facts B;omega
  have m:=wH (k:=k) (z:=g.zero) (by simp_all)
  rw[X]at m;rw[e1,e2];unfold Instr.makeSlice;refine af (aF L T λd _ hd=>?_)
  rw[bN hd U];dsimp only;refine af (s:=asInt (.int .i64 n)) (ag ?_);refine af (s:=asInt (.int .i64 n)) (ag ?_);refine af (cU L B λinfo _ _ H _=>?_)
  dsimp only;rw[hw]
  have I:((decide (n<0)||decide ((info.bytes:Int)*n>2 ^ 48))||decide (n<0)||decide (n>n))=false:=by
   have q:(info.bytes:Int)*n<=1024*1000000:=by rw[H];exact Int.mul_le_mul (by omega) Q.2 Q.1 (by omega)
   grind
  simp only[I,zR,if_false];refine af (pv ?_);refine af (bI L B ?_);rw[W]
  have j:∀zero:abY,(n.toNat≠0->zero=g.zero.cells)->dI P (do let a <-newRow e ((Array.range (n.toNat*1)).map (zero[· % zero.size]!));pure (Value.slice (some a) n.toNat n.toNat)) k O (λv p E=>mq p E λJ O2=>k.Le J/\∃a c,V J v a/\Rel J O2 c/\K a c) (λv p E=>k.Le p/\∃a c,V p v a/\Rel p E c/\Kp a c):=λzero hzero=>by
   have f:∀(i:Nat) v,((Array.range (n.toNat*1)).map (zero[· % zero.size]!))[i]?=some v->i<n.toNat/\g.zero.cells[0]?=some v:=λi v F=>by grind
   refine af (jf (l:=List.replicate n.toNat u) hr (by simp) (λi v a F ha=>?_) (λi v F=>?_) λr p E M N A=>ag (.here ⟨N,.gW r 0 n.toNat n.toNat,_,.gW ..,A,hK r M⟩))
   . obtain⟨G,D⟩:=f i v F
     have:a=u:=(List.mem_replicate.1 (List.mem_of_getElem? ha)).2;subst this;exact m.2.1 0 v a D rfl
   . exact m.2.2 0 v (f i v F).2
  by_cases R:n.toNat*1=0
  . rw[if_pos R]
    refine af (ag ?_);exact j _ (λh=>by omega)
  . rw[if_neg R]
    refine af (cR L B (af (ag ?_)));exact j _ (λ_=>rfl)
end
theorem Ly{es b:acw}{sp:cT}(f:es.length=b.length)(m:∀e∈es,e.cells=[e])(n:∀e∈b,e.cells=[e])(o:∀(i:Nat) a a',es[i]?=some a->b[i]?=some a'->a.W a'):(AV.sl 1 es sp).W (.sl 1 b .any):=λk v p=>by
 have f1:=fH m;have q:=fH n;rcases p.Cv with⟨r,rfl,rfl,s⟩|⟨t,off,cap,N,u,c,rfl,y,w,x,z,g,h,A⟩
 . have:b=[]:=List.length_eq_zero_iff.1 f.symm
   subst this;exact .slnil r 1 .any (.inl rfl)
 . rw[f1]at g h
   rw[f];refine .sl t off cap 1 N u b .any c (by omega) w x (λe B=>by simp_all) (λj d=>g j (by simp_all)) (λj a l=>?_) trivial;rw[q]at l;have d:j<es.length:=by grind
   exact o j es[j] a (by simp[d]) l k _ (h j _ (by simp[d]))
section
variable{P:acD}{m:Mo}{fid n:Nat}{ro:acf}{hold:ace}{K:abK}{todo:acm}
theorem ab.Lz{env:Env}{σ0 σ:aa}{D:acz}{rc:Rec}{kk:Nat}{es:acw}(t:Nat)(h:cq σ0 σ (env t) kk es)(a:ab P m fid n ro hold todo ⟨env.upd t (.sl kk es .any),σ0,D,rc⟩ K):ab P m fid n ro hold todo ⟨env,σ,D,rc⟩ K:=by
 rcases h.2 with⟨rfl,e|e⟩|⟨b,cap,rest,e,k,f,d,g,l⟩
 . exact ab.Ew t (a':=.sl kk [] .any) (by rw[e];exact fQ kk) (ab.weaken a h.1)
 . exact ab.Ew t (a':=.sl kk [] .any) (by rw[e];exact ik kk [] .exact) (ab.weaken a h.1)
 . have o:=bt d
   refine ab.freeze b _ g (λu=>Fz.upd (t:=t) (a':=.sl kk es .any) (by
    rw[e];refine .sl 0 cap kk es .any f ?_ d (λj x p=>?_) (.inl rfl)
    . have:cap*kk=es.length*kk+(cap-es.length)*kk:=by rw[<-Nat.add_mul];simp_all
      simp_all
    grind) u) (J3.del b _ σ) (ab.weaken a ?_)
   exact λc y i=>by
    have:c≠b:=λq=>by simp_all
    simp only[aa.del,this,if_false];exact h.1 c y i
theorem ab.O6{env:Env}{σ:aa}{D:acz}{rc:Rec}{b d i:Nat}{l cs:acw}{es:acw}{sp:cT}{at_:Nat}(hd:d≠b)(hb:σ b=some (.cells l))(z:∀e∈l,e.cells=[e])(A:σ d=some (.cells cs))(f:cs[at_]?=some (.sl 1 es sp))(q:∀e∈es,e.cells=[e])(hi:es[i]?=some (.gW b 0 l.length l.length))
 (B:ab P m fid n ro hold todo ⟨env,(σ.del b).set d (.cells (cs.set at_ (.sl 1 (es.set i (.sl 1 l .any)) sp))),D,rc⟩ K):ab P m fid n ro hold todo ⟨env,σ,D,rc⟩ K:=by
 have C:=fH z;refine ab.freeze b l hb (λu=>.refl _) (λy x o=>?_) B;by_cases e:y=d
 . subst e
   simp[aa.set]at o;subst o;refine⟨hd,.inr ⟨cs,_,A,rfl,by simp,λj a E r g=>?_⟩⟩;by_cases t:j=at_
   . subst t
     rw[f]at r;cases r;have c:=(List.getElem?_eq_some_iff.1 f).1;rw[aap c]at g;cases g;refine .rows es _ sp (by simp) q (λx v=>?_) (λp a E s k=>?_)
     . rcases aaF v with v|rfl
       . simp_all
       . rfl
     . by_cases w:p=i
       . subst w
         rw[hi]at s;cases s;have c:=(List.getElem?_eq_some_iff.1 hi).1;rw[aap c]at k;cases k;exact .sl 0 l.length 1 l .any (ZF _) (by omega) (λe F=>by simp_all) (λj a h=>by simp_all) (.inl rfl)
       . rw[aak (za w)]at k
         rw[s]at k;cases k;exact .refl _
   . rw[aak (za t)]at g
     rw[r]at g;cases g;exact .refl _
 . rw[aa.ai _ _ e]at o
   unfold aa.del at o
   simp_all
end

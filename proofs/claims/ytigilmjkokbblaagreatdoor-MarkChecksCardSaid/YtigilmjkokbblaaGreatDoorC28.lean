/- Part 28 of the proof. -/
import Derived.Conc.HoldsTime
import Derived.Test.YtigilmjkokbblaaGreatDoorC27
set_option linter.all false
namespace Go.bd
open Go.Conc
open Go.ConcN (sumTo upd sumTo_upd upd_ne upd_same)
def ye:Mo:=⟨true,true,λ_ _ _ _=>False⟩
section
variable{P:Program}(L:iG P){m:Mo}{f:FuncId}{fn:Func}
def OW{P:Program}(L:iG P)(rs:List ResultVar)(a:dV->aa->Prop):Exit->St->Prop
 |.leave none,s=>s.rc=.no/\s.D=[]/\∃l,eZ L s.env s.σ rs=some l/\a (.val (oneOf l)) s.σ
 |.leave (some .ret),s=>s.rc=.no/\s.D=[]/\∃l,eZ L s.env s.σ rs=some l/\a (.val (oneOf l)) s.σ
 |.leave _,_=>False
 |.panic _,_=>False
@[simp] theorem TK{rs:List ResultVar}{a:dV->aa->Prop}{s:St}:OW L rs a (.leave (some .ret)) s=(s.rc=.no/\s.D=[]/\∃l,eZ L s.env s.σ rs=some l/\a (.val (oneOf l)) s.σ):=propext Iff.rfl
@[simp] theorem QM{rs:List ResultVar}{a:dV->aa->Prop}{s:St}{v:AV}:OW L rs a (.panic v) s=False:=propext Iff.rfl
def oY(P:Program)(L:iG P)(m:Mo)(f:FuncId)(args:List AV)(σ:aa)(a:dV->aa->Prop):Prop:=∃fn body,P.funcs[f]?=some fn/\fn.body=some body/\args.length<=fn.ntmps/\Go P m f fn.ntmps none [.code body] ⟨dD args,σ,[],.no⟩ (OW L fn.results.toList (oc a))
theorem oY.start{args:List AV}{σ:aa}{b:dV->aa->Prop}{body:Code}(mu:List Nat)(hold:List Entry)(k:Nat)(d:P.funcs[f]?=some fn)(hb:fn.body=some body)(e:args.length=k)(c:oa fn k=true)(a:mJ hold body=true)
 (h:bx L m f fn.ntmps none mu hold 1000 [.code body] ⟨dD args,σ,[],.no⟩ (OW L fn.results.toList (oc b))):oY P L m f args σ b:=by
 simp only[oa,Bool.and_eq_true]at c;exact⟨fn,body,d,hb,by rw[e];exact Nat.le_of_ble_eq_true c.1,Go.bx L mu hold 1000 (by simpa[lr]using a) h⟩
def TL(P:Program)(f:FuncId)(r:Nat)(b:dV->aa->Prop)(c:ah):ah->ai->Goroutine->Prop:=λk O g=>∃tmps todo σ a,g=G ⟨f,tmps,todo,[],.returning,.normal,none⟩ []/\c.Le k/\Rel k O σ/\V k (tmps.getD r undef) a/\b (.val a) σ
theorem TM{r:Nat}{args:List AV}{cargs:List Value}{σ:aa}{t:dV->aa->Prop}{k:ah}{O:ai}(C:P.funcs[f]?=some fn)(u:fn.results=#[.tmp r])(i:r<fn.ntmps)(h:oY P L m f args σ t)(g:Vs k cargs args)(v:Rel k O σ):
 T P m (TL P f r t k) k O (G (Frame.enter P f cargs.toArray .normal) []):=by
 obtain⟨N,body,x,hb,hn,E⟩:=h;rw[C]at x;cases x;have F:(cargs.toArray++Array.replicate (fn.ntmps-cargs.length) undef).size=fn.ntmps:=by simp;rw[g.1];omega
 have e:Frame.enter P f cargs.toArray .normal=⟨f,cargs.toArray++Array.replicate (fn.ntmps-cargs.length) undef,[.code body],[],.run,.normal,none⟩:=by simp[Frame.enter,C,hb]
 rw[e]
 have key:∀res j,oc t res j->∀c d tmps todo n,res=.val n->k.Le c->Rel c d j->V c (tmps.getD r undef) n->T P m (TL P f r t k) c d (G ⟨f,tmps,todo,[],.returning,.normal,none⟩ []):=by
  intro res j Q
  induction Q with
  |@done res j R=>exact λc d tmps todo n e a i g=>.stop ⟨tmps,todo,_,n,rfl,a,i,g,e ▸ R⟩
  | freeze b l hb C o _ y=>
    intro c d tmps todo n e a i g;cases e;refine T.AZ i hb rfl λS U z H I=>?_
    exact y S U tmps todo _ rfl (a.trans z) (I _ o) (H _ _ _ g C)
  |iI W _ y=>intro c d tmps todo n e a i g;cases e;exact y c d tmps todo _ rfl a i (W _ _ g)
  |less o _ y=>intro c d tmps todo n e a i g;exact y c d tmps todo n e a (i.le o) g
 refine E _ k O _ [] .normal [] (by decide) ⟨F,tB g _,v,trivial,trivial⟩ ⟨λc d tmps defs s todo q a o M p=>?_,λc d tmps defs s todo cv n a o X p=>p.elim⟩
 have A:s.rc=.no/\s.D=[]/\(∃l,eZ L s.env s.σ fn.results.toList=some l/\oc t (.val (oneOf l)) s.σ)/\(q=none\/q=some .ret):=by
  rcases M with⟨_,rfl⟩|⟨_,_,rfl⟩|⟨_,_,_,_,rfl⟩
  . exact⟨p.1,p.2.1,p.2.2,.inl rfl⟩
  . exact⟨p.1,p.2.1,p.2.2,.inr rfl⟩
  . exact p.elim
 obtain⟨Y,Z,⟨l,B,J⟩,h3⟩:=A;have hd:=o.ds;rw[Z]at hd;cases defs with
 |cons _ _=>exact hd.elim
 |nil=>
 rw[Y];refine T.dW (g':=G ⟨f,tmps,todo,[],.returning,.normal,none⟩ []) rfl (λw=>?_) ?_
 . rcases M with⟨rfl,rfl⟩|⟨kk,rfl,rfl⟩|⟨_,_,_,_,rfl⟩
   . simp[G,stepG,stepG.exec,gf]
   . simp[G,stepG,stepG.exec,gf]
   . simp at h3
 . have K:l=[s.env r]:=by
    rw[u]at B;simpa[eZ,AQ,eq_comm]using B
   subst K;exact key _ _ J c d tmps todo _ rfl a o.rel (o.env r (by rw[o.size];exact i))
theorem Au{Q:Machine->Outcome->World->Trace->Prop}:∀(n:Nat) (m m1:Machine) (t b:Trace),runNT P n m t=(.next m1,b)->(∃N last o w' a,runNT P (N+1) m1 b=(.ended o w',a)/\runN P N m1=.next last/\step P last=.ended o w'/\Q last o w' a) ->
 ∃N last o w' a,runNT P (N+1) m t=(.ended o w',a)/\runN P N m=.next last/\step P last=.ended o w'/\Q last o w' a
 | 0,m,m1,t,b,h,d=>by
   simp only[runNT,Prod.mk.injEq,Stepped.next.injEq]at h;obtain⟨rfl,rfl⟩:=h;exact d
 | n + 1,m,m1,t,b,h,d=>by
   cases c:stepT P m with
   | mk e ops=>
     cases e with
     |ended o w=>simp only[runNT,c]at h;cases h
     |next f=>rw[runNT_succ_next c]at h;obtain⟨N,last,o,w',a,g,i,j,k⟩:=Au n f m1 _ b h d;exact⟨N+1,last,o,w',a,by rw[runNT_succ_next c];exact g,by rw[runN_succ_next c];exact i,j,k⟩
def ah.all(w:World):ah:=⟨λb i=>w.cell? ⟨b,i,none⟩,λb=>w.shape? b⟩
theorem LP{r:Nat}(b:P.funcs[f]?=some fn)(c:P.inits.idxOf? f=none)(a:fn.results=#[.tmp r])(tmps:Array Value)(todo:List Item)(w:World):stepG P true (G ⟨f,tmps,todo,[],.returning,.normal,none⟩ []) w=.ended (.done (tmps.getD r undef)) w #[]:=by simp[G,stepG,unwind,b,results,a,doReturn,c,GStep.after,seen]
def zW(b:Nat)(l:List AV):aa:=λc=>if c=b then some (.stay l)else none
theorem C5{k:ah}{b:Nat}{l:List AV}(d:∃s,k.sh b=some s)(h:Pb k b l):Rel k ai.bot (zW b l):=by
 refine⟨λc a e f=>?_,λc a e _=>?_⟩<;>unfold zW at e<;>split at e
 . cases e;cases f
 . cases e
 . next q=>subst q;cases e;exact⟨rfl,d,λl q=>by cases q;exact h⟩
 . cases e
theorem Hk{r:Nat}{args:List AV}{cargs:List Value}{y:dV->aa->Prop}(z:P.funcs[f]?=some fn)(A:P.inits.idxOf? f=none)(c:fn.results=#[.tmp r])(C:r<fn.ntmps){σ0:aa}(h:oY P L ye f args σ0 y){W:World}(E:Vs (ah.all W) cargs args)(j:Rel (ah.all W) ai.bot σ0):
 ∃ M last o w' l,runNT P (M+1) (solo (G (Frame.enter P f cargs.toArray .normal) []) W) #[]=(.ended o w',l)/\runN P M (solo (G (Frame.enter P f cargs.toArray .normal) []) W)=.next last/\
   step P last=.ended o w'/\Conc.Good P (λv F=>(∃k e σ,V k v e/\y (.val e) σ)/\vr W F) last o w' l:=by
 have H:=TM L (m:=ye) (O:=ai.bot) z c C h E j
 have I:eQ P W (ah.all W) ai.bot (G (Frame.enter P f cargs.toArray .normal) []) #[G (Frame.enter P f cargs.toArray .normal) []] W #[]:=by
  refine⟨λ_=>False,λ_=>0,rfl,leavers_one P _,?_,λa h=>h.elim,λr h=>h.elim,⟨λb i v _ J=>?_,λb i v h=>h,λb s h=>h,λb o h=>(by cases h),λb n h=>(by cases h),λb g h=>(by cases h)⟩,.refl W,λb x h=>(by cases h)⟩
  . exact⟨past_nil.clean,past_nil.known,past_nil.over,past_nil.hears,by simp⟩
  . exact dY (sP b) J
 obtain⟨M,K,w',N,l,Q,U,X,R,⟨Shun,q,j,S,T,_,_,_,p,_⟩,tmps,todo,σ,e,rfl,_,_,t,u⟩:=LF (m:=ye) rfl (λ_ _ _ _ h=>h) H W _ W none #[] I;rw[solo_eq_crowd];refine Au M _ _ _ _ R ?_;refine beside_ends (Shun:=Shun) (B:=w'.heap.size) (D:=λ_ _ _=>False) (n:=0) (λ_ _ _ h=>h.elim) j S T λY w=>?_
 obtain⟨d,rfl⟩:=w;exact⟨rfl,_,#[],LP z A c _ _ _,by simp,⟨Q,e,σ,t,u⟩,p.step (.refl _) rfl (Nat.le_refl _) (λ_ _=>rfl)⟩
end
end Go.bd
namespace Go.bd
open Go.Conc
def bk{α:Type}(P:Program):Sem α->Option α
 |.pure a=>some a
 |.program g=>bk P (g P)
 |_=>none
theorem ed{α:Type}{P:Program}{k:ah}{O:ai}{K:α->ah->ai->Prop}{Kp:Value->ah->ai->Prop}{a:α}:∀(s:Sem α),bk P s=some a->K a k O->eh P s k O K Kp
 |.pure b,h,c=>by simp only[bk,Option.some.injEq]at h;subst h;exact c
 |.program g,h,c=>ed (g P) h c
 |.load ..,h,_=>by simp[bk]at h
 |.store ..,h,_=>by simp[bk]at h
 |.new ..,h,_=>by simp[bk]at h
 |.shape ..,h,_=>by simp[bk]at h
 |.freeze ..,h,_=>by simp[bk]at h
 |.frozen ..,h,_=>by simp[bk]at h
 |.getObj ..,h,_=>by simp[bk]at h
 |.setObj ..,h,_=>by simp[bk]at h
 |.choose ..,h,_=>by simp[bk]at h
 |.sys ..,h,_=>by simp[bk]at h
 |.mark ..,h,_=>by simp[bk]at h
 |.halt ..,h,_=>by simp[bk]at h
def mj(P:Program)(e:Array Value->Sem Value)(args:List AV)(σ:aa)(K:AV->aa->Prop):Prop:=∀k O (d:List Value),Vs k d args->Rel k O σ->eh P (e d.toArray) k O (λv c f=>k.Le c->∃a b,V c v a/\Rel c f b/\K a b) (λ_ _ _=>False)
section
variable{P:Program}(L:iG P){m:Mo}{f:FuncId}{fn:Func}
theorem vm{e:Array Value->Sem Value}{k:ah}{O:ai}{b:Array Value}{K:Go.Next->ah->ai->Prop}{Kp:Value->ah->ai->Prop}(c:P.funcs[f]?=some fn)(hb:fn.body=none)(a:(fn.name==  "runtime.NumGoroutine")=false)(d:Extern.findNext fn=none)(g:Extern.find fn=some e)
 (h:eh P (e b) k O (λv k' O'=>K (.value v) k' O') Kp):eh P (callFunc f b) k O K Kp:=by
 unfold callFunc;refine af (bN ?_);rw[c];simp only[a,hb,Option.isNone_none,Bool.false_eq_true,if_false,if_true];refine af (s:=mark (.extern f)) ⟨rfl,?_⟩;simp only[d,g];exact af (iq _ h (λ_ _ _ h=>aj h) (λ_ _ _ h=>h))
theorem cN.ext{e:Array Value->Sem Value}{args:List AV}{σ:aa}{o:dV->aa->Prop}(p:P.funcs[f]?=some fn)(hb:fn.body=none)(g:(fn.name==  "runtime.NumGoroutine")=false)(q:Extern.findNext fn=none)(r:Extern.find fn=some e)
 (h:mj P e args σ λa σ'=>o (.val a) σ'):cN P m (.fn (.func f) [] []) args σ o:=λQ k O cf b fr cs i c s j l n t F=>by
 cases i with
 | fn _ u w G H x I y J=>
   refine dQ ?_;simp only[Deferred.ofValue];refine af (aj ?_);simp only[Go.invoke];obtain rfl:u=#[]:=by simpa using x
   obtain rfl:w=#[]:=by simpa using y
   refine vm p hb g q r ?_;rw[show(#[]++b.toArray++#[]:Array Value)=b.toArray by simp];refine iq _ (h k O b c s) (λv z A B d=>?_) (λ_ _ _ h=>h.elim);obtain⟨a,σ',C,D,E⟩:=B d;exact t z A v a σ' d C D E
variable{fid n:Nat}{ro:Option Nat}{hold:List Entry}{s:St}{K:Exit->St->Prop}{k:List Item}
theorem ab.tp{ops:Array Oper}{i:Nat}{is:List Nat}{o:Oper}{recv:Operand}{name:String}{args:Array Operand}{z:Array TypeId}{t f:Nat}{a a':AV}{fn:Func}{e:Array Value->Sem Value}(J:ops[i]?=some o)(d:o.op=.call ⟨.invoke recv name,args,z⟩)(N:cu ops n s.env o)(u:Oper.ok n o=true)
 (R:ar s.env recv=.lg t a) (S:oB P t name f a a') (U:P.funcs[f]?=some fn) (hb:fn.body=none) (A:(fn.name==  "runtime.NumGoroutine")=false) (W:Extern.findNext fn=none) (X:Extern.find fn=some e)
 (h:mj P e (a'::args.toList.map (ar s.env)) s.σ (λx σ'=>ab P m fid n ro hold (.inRegion ops is::k) {s with env:=bo s.env o.dst x,σ:=σ'} K)):
 ab P m fid n ro hold (.inRegion ops (i::is)::k) s K:=λB Q kk O tmps defs kind cs Y q Z=>by
 refine T.nZ (λw=>dS J (gO q.size q.env N) (.inr λc e=>by rw[d]at e;cases e) w) (dQ ?_)
 have g:∀x∈o.op.operands,V kk (Frame.eval ⟨fid,tmps,.inRegion ops (i::is)::k,defs,.run,kind,ro⟩ x) (ar s.env x):=λx C=>by refine V.eval q.env q.size x ?_;simp only[Oper.ok,Bool.and_eq_true,Array.all_eq_true_iff_forall_mem]at u;exact u.1 x C
 have y:=g recv (by simp[d,Op.operands,Call.operands])
 rw[R]at y;have b:=Vs.ofArray (k:=kk) (ρ:=Frame.eval ⟨fid,tmps,.inRegion ops (i::is)::k,defs,.run,kind,ro⟩) (env:=s.env) (xs:=args) (λx C=>g x (by simp[d,Op.operands,Call.operands,C]))
 generalize hq:Frame.eval _ recv=cf at y;cases y with
 | lg _ v _ D=>
   simp only[execOp,d,resolve,hq];refine af (aj ?_);rw[qN];unfold callMethod;simp only;refine af (bN ?_);refine af (S kk O v _ _ D λr E=>?_)
   refine vm U hb A W X ?_;have e:#[r]++args.map (Frame.eval ⟨fid,tmps,.inRegion ops (i::is)::k,defs,.run,kind,ro⟩)=(r::(args.map (Frame.eval ⟨fid,tmps,.inRegion ops (i::is)::k,defs,.run,kind,ro⟩)).toList).toArray:=by simp
   rw[e];refine iq _ (h kk O _ (.cons E ⟨by simpa using b.1,λj v a y ha=>b.2 j v a (by simpa using y) ha⟩) q.rel) (λcv L M F l=>?_) (λ_ _ _ h=>h.elim)
   obtain⟨av,σ',H,I,F⟩:=F l;obtain⟨p,e1,e2⟩:=q.put (fid:=fid) (ro:=ro) (rest:=is) (kk:=k) l J H I;show T P m Q L M (G (Frame.finish ⟨fid,tmps,.inRegion ops (i::is)::k,defs,.run,kind,ro⟩ cv) (gf s.rc cs));rw[e1];exact F (by simpa[lr,mJ]using B) Q L M p defs kind cs Y e2 (Z.mono l)
end
theorem mn{k:ah}{v u:Value}:V k v (.lit u)↔v=u:=⟨λh=>by cases h;rfl,λh=>h ▸ .lit v⟩
theorem Av{k:ah}{v:Value}{b off:Nat}:V k v (.ref b off)↔v=.pointer (some ⟨b,off,none⟩):=⟨λh=>by cases h;rfl,λh=>h ▸ .ref b off⟩
theorem Hl{k:ah}{v:Value}{t:TypeId}{a:AV}:V k v (.lg t a)↔∃u,v=.iface t u/\V k u a:=⟨λh=>by cases h with|lg _ u _ h=>exact⟨u,rfl,h⟩,λ⟨u,e,h⟩=>e ▸ .lg t u a h⟩
theorem rS{k:ah}{v:Value}{a:AV}:V k v (.agg [a])↔∃x,v=.agg #[x]/\V k x a:=by
 constructor
 . intro h
   cases h with
   | agg c _ e f=>
     obtain⟨c⟩:=c
     match c,e with
     |[x],_=>exact⟨x,rfl,f 0 x a rfl rfl⟩
 . rintro⟨x,rfl,h⟩
   refine .agg _ _ rfl λi v g d b=>?_
   match i with
   |0=>simp at d b;subst d;subst b;exact h
   |i+1=>simp at b
theorem rT{k:ah}{v:Value}{a b c:AV}:V k v (.agg [a,b,c])↔∃x y z,v=.agg #[x,y,z]/\V k x a/\V k y b/\V k z c:=by
 constructor
 . intro h
   cases h with
   | agg q _ j f=>
     obtain⟨q⟩:=q
     match q,j with
     |[x,y,z],_=>exact⟨x,y,z,rfl,f 0 x a rfl rfl,f 1 y b rfl rfl,f 2 z c rfl rfl⟩
 . rintro⟨x,y,z,rfl,h,l,g⟩
   refine .agg _ _ rfl λi v m e d=>?_
   match i with
   |0=>simp at e d;subst e;subst d;exact h
   |1=>simp at e d;subst e;subst d;exact l
   |2=>simp at e d;subst e;subst d;exact g
   |i+3=>simp at d
section
open Go.Extern
variable{P:Program}(L:iG P){σ:aa}{K:AV->aa->Prop}
theorem mj.pure{e:Array Value->Sem Value}{args:List AV}{v:Value}{a:AV}(c:∀k b,Vs k b args->bk P (e b.toArray)=some v)(d:∀k,V k v a)(f:K a σ):mj P e args σ K:=λk O b g h=>by exact ed _ (c k b g) λ_=>⟨a,σ,d k,h,f⟩
theorem vn{t:TypeId}{a:AV}{f g:Value}(h:a.cells.all AV.flat=true)(i:∀r,bk P (ReflectliteValue.mk t ⟨r,0,none⟩ 0)=some (.agg #[f,.pointer (some ⟨r,0,none⟩),g]))
 (j:∀c,σ c=none->K (.agg [.lit f,.ref c 0,.lit g]) (σ.set c (.cells a.cells))):mj P (λargs=>ReflectliteValue.unpack (args.getD 0 (.tuple #[]))) [.lg t a] σ K:=λk O x l m=>by
 obtain⟨v,b,d⟩:=l.one;subst b;obtain⟨u,rfl,n⟩:=Hl.1 d;obtain⟨o,p,q⟩:=n.cells h;show eh P (do ReflectliteValue.mk t (<-newVar t u) 0) k O _ _;refine af (s:=newRow t u.cells) (eY m o p q λr y z w A e=>?_);exact ed _ (i r) λ_=>⟨_,_,rT.2 ⟨_,_,_,rfl,.lit _,.ref r 0,.lit _⟩,e,j r w⟩
theorem vo{k:ah}{O:ai}{c b off t:Nat}{i:TI}{K:Value->ah->ai->Prop}{Kp:Value->ah->ai->Prop}(d:Rel k O σ)(f:σ c=some (.cells [.ref b off]))(g:L.tt t=some i)(h:i.agg=false)(j:K (.pointer (some ⟨b,off,none⟩)) k O):eh P (loadVar t ⟨c,0,none⟩) k O K Kp:=by
 obtain⟨x,l,m⟩:=d.1 _ _ f rfl;cases m with
 | cells r e _ n o p=>
   refine mF L (np.own l n o p) (off:=0) g (a:=.ref b off) (by unfold bW;rw[h];rfl) λv q=>?_
   rw[Av.1 q];exact j
theorem IE{z:Sem Value}{t c b off:Nat}{i:TI}{e f:Value}{g:Nat}(j:∀r,bk P (ReflectliteValue.parts (.agg #[e,.pointer (some ⟨r,0,none⟩),f]))=some (some (t,⟨r,0,none⟩,g)))(l:g % 32=22)
 (m:L.tt t=some i) (n:i.agg=false) (o:σ c=some (.cells [.ref b off])) (p:K (.lit (.bool false)) σ):mj P (ReflectliteValue.method z ReflectliteValue.isNil) [.agg [.lit e,.ref c 0,.lit f]] σ K:=λk O x q h=>by
 obtain⟨v,a,d⟩:=q.one;subst a;obtain⟨_,_,_,rfl,s,u,w⟩:=rT.1 d;rw[mn.1 s,Av.1 u,mn.1 w];refine af (ed _ (j c) ?_);simp only[l];unfold ReflectliteValue.isNil;simp only[show(!([18,19,20,21,22,23,26].contains 22))=false from rfl,Bool.false_eq_true,if_false];refine af (vo L h o m n ?_);exact aj λ_=>⟨_,_,.lit _,h,p⟩
theorem LQ{z:Sem Value}{t e c b off:Nat}{i:TI}{f g h j:Value}{l:Nat}(n:∀r,bk P (ReflectliteValue.parts (.agg #[f,.pointer (some ⟨r,0,none⟩),g]))=some (some (t,⟨r,0,none⟩,l)))(p:l % 32=22)
 (q:L.tt t=some i) (s:i.agg=false) (u:bk P (Rtype.elem? t)=some (some e)) (w:∀r o,bk P (ReflectliteValue.mk e ⟨r,o,none⟩ ReflectliteValue.flagAddr)=some (.agg #[h,.pointer (some ⟨r,o,none⟩),j]))
 (x:σ c=some (.cells [.ref b off])) (y:K (.agg [.lit h,.ref b off,.lit j]) σ):mj P (ReflectliteValue.method z ReflectliteValue.elem) [.agg [.lit f,.ref c 0,.lit g]] σ K:=λk O E A m=>by
 obtain⟨v,a,d⟩:=A.one;subst a;obtain⟨_,_,_,rfl,B,C,D⟩:=rT.1 d;rw[mn.1 B,Av.1 C,mn.1 D];refine af (ed _ (n c) ?_);simp only[p];unfold ReflectliteValue.elem;simp only[show((22:Nat) !=20 && (22:Nat) !=22)=false from rfl,Bool.false_eq_true,if_false];refine af (vo L m x q s ?_);refine af (ed _ u ?_);exact ed _ (w b off) λ_=>⟨_,_,rT.2 ⟨_,_,_,rfl,.lit _,.ref b off,.lit _⟩,m,y⟩
theorem QN(v x:Value):ReflectliteValue.set #[v,x]=(do
 let (some (dst,a,c),some (src,b,_)):=(<-ReflectliteValue.parts v,<-ReflectliteValue.parts x)
  |unsupported (.noEntry  "extern/(internal/reflectlite.Value).Set.zeroValue")
 if c / ReflectliteValue.flagAddr % 2==0 then unsupported (.noEntry  "extern/(internal/reflectlite.Value).Set.unaddressable")
 let val <-loadVar src b
 if <-Rtype.directlyAssignable dst src then storeVar dst a val
 else if <-Rtype.implements dst src then
  if(<-Rtype.kind src)==20 then
   match val with
   |.nilIface=>unsupported (.noEntry  "extern/reflectlite: a nil value of one interface type handed on as a value of another")
   |_=>storeVar dst a val
  else storeVar dst a (.iface src val)
 else panicString ("reflectlite.Set: value of type "++(<-Rtype.spelt src)++ " is not assignable to type "++(<-Rtype.spelt dst))
 pure (.tuple #[])):=rfl
theorem OX{t c b off:Nat}{i:TI}{σ':aa}{f n p:Value}{l:List AV}{a:AV}{q z:Nat}(A:∀r o,bk P (ReflectliteValue.parts (.agg #[f,.pointer (some ⟨r,o,none⟩),n]))=some (some (t,⟨r,o,none⟩,q)))(B:∀r,bk P (ReflectliteValue.parts (.agg #[f,.pointer (some ⟨r,0,none⟩),p]))=some (some (t,⟨r,0,none⟩,z)))
 (C:(q / ReflectliteValue.flagAddr % 2==0)=false) (hd:bk P (Rtype.directlyAssignable t t)=some true) (s:L.tt t=some i) (D:σ c=some (.cells l)) (E:bW l 0 i.size i.agg=some a) (F:n8 i σ (.ref b off) a=some σ') (G:K (.bG []) σ'):
 mj P ReflectliteValue.set [.agg [.lit f,.ref b off,.lit n],.agg [.lit f,.ref c 0,.lit p]] σ K:=λk O H d u=>by
 match H,d with
 |[v,x],d=>
 obtain⟨_,_,_,rfl,I,J,M⟩:=rT.1 (d.2 0 v _ rfl rfl);obtain⟨_,_,_,rfl,N,Q,R⟩:=rT.1 (d.2 1 x _ rfl rfl);rw[mn.1 I,Av.1 J,mn.1 M,mn.1 N,Av.1 Q,mn.1 R];show eh P (ReflectliteValue.set #[_,_]) k O _ _;rw[QN];refine af (ed _ (A b off) ?_);refine af (ed _ (B c) ?_);simp only[C,Bool.false_eq_true,if_false];obtain⟨x,S,T⟩:=u.1 _ _ D rfl;cases T with
 | cells Y e _ U W X=>
   have g:=mF L (np.own S U W X) (off:=0) s E (K:=λv w y=>w=k/\y=O/\V k v a) (Kp:=λ_ _ _=>False) λv d=>⟨rfl,rfl,d⟩
   refine af (iq _ g (λv w y d=>?_) (λ_ _ _ h=>h.elim));obtain⟨rfl,rfl,j⟩:=d;refine af (ed _ hd ?_);simp only[if_true];refine af (rX L u (.ref b off) j s F λZ m=>?_);exact aj λ_=>⟨.bG [],_,.bG _ _ rfl λi v a h=>by simp at h,m,G⟩
end
end Go.bd

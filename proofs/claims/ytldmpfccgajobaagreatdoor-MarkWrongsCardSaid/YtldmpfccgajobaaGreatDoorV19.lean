import Derived.Conc.HoldsTime
import Derived.Test.YtldmpfccgajobaaGreatDoorV18
set_option linter.all false
namespace Go.bG
open Go.Conc
open Go.ConcN (sumTo upd sumTo_upd upd_ne upd_same)
def zf:Mo:=⟨true,true,λ_ _ _ _=>False⟩
section
variable{P:Program}(L:jg P){m:Mo}{f:FuncId}{fn:Func}
def J9{P:Program}(L:jg P)(rs:List ResultVar)(a:eI->aa->Prop):Exit->St->Prop
 |.leave none,s=>s.rc=.no/\s.D=[]/\∃l,dN L s.env s.σ rs=some l/\a (.val (oneOf l)) s.σ
 |.leave (some .ret),s=>s.rc=.no/\s.D=[]/\∃l,dN L s.env s.σ rs=some l/\a (.val (oneOf l)) s.σ
 |.leave _,_=>False
 |.panic _,_=>False
@[simp] theorem Ov{rs:List ResultVar}{a:eI->aa->Prop}{s:St}:J9 L rs a (.leave (some .ret)) s=(s.rc=.no/\s.D=[]/\∃l,dN L s.env s.σ rs=some l/\a (.val (oneOf l)) s.σ):=propext Iff.rfl
@[simp] theorem L5{rs:List ResultVar}{a:eI->aa->Prop}{s:St}{v:AV}:J9 L rs a (.panic v) s=False:=propext Iff.rfl
def rN(P:Program)(L:jg P)(m:Mo)(f:FuncId)(args:List AV)(σ:aa)(a:eI->aa->Prop):Prop:=∃fn body,P.funcs[f]?=some fn/\fn.body=some body/\args.length<=fn.ntmps/\Go P m f fn.ntmps none [.code body] ⟨cX args,σ,[],.no⟩ (J9 L fn.results.toList (lZ a))
theorem rN.start{args:List AV}{σ:aa}{b:eI->aa->Prop}{body:Code}(mu:List Nat)(hold:List Entry)(k:Nat)(d:P.funcs[f]?=some fn)(hb:fn.body=some body)(e:args.length=k)(c:lY fn k=true)(a:lf hold body=true)
 (h:aZ L m f fn.ntmps none mu hold 1000 [.code body] ⟨cX args,σ,[],.no⟩ (J9 L fn.results.toList (lZ b))):rN P L m f args σ b:=by
 simp only[lY,Bool.and_eq_true]at c;exact⟨fn,body,d,hb,by rw[e];exact Nat.le_of_ble_eq_true c.1,Go.aZ L mu hold 1000 (by simpa[jP]using a) h⟩
def Ow(P:Program)(f:FuncId)(r:Nat)(b:eI->aa->Prop)(c:ag):ag->ah->Goroutine->Prop:=λk O g=>∃tmps todo σ a,g=G ⟨f,tmps,todo,[],.returning,.normal,none⟩ []/\c.Le k/\Rel k O σ/\V k (tmps.getD r undef) a/\b (.val a) σ
theorem Ox{r:Nat}{args:List AV}{cargs:List Value}{σ:aa}{t:eI->aa->Prop}{k:ag}{O:ah}(C:P.funcs[f]?=some fn)(u:fn.results=#[.tmp r])(i:r<fn.ntmps)(h:rN P L m f args σ t)(g:Vs k cargs args)(v:Rel k O σ):
 T P m (Ow P f r t k) k O (G (Frame.enter P f cargs.toArray .normal) []):=by
 obtain⟨N,body,x,hb,hn,E⟩:=h;rw[C]at x;cases x;have F:(cargs.toArray++Array.replicate (fn.ntmps-cargs.length) undef).size=fn.ntmps:=by simp;rw[g.1];omega
 have e:Frame.enter P f cargs.toArray .normal=⟨f,cargs.toArray++Array.replicate (fn.ntmps-cargs.length) undef,[.code body],[],.run,.normal,none⟩:=by simp[Frame.enter,C,hb]
 rw[e]
 have key:∀res j,lZ t res j->∀c d tmps todo n,res=.val n->k.Le c->Rel c d j->V c (tmps.getD r undef) n->T P m (Ow P f r t k) c d (G ⟨f,tmps,todo,[],.returning,.normal,none⟩ []):=by
  intro res j Q
  induction Q with
  |@done res j R=>exact λc d tmps todo n e a i g=>.stop ⟨tmps,todo,_,n,rfl,a,i,g,e ▸ R⟩
  | freeze b l hb C o _ y=>
    intro c d tmps todo n e a i g;cases e;refine T.xI i hb rfl λS U z H I=>?_
    exact y S U tmps todo _ rfl (a.trans z) (I _ o) (H _ _ _ g C)
  |jm W _ y=>intro c d tmps todo n e a i g;cases e;exact y c d tmps todo _ rfl a i (W _ _ g)
  |less o _ y=>intro c d tmps todo n e a i g;exact y c d tmps todo n e a (i.le o) g
 refine E _ k O _ [] .normal [] (by decide) ⟨F,qB g _,v,trivial,trivial⟩ ⟨λc d tmps defs s todo q a o M p=>?_,λc d tmps defs s todo cv n a o X p=>p.elim⟩
 have A:s.rc=.no/\s.D=[]/\(∃l,dN L s.env s.σ fn.results.toList=some l/\lZ t (.val (oneOf l)) s.σ)/\(q=none\/q=some .ret):=by
  rcases M with⟨_,rfl⟩|⟨_,_,rfl⟩|⟨_,_,_,_,rfl⟩
  . exact⟨p.1,p.2.1,p.2.2,.inl rfl⟩
  . exact⟨p.1,p.2.1,p.2.2,.inr rfl⟩
  . exact p.elim
 obtain⟨Y,Z,⟨l,B,J⟩,h3⟩:=A;have hd:=o.ds;rw[Z]at hd;cases defs with
 |cons _ _=>exact hd.elim
 |nil=>
 rw[Y];refine T.dc (g':=G ⟨f,tmps,todo,[],.returning,.normal,none⟩ []) rfl (λw=>?_) ?_
 . rcases M with⟨rfl,rfl⟩|⟨kk,rfl,rfl⟩|⟨_,_,_,_,rfl⟩
   . simp[G,stepG,stepG.exec,eX]
   . simp[G,stepG,stepG.exec,eX]
   . simp at h3
 . have K:l=[s.env r]:=by
    rw[u]at B;simpa[dN,xy,eq_comm]using B
   subst K;exact key _ _ J c d tmps todo _ rfl a o.rel (o.env r (by rw[o.size];exact i))
theorem wI{Q:Machine->Outcome->World->Trace->Prop}:∀(n:Nat) (m m1:Machine) (t b:Trace),runNT P n m t=(.next m1,b)->(∃N last o w' a,runNT P (N+1) m1 b=(.ended o w',a)/\runN P N m1=.next last/\step P last=.ended o w'/\Q last o w' a) ->
 ∃N last o w' a,runNT P (N+1) m t=(.ended o w',a)/\runN P N m=.next last/\step P last=.ended o w'/\Q last o w' a
 | 0,m,m1,t,b,h,d=>by
   simp only[runNT,Prod.mk.injEq,Stepped.next.injEq]at h;obtain⟨rfl,rfl⟩:=h;exact d
 | n + 1,m,m1,t,b,h,d=>by
   cases c:stepT P m with
   | mk e ops=>
     cases e with
     |ended o w=>simp only[runNT,c]at h;cases h
     |next f=>rw[runNT_succ_next c]at h;obtain⟨N,last,o,w',a,g,i,j,k⟩:=wI n f m1 _ b h d;exact⟨N+1,last,o,w',a,by rw[runNT_succ_next c];exact g,by rw[runN_succ_next c];exact i,j,k⟩
def ag.all(w:World):ag:=⟨λb i=>w.cell? ⟨b,i,none⟩,λb=>w.shape? b⟩
theorem Hn{r:Nat}(b:P.funcs[f]?=some fn)(c:P.inits.idxOf? f=none)(a:fn.results=#[.tmp r])(tmps:Array Value)(todo:List Item)(w:World):stepG P true (G ⟨f,tmps,todo,[],.returning,.normal,none⟩ []) w=.ended (.done (tmps.getD r undef)) w #[]:=by simp[G,stepG,unwind,b,results,a,doReturn,c,GStep.after,seen]
theorem Jy{r:Nat}{args:List AV}{cargs:List Value}{y:eI->aa->Prop}(z:P.funcs[f]?=some fn)(A:P.inits.idxOf? f=none)(c:fn.results=#[.tmp r])(C:r<fn.ntmps)(h:rN P L zf f args (λ_=>none) y){W:World}(E:Vs (ag.all W) cargs args):
 ∃ M last o w' l,runNT P (M+1) (solo (G (Frame.enter P f cargs.toArray .normal) []) W) #[]=(.ended o w',l)/\runN P M (solo (G (Frame.enter P f cargs.toArray .normal) []) W)=.next last/\
   step P last=.ended o w'/\Conc.Good P (λv F=>(∃k j σ,V k v j/\y (.val j) σ)/\vt W F) last o w' l:=by
 have H:=Ox L (m:=zf) (O:=ah.bot) z c C h E ⟨λb a e=>(by cases e),λb e=>(by cases e)⟩
 have I:dE P W (ag.all W) ah.bot (G (Frame.enter P f cargs.toArray .normal) []) #[G (Frame.enter P f cargs.toArray .normal) []] W #[]:=by
  refine⟨λ_=>False,λ_=>0,rfl,leavers_one P _,?_,λa h=>h.elim,λr h=>h.elim,⟨λb i v _ J=>?_,λb i v h=>h,λb s h=>h,λb o h=>(by cases h),λb n h=>(by cases h),λb g h=>(by cases h)⟩,.refl W,λb x h=>(by cases h)⟩
  . exact⟨past_nil.clean,past_nil.known,past_nil.over,past_nil.hears,by simp⟩
  . exact de (pF b) J
 obtain⟨M,K,w',N,l,Q,X,Y,R,⟨Shun,q,S,T,U,_,_,_,p,_⟩,tmps,todo,σ,j,rfl,_,_,t,u⟩:=Hd (m:=zf) rfl (λ_ _ _ _ h=>h) H W _ W none #[] I;rw[solo_eq_crowd];refine wI M _ _ _ _ R ?_;refine beside_ends (Shun:=Shun) (B:=w'.heap.size) (D:=λ_ _ _=>False) (n:=0) (λ_ _ _ h=>h.elim) S T U λZ w=>?_
 obtain⟨d,rfl⟩:=w;exact⟨rfl,_,#[],Hn z A c _ _ _,by simp,⟨Q,j,σ,t,u⟩,p.step (.refl _) rfl (Nat.le_refl _) (λ_ _=>rfl)⟩
end
end Go.bG

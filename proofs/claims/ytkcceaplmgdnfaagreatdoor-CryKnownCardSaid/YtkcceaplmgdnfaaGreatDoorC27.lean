import Derived.Conc.HoldsTime
import Derived.Test.YtkcceaplmgdnfaaGreatDoorC26
set_option linter.all false
namespace Go.bu
open Go.Conc
open Go.ConcN (sumTo upd sumTo_upd upd_ne upd_same)
def A7:Mo:=⟨true,true,λ_ _ _ _=>False⟩
section
variable{P:Program}(L:hQ P){m:Mo}{f:FuncId}{fn:Func}
def GF{P:Program}(L:hQ P)(rs:List ResultVar)(a:cJ->aa->Prop):Exit->St->Prop
 |.leave none,s=>s.rc=.no/\s.D=[]/\∃l,dR L s.env s.σ rs=some l/\a (.val (oneOf l)) s.σ
 |.leave (some .ret),s=>s.rc=.no/\s.D=[]/\∃l,dR L s.env s.σ rs=some l/\a (.val (oneOf l)) s.σ
 |.leave _,_=>False
 |.panic _,_=>False
@[simp] theorem Sf{rs:List ResultVar}{a:cJ->aa->Prop}{s:St}:GF L rs a (.leave (some .ret)) s=(s.rc=.no/\s.D=[]/\∃l,dR L s.env s.σ rs=some l/\a (.val (oneOf l)) s.σ):=propext Iff.rfl
@[simp] theorem Sg{rs:List ResultVar}{a:cJ->aa->Prop}{s:St}:GF L rs a (.leave none) s=(s.rc=.no/\s.D=[]/\∃l,dR L s.env s.σ rs=some l/\a (.val (oneOf l)) s.σ):=propext Iff.rfl
@[simp] theorem QF{rs:List ResultVar}{a:cJ->aa->Prop}{s:St}{n:Nat}:GF L rs a (.leave (some (.exit n))) s=False:=propext Iff.rfl
@[simp] theorem Pt{rs:List ResultVar}{a:cJ->aa->Prop}{s:St}{v:AV}:GF L rs a (.panic v) s=False:=propext Iff.rfl
def tp(P:Program)(L:hQ P)(m:Mo)(f:FuncId)(args:List AV)(σ:aa)(a:cJ->aa->Prop):Prop:=∃fn body,P.funcs[f]?=some fn/\fn.body=some body/\args.length<=fn.ntmps/\Go P m f fn.ntmps none [.code body] ⟨cW args,σ,[],.no⟩ (GF L fn.results.toList (ml a))
theorem tp.start{args:List AV}{σ:aa}{b:cJ->aa->Prop}{body:Code}(mu:List Nat)(hold:List Entry)(k:Nat)(c:P.funcs[f]?=some fn)(hb:fn.body=some body)(e:args.length=k)(d:mS fn k=true)(a:jX hold body=true)
 (h:bd L m f fn.ntmps none mu hold 1000 [.code body] ⟨cW args,σ,[],.no⟩ (GF L fn.results.toList (ml b))):tp P L m f args σ b:=by
 simp only[mS,Bool.and_eq_true]at d;exact⟨fn,body,c,hb,by simp_all,Go.bd L mu hold 1000 (by simpa[iW]using a) h⟩
def Si(P:Program)(f:FuncId)(r:Nat)(b:cJ->aa->Prop)(c:ai):ai->aj->Goroutine->Prop:=λk O g=>∃tmps todo σ a,g=G ⟨f,tmps,todo,[],.returning,.normal,none⟩ []/\c.Le k/\Rel k O σ/\V k (tmps.getD r undef) a/\b (.val a) σ
theorem Sj{r:Nat}{args:List AV}{cargs:List Value}{σ:aa}{q:cJ->aa->Prop}{k:ai}{O:aj}(z:P.funcs[f]?=some fn)(I:fn.results=#[.tmp r])(i:r<fn.ntmps)(h:tp P L m f args σ q)(g:Vs k cargs args)(t:Rel k O σ):
 T P m (Si P f r q k) k O (G (Frame.enter P f cargs.toArray .normal) []):=by
 obtain⟨M,body,u,hb,hn,A⟩:=h;rw[z]at u;cases u;have B:(cargs.toArray++Array.replicate (fn.ntmps-cargs.length) undef).size=fn.ntmps:=by simp;rw[g.1];omega
 have e:Frame.enter P f cargs.toArray .normal=⟨f,cargs.toArray++Array.replicate (fn.ntmps-cargs.length) undef,[.code body],[],.run,.normal,none⟩:=by simp[Frame.enter,z,hb]
 rw[e]
 have key:∀res j,ml q res j->∀c d tmps todo n,res=.val n->k.Le c->Rel c d j->V c (tmps.getD r undef) n->T P m (Si P f r q k) c d (G ⟨f,tmps,todo,[],.returning,.normal,none⟩ []):=by
  intro res j N
  induction N with
  |@done res j Q=>exact λc d tmps todo n e a i g=>.stop ⟨tmps,todo,_,n,rfl,a,i,g,e ▸ Q⟩
  | freeze b l hb z o _ v=>
    intro c d tmps todo n e a i g;cases e;refine T.zi i hb rfl λR S x C E=>?_
    exact v R S tmps todo _ rfl (a.trans x) (E _ o) (C _ _ _ g z)
  |lV U _ v=>intro c d tmps todo n e a i g;cases e;exact v c d tmps todo _ rfl a i (U _ _ g)
  |less o _ v=>intro c d tmps todo n e a i g;exact v c d tmps todo n e a (i.le o) g
 refine A _ k O _ [] .normal [] (by decide) ⟨B,rY g _,t,trivial,trivial⟩ ⟨λc d tmps defs s todo p a o J K=>?_,λc d tmps defs s todo cv n a o W K=>K.elim⟩
 have y:s.rc=.no/\s.D=[]/\(∃l,dR L s.env s.σ fn.results.toList=some l/\ml q (.val (oneOf l)) s.σ)/\(p=none\/p=some .ret):=by
  rcases J with⟨_,rfl⟩|⟨_,_,rfl⟩|⟨_,_,_,_,rfl⟩
  . simp_all
  . simp_all
  simp_all
 obtain⟨X,Y,⟨l,Z,F⟩,h3⟩:=y;have hd:=o.ds;rw[Y]at hd;cases defs with
 |cons _ _=>exact hd.elim
 |nil=>
 rw[X];refine T.cR (g':=G ⟨f,tmps,todo,[],.returning,.normal,none⟩ []) rfl (λw=>?_) ?_
 . rcases J with⟨rfl,rfl⟩|⟨kk,rfl,rfl⟩|⟨_,_,_,_,rfl⟩
   . simp[G,stepG,stepG.exec,eM]
   . simp[G,stepG,stepG.exec,eM]
   grind
 . have H:l=[s.env r]:=by
    simp_all
   subst H;exact key _ _ F c d tmps todo _ rfl a o.rel (o.env r (by rw[o.size];exact i))
theorem yC{Q:Machine->Outcome->World->Trace->Prop}:∀(n:Nat) (m m1:Machine) (t b:Trace),runNT P n m t=(.next m1,b)->(∃N last o w' a,runNT P (N+1) m1 b=(.ended o w',a)/\runN P N m1=.next last/\step P last=.ended o w'/\Q last o w' a) ->
 ∃N last o w' a,runNT P (N+1) m t=(.ended o w',a)/\runN P N m=.next last/\step P last=.ended o w'/\Q last o w' a
 | 0,m,m1,t,b,h,d=>by
   simp only[runNT,Prod.mk.injEq,Stepped.next.injEq]at h
   simp_all
 | n + 1,m,m1,t,b,h,d=>by
   cases c:stepT P m with
   | mk e ops=>
     cases e with
     |ended o w=>simp only[runNT,c]at h;cases h
     |next f=>rw[runNT_succ_next c]at h;obtain⟨N,last,o,w',a,g,i,j,k⟩:=yC n f m1 _ b h d;exact⟨N+1,last,o,w',a,by rw[runNT_succ_next c];exact g,by rw[runN_succ_next c];exact i,j,k⟩
def ai.all(w:World):ai:=⟨λb i=>w.cell? ⟨b,i,none⟩,λb=>w.shape? b⟩
theorem JO{r:Nat}(b:P.funcs[f]?=some fn)(c:P.inits.idxOf? f=none)(a:fn.results=#[.tmp r])(tmps:Array Value)(todo:List Item)(w:World):stepG P true (G ⟨f,tmps,todo,[],.returning,.normal,none⟩ []) w=.ended (.done (tmps.getD r undef)) w #[]:=by simp[G,stepG,unwind,b,results,a,doReturn,c,GStep.after,seen]
theorem JP{k:ai}{O:aj}:Rel k O (λ_=>none):=⟨λb a e=>(by cases e),λb a e=>(by cases e)⟩
theorem Mx{r:Nat}{args:List AV}{cargs:List Value}{y:cJ->aa->Prop}(z:P.funcs[f]?=some fn)(A:P.inits.idxOf? f=none)(c:fn.results=#[.tmp r])(C:r<fn.ntmps){σ0:aa}(h:tp P L A7 f args σ0 y){W:World}(E:Vs (ai.all W) cargs args)(j:Rel (ai.all W) aj.bot σ0):
 ∃ M last o w' l,runNT P (M+1) (solo (G (Frame.enter P f cargs.toArray .normal) []) W) #[]=(.ended o w',l)/\runN P M (solo (G (Frame.enter P f cargs.toArray .normal) []) W)=.next last/\
   step P last=.ended o w'/\Conc.Good P (λv F=>(∃k e σ,V k v e/\y (.val e) σ)/\xm W F) last o w' l:=by
 have H:=Sj L (m:=A7) (O:=aj.bot) z c C h E j
 have I:du P W (ai.all W) aj.bot (G (Frame.enter P f cargs.toArray .normal) []) #[G (Frame.enter P f cargs.toArray .normal) []] W #[]:=by
  refine⟨λ_=>False,λ_=>0,rfl,leavers_one P _,?_,λa h=>h.elim,λr h=>h.elim,⟨λb i v _ J=>?_,λb i v h=>h,λb s h=>h,λb o h=>(by cases h),λb n h=>(by cases h),λb g h=>(by cases h)⟩,.refl W,λb x h=>(by cases h)⟩
  . exact⟨past_nil.clean,past_nil.known,past_nil.over,past_nil.hears,by simp⟩
  . exact dE (qM b) J
 obtain⟨M,K,w',N,l,Q,U,X,R,⟨Shun,q,j,S,T,_,_,_,p,_⟩,tmps,todo,σ,e,rfl,_,_,t,u⟩:=JD (m:=A7) rfl (λ_ _ _ _ h=>h) H W _ W none #[] I;rw[solo_eq_crowd];refine yC M _ _ _ _ R ?_;refine beside_ends (Shun:=Shun) (B:=w'.heap.size) (D:=λ_ _ _=>False) (n:=0) (λ_ _ _ h=>h.elim) j S T λY w=>?_
 obtain⟨d,rfl⟩:=w;exact⟨rfl,_,#[],JO z A c _ _ _,by simp,⟨Q,e,σ,t,u⟩,p.step (.refl _) rfl (Nat.le_refl _) (λ_ _=>rfl)⟩
end
end Go.bu
namespace Go.bu
open Go.Conc
section
variable{P:Program}{m:Mo}{fid n:Nat}{ro:Option Nat}{D:List kF}{rc:Rec}{K:Exit->St->Prop}{k:List Item}{ops:Array Oper}{Kp:AV->aa->Prop}
theorem iC.Sk{i:Nat}{env:Env}{σ:aa}{R b:Env->aa->Prop}(h:iC P m ops n Kp i env σ R)(c:∀env σ,R env σ->b env σ):iC P m ops n Kp i env σ b:=by obtain⟨o,d,e,f⟩:=h;exact⟨o,d,e,f.imp (λh=>⟨h.1,h.2.mono λa g=>c _ _⟩) (λh=>⟨h.1,c _ _ h.2⟩)⟩
theorem cE.inv{Inv:List Nat->Env->aa->Prop}{R:Env->aa->Prop}
 (b:∀done i env σ,(∀j,jd ops j i=true->j∈done)->i∉done->i<ops.size->Inv done env σ->iC P m ops n Kp i env σ (λenv σ=>Inv (i::done) env σ))
 (c:∀done env σ,(∀i,i<ops.size->i∈done)->Inv done env σ->R env σ):
 ∀(l done:List Nat) (env:Env) (σ:aa),iB ops done l->(∀i∈l,i<ops.size)->(∀i,i<ops.size->i∈l\/i∈done)->Inv done env σ->cE P m ops n Kp l env σ R
 |[],done,env,σ,_,_,d,f=>c done env σ (λi k=>(d i k).resolve_left (by simp)) f
 | i::l,done,env,σ,⟨p,q,r⟩,e,d,f=>by
   obtain⟨o,s,t,u⟩:=b done i env σ p q (e i (by simp)) f;have next:∀env σ,Inv (i::done) env σ->cE P m ops n Kp l env σ R:=λenv σ h=>cE.inv b c l (i::done) env σ r (λj g=>e j (by simp[g])) (λj g=>by grind) h
   exact⟨o,s,t,u.imp (λh=>⟨h.1,h.2.mono λa v=>next _ _⟩) (λh=>⟨h.1,next _ _ h.2⟩)⟩
theorem Any.inv{Inv:List Nat->Env->aa->Prop}{R:Env->aa->Prop}{env:Env}{σ:aa}(e:Inv [] env σ)
 (a:∀done i env σ,(∀j,jd ops j i=true->j∈done)->i∉done->i<ops.size->Inv done env σ->iC P m ops n Kp i env σ (λenv σ=>Inv (i::done) env σ))
 (b:∀done env σ,(∀i,i<ops.size->i∈done)->Inv done env σ->R env σ):Any P m ops n Kp [] (List.range ops.size) env σ R:=
 λl f _ d=>cE.inv a b l [] env σ f (λi c=>List.mem_range.1 ((d i).1 c)) (λi c=>.inl ((d i).2 (List.mem_range.2 c))) e
theorem dK(L:hQ P){mu:List Nat}{i:Nat}{env:Env}{σ:aa}{R:Env->aa->Prop}(h:fY L m mu ops n Kp (.one i .done) env σ R):iC P m ops n Kp i env σ R:=by
 have:=r5 L (p:=.done) (λh=>.done h) h;exact this.Sk λenv σ h=>h [] [] [] rfl [] trivial List.nodup_nil (by simp) (by simp)
theorem af.Nn{hold:List Entry}{id:Nat}{env:Env}{σ:aa}(Inv:List Nat->Env->aa->Prop)(d:P.follows .mixedOrders=true)(e:oJ ops=true)(f:Inv [] env σ)
 (a:∀done i env σ,(∀j,jd ops j i=true->j∈done)->i∉done->i<ops.size->Inv done env σ->iC P m ops n (λv σ=>∀env,K (.panic v) ⟨env,σ,D,rc⟩) i env σ (λenv σ=>Inv (i::done) env σ))
 (b:∀done env σ,(∀i,i<ops.size->i∈done)->Inv done env σ->af P m fid n ro hold k ⟨env,σ,D,rc⟩ K):
 af P m fid n ro hold (.code (.region id ops true)::k) ⟨env,σ,D,rc⟩ K:=λc=>
 Go.draw d e (Any.inv f a λdone env σ g h=>b done env σ g h (by simp only[iW,List.all_cons,Bool.and_eq_true]at c ⊢;exact c.2))
end
end Go.bu

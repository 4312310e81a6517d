import Derived.Conc.HoldsTime
import Derived.Test.YtebcbkhnlnkolaaGreatDoorC14
set_option linter.all false
namespace Go.bU
open Go.Conc
open Go.ConcN (sumTo upd sumTo_upd upd_ne upd_same)
def AT:Mo:=⟨true,true,λ_ _ _ _=>False⟩
section
variable{P:adY}(L:jO P){m:Mo}{f:FuncId}{fn:Func}
def Kd{P}(L:jO P)(rs:List ResultVar)(a:adC):adz
 |.leave none,s=>s.rc=.no/\s.D=[]/\∃l,fE L s.env s.σ rs=some l/\a (.val (oneOf l)) s.σ
 |.leave (some .ret),s=>s.rc=.no/\s.D=[]/\∃l,fE L s.env s.σ rs=some l/\a (.val (oneOf l)) s.σ
 |.leave _,_=>False
 |.panic _,_=>False
@[simp] theorem V5{rs a s}:Kd L rs a (.leave (some .ret)) s=(s.rc=.no/\s.D=[]/\∃l,fE L s.env s.σ rs=some l/\a (.val (oneOf l)) s.σ):=propext abt
@[simp] theorem V6{rs a s}:Kd L rs a (.leave none) s=(s.rc=.no/\s.D=[]/\∃l,fE L s.env s.σ rs=some l/\a (.val (oneOf l)) s.σ):=propext abt
@[simp] theorem Ut{rs a s n}:Kd L rs a (.leave (some (.exit n))) s=False:=propext abt
@[simp] theorem Td{rs a s v}:Kd L rs a (.panic v) s=False:=propext abt
def ot  P  (L:jO P) (m:Mo) (f:FuncId) (args:adV) (σ:ab) (a:adC):Prop:=∃fn body,P.funcs[f]?=some fn/\fn.body=some body/\args.length<=fn.ntmps/\Go P m f fn.ntmps none [.code body] ⟨dL args,σ,[],.no⟩ (Kd L fn.results.toList (oC a))
def ot.start{args σ b body}  mu   hold   k  (c:P.funcs[f]?=some fn) (hb:fn.body=some body) (e:args.length=k) (d:pz fn k=true) (a:lS hold body=true)
 (h:bL L m f fn.ntmps none mu hold 1000 [.code body] ⟨dL args,σ,[],.no⟩ (Kd L fn.results.toList (oC b))):ot P L m f args σ b:=by
 simp only[pz,za]at d;exact⟨fn,body,c,hb,by simp_all,Go.bL L mu hold 1000 (by simpa[kz]using a) h⟩
def V7(P:adY)(f:FuncId)(r:Nat)(b:adC)(c:ar):adr:=λk O g=>∃tmps todo σ a,g=G ⟨f,tmps,todo,[],.returning,.normal,none⟩ []/\c.Le k/\Rel k O σ/\V k (tmps.getD r undef) a/\b (.val a) σ
def V8{r:Nat}{args cargs σ q k O}(z:P.funcs[f]?=some fn)(I:fn.results=#[.tmp r])(i:r<fn.ntmps)(h:ot P L m f args σ q)(g:Vs k cargs args)(t:Rel k O σ):
 T P m (V7 P f r q k) k O (G (Frame.enter P f cargs.toArray .normal) []):=by
 obtain⟨M,body,u,hb,hn,A⟩:=h;rw[z]at u;cases u;have B:(cargs.toArray++Array.replicate (fn.ntmps-cargs.length) undef).size=fn.ntmps:=by simp;rw[g.1];omega
 have e:Frame.enter P f cargs.toArray .normal=⟨f,cargs.toArray++Array.replicate (fn.ntmps-cargs.length) undef,[.code body],[],.run,.normal,none⟩:=by simp[Frame.enter,z,hb]
 rw[e]
 have key:∀res j,oC q res j->∀c d tmps todo n,res=.val n->k.Le c->Rel c d j->V c (tmps.getD r undef) n->T P m (V7 P f r q k) c d (G ⟨f,tmps,todo,[],.returning,.normal,none⟩ []):=by
  intro res j N
  induction N with
  |@done res j Q=>exact λc d tmps todo n e a i g=>.stop ⟨tmps,todo,_,n,rfl,a,i,g,e ▸ Q⟩
  | freeze b l hb z o _ v=>
    intro c d tmps todo n e a i g;cases e;refine T.CA i hb rfl λR S x C E=>?_
    exact v R S tmps todo _ rfl (a.trans x) (E _ o) (C _ _ _ g z)
  |oo U _ v=>intro c d tmps todo n e a i g;cases e;exact v c d tmps todo _ rfl a i (U _ _ g)
  |less o _ v=>intro c d tmps todo n e a i g;exact v c d tmps todo n e a (i.le o) g
 refine A _ k O _ [] .normal [] (by decide) ⟨B,ve g _,t,trivial,trivial⟩ ⟨λc d tmps defs s todo p a o J K=>?_,λc d tmps defs s todo cv n a o W K=>K.elim⟩
 have y:s.rc=.no/\s.D=[]/\(∃l,fE L s.env s.σ fn.results.toList=some l/\oC q (.val (oneOf l)) s.σ)/\(p=none\/p=some .ret):=by
  rcases J with⟨_,rfl⟩|⟨_,_,rfl⟩|⟨_,_,_,_,rfl⟩
  . simp_all
  . simp_all
  simp_all
 obtain⟨X,Y,⟨l,Z,F⟩,h3⟩:=y;have hd:=o.ds;rw[Y]at hd;cases defs with
 |cons _ _=>exact hd.elim
 |nil=>
 rw[X];refine T.dC (g':=G ⟨f,tmps,todo,[],.returning,.normal,none⟩ []) rfl (λw=>?_) ?_
 . rcases J with⟨rfl,rfl⟩|⟨kk,rfl,rfl⟩|⟨_,_,_,_,rfl⟩
   . simp[G,stepG,stepG.exec,gM]
   . simp[G,stepG,stepG.exec,gM]
   grind
 . have H:l=[s.env r]:=by
    simp_all
   subst H;exact key _ _ F c d tmps todo _ rfl a o.rel (o.env r (by rw[o.size];exact i))
def BE{Q:Machine->Outcome->World->Trace->Prop}:∀  n   m m1   t b ,runNT P n m t=(.next m1,b)->(∃N last o w' a,runNT P (N+1) m1 b=(.ended o w',a)/\runN P N m1=.next last/\step P last=.ended o w'/\Q last o w' a) ->
 ∃N last o w' a,runNT P (N+1) m t=(.ended o w',a)/\runN P N m=.next last/\step P last=.ended o w'/\Q last o w' a
 | 0,m,m1,t,b,h,d=>by
   simp only[runNT,zU,Stepped.next.injEq]at h
   simp_all
 | n + 1,m,m1,t,b,h,d=>by
   cases c:stepT P m with
   | mk e ops=>
     cases e with
     |ended o w=>simp only[runNT,c]at h;cases h
     |next f=>rw[runNT_succ_next c]at h;obtain⟨N,last,o,w',a,g,i,j,k⟩:=BE n f m1 _ b h d;exact⟨N+1,last,o,w',a,by rw[runNT_succ_next c];exact g,by rw[runN_succ_next c];exact i,j,k⟩
def ar.all(w:World):ar:=⟨λb i=>w.cell? ⟨b,i,none⟩,λb=>w.shape? b⟩
def Nt{r:Nat}(b:P.funcs[f]?=some fn)(hi:P.inits.idxOf? f=none)(a:fn.results=#[.tmp r])  tmps   todo   w :stepG P true (G ⟨f,tmps,todo,[],.returning,.normal,none⟩ []) w=.ended (.done (tmps.getD r undef)) w #[]:=by simp[G,stepG,unwind,b,results,a,doReturn,hi,GStep.after,seen]
def yd{k O}:Rel k O (λ_=>none):=⟨λb a e=>(by cases e),λb a e=>(by cases e)⟩
def Cj{r:Nat}{args cargs y}(z:P.funcs[f]?=some fn)(hi:P.inits.idxOf? f=none)(c:fn.results=#[.tmp r])(A:r<fn.ntmps){σ0}(h:ot P L AT f args σ0 y){W}(C:Vs (ar.all W) cargs args)(j:Rel (ar.all W) ak.bot σ0):
 ∃ M last o w' l,runNT P (M+1) (solo (G (Frame.enter P f cargs.toArray .normal) []) W) #[]=(.ended o w',l)/\runN P M (solo (G (Frame.enter P f cargs.toArray .normal) []) W)=.next last/\
   step P last=.ended o w'/\Conc.Good P (λv E=>(∃k e σ,V k v e/\y (.val e) σ)/\qE W E) last o w' l:=by
 have F:=V8 L (m:=AT) (O:=ak.bot) z c A h C j
 have H:eD P W (ar.all W) ak.bot (G (Frame.enter P f cargs.toArray .normal) []) #[G (Frame.enter P f cargs.toArray .normal) []] W #[]:=by
  refine⟨λ_=>False,λ_=>0,rfl,leavers_one P _,?_,λa h=>h.elim,λr h=>h.elim,⟨λb i v _ I=>?_,λb i v h=>h,λb s h=>h,λb o h=>(by cases h),λb n h=>(by cases h),λb g h=>(by cases h)⟩,.refl W,λb x h=>(by cases h)⟩
  . exact⟨past_nil.clean,past_nil.known,past_nil.over,past_nil.hears,by simp⟩
  . exact eP (tV b) I
 obtain⟨M,J,w',K,l,N,T,U,Q,⟨Shun,q,j,R,S,_,_,_,p,_⟩,tmps,todo,σ,e,rfl,_,_,t,u⟩:=Nj (m:=AT) rfl (λ_ _ _ _ h=>h) F W _ W none #[] H;rw[solo_eq_crowd];refine BE M _ _ _ _ Q ?_;refine beside_ends (Shun:=Shun) (B:=w'.heap.size) (D:=λ_ _ _=>False) (n:=0) (λ_ _ _ h=>h.elim) j R S λX w=>?_
 obtain⟨d,rfl⟩:=w;exact⟨rfl,_,#[],Nt z hi c _ _ _,by simp,⟨N,e,σ,t,u⟩,p.step (.refl _) rfl (aaA _) (λ_ _=>rfl)⟩
end
def Nu{P fits}:∀  d   e   count off n ,Go.rowAt P fits d e count off n=true->off<=count*P.cellsOf e
 |0,e,count,off,n,h=>by simp[Go.rowAt]at h
 | d + 1,e,count,off,n,h=>by
   unfold Go.rowAt at h;dsimp only at h;split at h
   . cases h
   . next c=>
     have a:0<P.cellsOf e:=Nat.pos_of_ne_zero c;rw[aci]at h;rcases h with h|h
     . simp only[za,ach,KD]at h
       obtain⟨⟨f,g⟩,_⟩:=h;have b:=Nat.div_add_mod off (P.cellsOf e);rw[f,Nat.add_zero]at b;rw[<-b,Nat.mul_comm];exact abR _ (by omega)
     . rw[za,KD]at h
       exact Nat.le_of_lt ((Nat.div_lt_iff_lt_mul a).1 h.1)
def BF{P}:∀  d   e   count off   u   n ,Go.liesAt P d e count off u n=true->off<=count*P.cellsOf e
 |0,e,count,off,u,n,h=>by simp[Go.liesAt]at h
 | d + 1,e,count,off,u,n,h=>by
   unfold Go.liesAt at h;rw[aci]at h;rcases h with h|h
   . exact Nu _ _ _ _ _ h
   . split at h
     . exact BF d e count off _ _ h
     . cases h
def ye{P w r base t e a len cap}{d:adQ}(v:P.underlying t=some (.slice e))(s:P.underlying e=some (.int .i64))(o:Value.okWide P w r base t (.slice (some a) len cap))
 (D:len<=cap) (E:d.length=cap) (l:∀i,i<d.length->w.cell? (a.add i)=some (.int .i64 (d.getD i 0))):V (ar.all w) (.slice (some a) len cap) (.sl 1 ((d.take len).map λn=>AV.lit (.int .i64 n)) .any):=by
 have g:Cell.ok P w r base t (.slice (some a) len cap):=by simp only[Value.okWide,v,Cell.okWide]at o;exact o
 simp only[Cell.ok,v]at g;obtain⟨_,_,_,p,row,N,m,f⟩:=g;obtain⟨b,off,spot⟩:=a;simp only at p m f;subst p;have y:off<=N:=aaE (BF _ _ _ _ _ _ f) (Nat.div_mul_le_self _ _)
 have c:∀i,i<cap->w.cell? ⟨b,off+i,none⟩=some (.int .i64 (d.getD i 0)):=λi F=>by
  rw[<-l i (by omega)]
  rw[Go.WideShapes.add_plain]
 have z:off+cap<=N:=by
  rcases Nat.eq_zero_or_pos cap with h|h
  . omega
  . have B:=c (cap-1) (by omega)
    unfold World.shape? at m;unfold World.cell? at B
    grind
 have hlen:((d.take len).map λn=>AV.lit (.int .i64 n)).length=len:=by simp_all
 have q:flatten ((d.take len).map λn=>AV.lit (.int .i64 n))=(d.take len).map λn=>AV.lit (.int .i64 n):=eC λe s=>by obtain⟨_,_,rfl⟩:=aax.1 s;rfl
 have key:=V.sl (k:=ar.all w) b off cap 1 N row ((d.take len).map λn=>AV.lit (.int .i64 n)) .any (λj=>.int .i64 (d.getD j 0)) (by omega) m (by omega) (λe s=>by obtain⟨_,_,rfl⟩:=aax.1 s;rfl) (λj u=>⟨by
  rw[q,hlen]at u;exact c j (by omega),rfl⟩) (λj x A=>by
  rw[q]at A;have u:=(abj.1 A).1;rw[hlen]at u;have C:j<d.length:=by omega
  have:x=AV.lit (.int .i64 (d.getD j 0)):=by simp_all
  subst this;exact .lit _) trivial
 simp_all

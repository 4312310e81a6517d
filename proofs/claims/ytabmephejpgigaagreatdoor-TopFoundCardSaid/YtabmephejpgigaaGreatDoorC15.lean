import Derived.Conc.HoldsTime
import Derived.Test.YtabmephejpgigaaGreatDoorC14
set_option linter.all false
namespace Go.cr
section
open Go.Conc
open Go.ConcN (sumTo upd sumTo_upd upd_ne upd_same)
def FU:Mo:=⟨true,true,λ_ _ _ _=>False⟩
section
variable{P:abm}(L:iT P){m:Mo}{f:FuncId}{fn:Func}
def Ho{P}(L:iT P)(rs:List ResultVar)(a:aaQ):aaN
 |.leave none,s=>s.rc=.no/\s.D=[]/\∃l,eH L s.env s.σ rs=some l/\a (.val (oneOf l)) s.σ
 |.leave (some .ret),s=>s.rc=.no/\s.D=[]/\∃l,eH L s.env s.σ rs=some l/\a (.val (oneOf l)) s.σ
 |.leave _,_=>False
 |.panic _,_=>False
@[simp] theorem S9{rs a s}:Ho L rs a (.leave (some .ret)) s=(s.rc=.no/\s.D=[]/\∃l,eH L s.env s.σ rs=some l/\a (.val (oneOf l)) s.σ):=propext YP
@[simp] theorem Ta{rs a s}:Ho L rs a (.leave none) s=(s.rc=.no/\s.D=[]/\∃l,eH L s.env s.σ rs=some l/\a (.val (oneOf l)) s.σ):=propext YP
@[simp] theorem Rt{rs a s n}:Ho L rs a (.leave (some (.exit n))) s=False:=propext YP
@[simp] theorem Qf{rs a s v}:Ho L rs a (.panic v) s=False:=propext YP
def wy  P  (L:iT P) (m:Mo) (f:FuncId) (args:abj) (σ:ab) (a:aaQ):Prop:=∃fn body,P.funcs[f]?=some fn/\fn.body=some body/\args.length<=fn.ntmps/\Go P m f fn.ntmps none [.code body] ⟨dh args,σ,[],.no⟩ (Ho L fn.results.toList (mO a))
def wy.start{args σ b body}  mu   hold   k  (c:P.funcs[f]?=some fn) (hb:fn.body=some body) (e:args.length=k) (d:nz fn k=true) (a:kB hold body=true)
 (h:br L m f fn.ntmps none mu hold 1000 [.code body] ⟨dh args,σ,[],.no⟩ (Ho L fn.results.toList (mO b))):wy P L m f args σ b:=by
 simp only[nz,za]at d;exact⟨fn,body,c,hb,by simp_all,Go.br L mu hold 1000 (by simpa[js]using a) h⟩
def Tb(P:abm)(f:FuncId)(r:Nat)(b:aaQ)(c:ao):aaG:=λk O g=>∃tmps todo σ a,g=G ⟨f,tmps,todo,[],.returning,.normal,none⟩ []/\c.Le k/\Rel k O σ/\V k (tmps.getD r undef) a/\b (.val a) σ
def Tc{r:Nat}{args cargs σ q k O}(z:P.funcs[f]?=some fn)(I:fn.results=#[.tmp r])(i:r<fn.ntmps)(h:wy P L m f args σ q)(g:Vs k cargs args)(t:Rel k O σ):
 T P m (Tb P f r q k) k O (G (Frame.enter P f cargs.toArray .normal) []):=by
 obtain⟨M,body,u,hb,hn,A⟩:=h;rw[z]at u;cases u;have B:(cargs.toArray++Array.replicate (fn.ntmps-cargs.length) undef).size=fn.ntmps:=by simp;rw[g.1];omega
 have e:Frame.enter P f cargs.toArray .normal=⟨f,cargs.toArray++Array.replicate (fn.ntmps-cargs.length) undef,[.code body],[],.run,.normal,none⟩:=by simp[Frame.enter,z,hb]
 rw[e]
 have key:∀res j,mO q res j->∀c d tmps todo n,res=.val n->k.Le c->Rel c d j->V c (tmps.getD r undef) n->T P m (Tb P f r q k) c d (G ⟨f,tmps,todo,[],.returning,.normal,none⟩ []):=by
  intro res j N
  induction N with
  |@done res j Q=>exact λc d tmps todo n e a i g=>.stop ⟨tmps,todo,_,n,rfl,a,i,g,e ▸ Q⟩
  | freeze b l hb z o _ v=>
    intro c d tmps todo n e a i g;cases e;refine T.Ah i hb rfl λR S x C E=>?_
    exact v R S tmps todo _ rfl (a.trans x) (E _ o) (C _ _ _ g z)
  |qk U _ v=>intro c d tmps todo n e a i g;cases e;exact v c d tmps todo _ rfl a i (U _ _ g)
  |less o _ v=>intro c d tmps todo n e a i g;exact v c d tmps todo n e a (i.le o) g
 refine A _ k O _ [] .normal [] (by decide) ⟨B,sW g _,t,trivial,trivial⟩ ⟨λc d tmps defs s todo p a o J K=>?_,λc d tmps defs s todo cv n a o W K=>K.elim⟩
 have y:s.rc=.no/\s.D=[]/\(∃l,eH L s.env s.σ fn.results.toList=some l/\mO q (.val (oneOf l)) s.σ)/\(p=none\/p=some .ret):=by
  rcases J with⟨_,rfl⟩|⟨_,_,rfl⟩|⟨_,_,_,_,rfl⟩
  . simp_all
  . simp_all
  simp_all
 obtain⟨X,Y,⟨l,Z,F⟩,h3⟩:=y;have hd:=o.ds;rw[Y]at hd;cases defs with
 |cons _ _=>exact hd.elim
 |nil=>
 rw[X];refine T.cZ (g':=G ⟨f,tmps,todo,[],.returning,.normal,none⟩ []) rfl (λw=>?_) ?_
 . rcases J with⟨rfl,rfl⟩|⟨kk,rfl,rfl⟩|⟨_,_,_,_,rfl⟩
   . simp[G,stepG,stepG.exec,fy]
   . simp[G,stepG,stepG.exec,fy]
   grind
 have H:l=[s.env r]:=by simp_all
 subst H;exact key _ _ F c d tmps todo _ rfl a o.rel (o.env r (by rw[o.size];exact i))
def zo{Q:Machine->Outcome->World->Trace->Prop}:∀  n   m m1   t b ,runNT P n m t=(.next m1,b)->(∃N last o w' a,runNT P (N+1) m1 b=(.ended o w',a)/\runN P N m1=.next last/\step P last=.ended o w'/\Q last o w' a) ->
 ∃N last o w' a,runNT P (N+1) m t=(.ended o w',a)/\runN P N m=.next last/\step P last=.ended o w'/\Q last o w' a
 | 0,m,m1,t,b,h,d=>by
   simp only[runNT,zG,Stepped.next.injEq]at h
   simp_all
 | n + 1,m,m1,t,b,h,d=>by
   cases c:stepT P m with
   | mk e ops=>
     cases e with
     |ended o w=>simp only[runNT,c]at h;cases h
     |next f=>rw[runNT_succ_next c]at h;obtain⟨N,last,o,w',a,g,i,j,k⟩:=zo n f m1 _ b h d;exact⟨N+1,last,o,w',a,by rw[runNT_succ_next c];exact g,by rw[runN_succ_next c];exact i,j,k⟩
def ao.all(w:World):ao:=⟨λb i=>w.cell? ⟨b,i,none⟩,λb=>w.shape? b⟩
def Ks{r:Nat}(b:P.funcs[f]?=some fn)(hi:P.inits.idxOf? f=none)(a:fn.results=#[.tmp r])  tmps   todo   w :stepG P true (G ⟨f,tmps,todo,[],.returning,.normal,none⟩ []) w=.ended (.done (tmps.getD r undef)) w #[]:=by simp[G,stepG,unwind,b,results,a,doReturn,hi,GStep.after,seen]
def JI{k O}:Rel k O (λ_=>none):=⟨λb a e=>(by cases e),λb a e=>(by cases e)⟩
def Nw{r:Nat}{args cargs y}(z:P.funcs[f]?=some fn)(hi:P.inits.idxOf? f=none)(c:fn.results=#[.tmp r])(A:r<fn.ntmps){σ0}(h:wy P L FU f args σ0 y){W}(C:Vs (ao.all W) cargs args)(j:Rel (ao.all W) ai.bot σ0):
 ∃ M last o w' l,runNT P (M+1) (solo (G (Frame.enter P f cargs.toArray .normal) []) W) #[]=(.ended o w',l)/\runN P M (solo (G (Frame.enter P f cargs.toArray .normal) []) W)=.next last/\
   step P last=.ended o w'/\Conc.Good P (λv E=>(∃k e σ,V k v e/\y (.val e) σ)/\vw W E) last o w' l:=by
 have F:=Tc L (m:=FU) (O:=ai.bot) z c A h C j
 have H:dE P W (ao.all W) ai.bot (G (Frame.enter P f cargs.toArray .normal) []) #[G (Frame.enter P f cargs.toArray .normal) []] W #[]:=by
  refine⟨λ_=>False,λ_=>0,rfl,leavers_one P _,?_,λa h=>h.elim,λr h=>h.elim,⟨λb i v _ I=>?_,λb i v h=>h,λb s h=>h,λb o h=>(by cases h),λb n h=>(by cases h),λb g h=>(by cases h)⟩,.refl W,λb x h=>(by cases h)⟩
  . exact⟨past_nil.clean,past_nil.known,past_nil.over,past_nil.hears,by simp⟩
  exact dK (rR b) I
 obtain⟨M,J,w',K,l,N,T,U,Q,⟨Shun,q,j,R,S,_,_,_,p,_⟩,tmps,todo,σ,e,rfl,_,_,t,u⟩:=Kg (m:=FU) rfl (λ_ _ _ _ h=>h) F W _ W none #[] H;rw[solo_eq_crowd];refine zo M _ _ _ _ Q ?_;refine beside_ends (Shun:=Shun) (B:=w'.heap.size) (D:=λ_ _ _=>False) (n:=0) (λ_ _ _ h=>h.elim) j R S λX w=>?_
 obtain⟨d,rfl⟩:=w;exact⟨rfl,_,#[],Ks z hi c _ _ _,by simp,⟨N,e,σ,t,u⟩,p.step (.refl _) rfl (YF _) (λ_ _=>rfl)⟩
end
def Kt{P fits}:∀  d   e   count off n ,Go.rowAt P fits d e count off n=true->off<=count*P.cellsOf e
 |0,e,count,off,n,h=>by simp[Go.rowAt]at h
 | d + 1,e,count,off,n,h=>by
   unfold Go.rowAt at h;dsimp only at h;split at h
   . cases h
   next c=>
   have a:0<P.cellsOf e:=Nat.pos_of_ne_zero c;rw[aag]at h;rcases h with h|h
   . simp only[za,ZJ,KD]at h
     obtain⟨⟨f,g⟩,_⟩:=h;have b:=Nat.div_add_mod off (P.cellsOf e);rw[f,Nat.add_zero]at b;rw[<-b,Nat.mul_comm];exact Zw _ (by omega)
   rw[za,KD]at h;exact Nat.le_of_lt ((Nat.div_lt_iff_lt_mul a).1 h.1)
def zp{P}:∀  d   e   count off   u   n ,Go.liesAt P d e count off u n=true->off<=count*P.cellsOf e
 |0,e,count,off,u,n,h=>by simp[Go.liesAt]at h
 | d+1,e,count,off,u,n,h=>by
   unfold Go.liesAt at h;rw[aag]at h;rcases h with h|h
   . exact Kt _ _ _ _ _ h
   split at h
   . exact zp d e count off _ _ h
   cases h
def JJ{P w r base t e a len cap}{d:abe}(v:P.underlying t=some (.slice e))(s:P.underlying e=some (.int .i64))(o:Value.okWide P w r base t (.slice (some a) len cap))
 (D:len<=cap) (E:d.length=cap) (l:∀i,i<d.length->w.cell? (a.add i)=some (.int .i64 (d.getD i 0))):V (ao.all w) (.slice (some a) len cap) (.sl 1 ((d.take len).map λn=>AV.lit (.int .i64 n)) .any):=by
 have g:Cell.ok P w r base t (.slice (some a) len cap):=by simp only[Value.okWide,v,Cell.okWide]at o;exact o
 simp only[Cell.ok,v]at g;obtain⟨_,_,_,p,row,N,m,f⟩:=g;obtain⟨b,off,spot⟩:=a;simp only at p m f;subst p;have y:off<=N:=YO (zp _ _ _ _ _ _ f) (Nat.div_mul_le_self _ _)
 have c:∀i,i<cap->w.cell? ⟨b,off+i,none⟩=some (.int .i64 (d.getD i 0)):=λi F=>by
  rw[<-l i (by omega)]
  rw[Go.WideShapes.add_plain]
 have z:off+cap<=N:=by
  rcases Nat.eq_zero_or_pos cap with h|h
  . omega
  have B:=c (cap-1) (by omega)
  unfold World.shape? at m;unfold World.cell? at B
  grind
 have hlen:((d.take len).map λn=>AV.lit (.int .i64 n)).length=len:=by simp_all
 have q:flatten ((d.take len).map λn=>AV.lit (.int .i64 n))=(d.take len).map λn=>AV.lit (.int .i64 n):=ja λe s=>by obtain⟨_,_,rfl⟩:=YN.1 s;rfl
 have key:=V.sl (k:=ao.all w) b off cap 1 N row ((d.take len).map λn=>AV.lit (.int .i64 n)) .any (λj=>.int .i64 (d.getD j 0)) (by omega) m (by omega) (λe s=>by obtain⟨_,_,rfl⟩:=YN.1 s;rfl) (λj u=>⟨by
  rw[q,hlen]at u;exact c j (by omega),rfl⟩) (λj x A=>by
  rw[q]at A;have u:=(YJ.1 A).1;rw[hlen]at u;have C:j<d.length:=by omega
  have:x=AV.lit (.int .i64 (d.getD j 0)):=by simp_all
  subst this;exact .lit _) trivial
 simp_all
end
open Go.Conc
section
variable{P:abm}{m:Mo}{fid n:Nat}{ro:aaX}{D:List ye}{rc:Rec}{K:aaN}{k:abb}{ops:aaW}{Kp:aaP}
def iZ.Td{i env σ R b}(h:iZ P m ops n Kp i env σ R)(c:∀env σ,R env σ->b env σ):iZ P m ops n Kp i env σ b:=by obtain⟨o,d,e,f⟩:=h;exact⟨o,d,e,f.imp (λh=>⟨h.1,h.2.mono λa g=>c _ _⟩) (λh=>⟨h.1,c _ _ h.2⟩)⟩
def cO.inv{Inv:abf->aaO}{R}
 (b:∀done i env σ,(∀j,iX ops j i=true->j∈done)->i∉done->i<ops.size->Inv done env σ->iZ P m ops n Kp i env σ (λenv σ=>Inv (i::done) env σ))
 (c:∀done env σ,(∀i,i<ops.size->i∈done)->Inv done env σ->R env σ):
 ∀  l done   env   σ ,iY ops done l->(∀i∈l,i<ops.size)->(∀i,i<ops.size->i∈l\/i∈done)->Inv done env σ->cO P m ops n Kp l env σ R
 |[],done,env,σ,_,_,d,f=>c done env σ (λi k=>(d i k).resolve_left (by simp)) f
 | i::l,done,env,σ,⟨p,q,r⟩,e,d,f=>by
   obtain⟨o,s,t,u⟩:=b done i env σ p q (e i (by simp)) f;have next:∀env σ,Inv (i::done) env σ->cO P m ops n Kp l env σ R:=λenv σ h=>cO.inv b c l (i::done) env σ r (λj g=>e j (by simp[g])) (λj g=>by grind) h
   exact⟨o,s,t,u.imp (λh=>⟨h.1,h.2.mono λa v=>next _ _⟩) (λh=>⟨h.1,next _ _ h.2⟩)⟩
def Any.inv{Inv:abf->aaO}{R env σ}(e:Inv [] env σ)
 (a:∀done i env σ,(∀j,iX ops j i=true->j∈done)->i∉done->i<ops.size->Inv done env σ->iZ P m ops n Kp i env σ (λenv σ=>Inv (i::done) env σ))
 (b:∀done env σ,(∀i,i<ops.size->i∈done)->Inv done env σ->R env σ):Any P m ops n Kp [] (List.range ops.size) env σ R:=
 λl f _ d=>cO.inv a b l [] env σ f (λi c=>YB.1 ((d i).1 c)) (λi c=>.inl ((d i).2 (YB.2 c))) e
def bh(L:iT P){mu i env σ R}(h:gS L m mu ops n Kp (.one i .done) env σ R):iZ P m ops n Kp i env σ R:=by
 have:=sY L (p:=.done) (λh=>.done h) h;exact this.Td λenv σ h=>h [] [] [] rfl [] trivial aar (by simp) (by simp)
def aa.N2{hold id env σ}(Inv:abf->aaO)(d:P.follows .mixedOrders=true)(e:pP ops=true)(f:Inv [] env σ)
 (a:∀done i env σ,(∀j,iX ops j i=true->j∈done)->i∉done->i<ops.size->Inv done env σ->iZ P m ops n (λv σ=>∀env,K (.panic v) ⟨env,σ,D,rc⟩) i env σ (λenv σ=>Inv (i::done) env σ))
 (b:∀done env σ,(∀i,i<ops.size->i∈done)->Inv done env σ->aa P m fid n ro hold k ⟨env,σ,D,rc⟩ K):
 aa P m fid n ro hold (.code (.region id ops true)::k) ⟨env,σ,D,rc⟩ K:=λc=>
 Go.draw d e (Any.inv f a λdone env σ g h=>b done env σ g h (by simp only[js,Zl,za]at c ⊢;exact c.2))
end

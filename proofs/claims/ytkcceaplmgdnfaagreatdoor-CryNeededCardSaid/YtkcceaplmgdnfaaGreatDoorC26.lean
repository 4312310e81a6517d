import Derived.Conc.HoldsTime
import Derived.Test.YtkcceaplmgdnfaaGreatDoorC25
set_option linter.all false
namespace Go.bQ
section
open Go.Conc
open Go.ConcN (sumTo upd sumTo_upd upd_ne upd_same)
def Gr:Mo:=⟨true,true,λ_ _ _ _=>False⟩
section
variable{P:acD}(L:iZ P){m:Mo}{f:FuncId}{fn:Func}
def Ir{P:acD}(L:iZ P)(rs:abL)(a:abT):abK
 |.leave none,s=>s.rc=.no/\s.D=[]/\∃l,eE L s.env s.σ rs=some l/\a (.val (oneOf l)) s.σ
 |.leave (some .ret),s=>s.rc=.no/\s.D=[]/\∃l,eE L s.env s.σ rs=some l/\a (.val (oneOf l)) s.σ
 |.leave _,_=>False
 |.panic _,_=>False
@[simp] theorem Ud{rs:abL}{a:abT}{s:St}:Ir L rs a (.leave (some .ret)) s=(s.rc=.no/\s.D=[]/\∃l,eE L s.env s.σ rs=some l/\a (.val (oneOf l)) s.σ):=propext ZL
@[simp] theorem Ue{rs:abL}{a:abT}{s:St}:Ir L rs a (.leave none) s=(s.rc=.no/\s.D=[]/\∃l,eE L s.env s.σ rs=some l/\a (.val (oneOf l)) s.σ):=propext ZL
@[simp] theorem Sz{rs:abL}{a:abT}{s:St}{n:Nat}:Ir L rs a (.leave (some (.exit n))) s=False:=propext ZL
@[simp] theorem Re{rs:abL}{a:abT}{s:St}{v:AV}:Ir L rs a (.panic v) s=False:=propext ZL
def xd(P:acD)(L:iZ P)(m:Mo)(f:FuncId)(args:acw)(σ:aa)(a:abT):Prop:=∃fn body,P.funcs[f]?=some fn/\fn.body=some body/\args.length<=fn.ntmps/\Go P m f fn.ntmps none [.code body] ⟨dt args,σ,[],.no⟩ (Ir L fn.results.toList (ny a))
theorem xd.start{args:acw}{σ:aa}{b:abT}{body:Code}(mu:acr)(hold:ace)(k:Nat)(c:P.funcs[f]?=some fn)(hb:fn.body=some body)(e:args.length=k)(d:nZ fn k=true)(a:kO hold body=true)
 (h:bs L m f fn.ntmps none mu hold 1000 [.code body] ⟨dt args,σ,[],.no⟩ (Ir L fn.results.toList (ny b))):xd P L m f args σ b:=by
 simp only[nZ,zj]at d;exact⟨fn,body,c,hb,by simp_all,Go.bs L mu hold 1000 (by simpa[jI]using a) h⟩
def Uf(P:acD)(f:FuncId)(r:Nat)(b:abT)(c:ah):abz:=λk O g=>∃tmps todo σ a,g=G ⟨f,tmps,todo,[],.returning,.normal,none⟩ []/\c.Le k/\Rel k O σ/\V k (tmps.getD r undef) a/\b (.val a) σ
theorem Ug{r:Nat}{args:acw}{cargs:acg}{σ:aa}{q:abT}{k:ah}{O:aj}(z:P.funcs[f]?=some fn)(I:fn.results=#[.tmp r])(i:r<fn.ntmps)(h:xd P L m f args σ q)(g:Vs k cargs args)(t:Rel k O σ):
 T P m (Uf P f r q k) k O (G (Frame.enter P f cargs.toArray .normal) []):=by
 obtain⟨M,body,u,hb,hn,A⟩:=h;rw[z]at u;cases u;have B:(cargs.toArray++Array.replicate (fn.ntmps-cargs.length) undef).size=fn.ntmps:=by simp;rw[g.1];omega
 have e:Frame.enter P f cargs.toArray .normal=⟨f,cargs.toArray++Array.replicate (fn.ntmps-cargs.length) undef,[.code body],[],.run,.normal,none⟩:=by simp[Frame.enter,z,hb]
 rw[e]
 have key:∀res j,ny q res j->∀c d tmps todo n,res=.val n->k.Le c->Rel c d j->V c (tmps.getD r undef) n->T P m (Uf P f r q k) c d (G ⟨f,tmps,todo,[],.returning,.normal,none⟩ []):=by
  intro res j N
  induction N with
  |@done res j Q=>exact λc d tmps todo n e a i g=>.stop ⟨tmps,todo,_,n,rfl,a,i,g,e ▸ Q⟩
  | freeze b l hb z o _ v=>
    intro c d tmps todo n e a i g;cases e;refine T.AZ i hb rfl λR S x C E=>?_
    exact v R S tmps todo _ rfl (a.trans x) (E _ o) (C _ _ _ g z)
  |n8 U _ v=>intro c d tmps todo n e a i g;cases e;exact v c d tmps todo _ rfl a i (U _ _ g)
  |less o _ v=>intro c d tmps todo n e a i g;exact v c d tmps todo n e a (i.le o) g
 refine A _ k O _ [] .normal [] (by decide) ⟨B,tN g _,t,trivial,trivial⟩ ⟨λc d tmps defs s todo p a o J K=>?_,λc d tmps defs s todo cv n a o W K=>K.elim⟩
 have y:s.rc=.no/\s.D=[]/\(∃l,eE L s.env s.σ fn.results.toList=some l/\ny q (.val (oneOf l)) s.σ)/\(p=none\/p=some .ret):=by
  rcases J with⟨_,rfl⟩|⟨_,_,rfl⟩|⟨_,_,_,_,rfl⟩
  . simp_all
  . simp_all
  simp_all
 obtain⟨X,Y,⟨l,Z,F⟩,h3⟩:=y;have hd:=o.ds;rw[Y]at hd;cases defs with
 |cons _ _=>exact hd.elim
 |nil=>
 rw[X];refine T.di (g':=G ⟨f,tmps,todo,[],.returning,.normal,none⟩ []) rfl (λw=>?_) ?_
 . rcases J with⟨rfl,rfl⟩|⟨kk,rfl,rfl⟩|⟨_,_,_,_,rfl⟩
   . simp[G,stepG,stepG.exec,fP]
   . simp[G,stepG,stepG.exec,fP]
   grind
 . have H:l=[s.env r]:=by
    simp_all
   subst H;exact key _ _ F c d tmps todo _ rfl a o.rel (o.env r (by rw[o.size];exact i))
theorem Ag{Q:Machine->Outcome->World->Trace->Prop}:∀(n:Nat) (m m1:Machine) (t b:Trace),runNT P n m t=(.next m1,b)->(∃N last o w' a,runNT P (N+1) m1 b=(.ended o w',a)/\runN P N m1=.next last/\step P last=.ended o w'/\Q last o w' a) ->
 ∃N last o w' a,runNT P (N+1) m t=(.ended o w',a)/\runN P N m=.next last/\step P last=.ended o w'/\Q last o w' a
 | 0,m,m1,t,b,h,d=>by
   simp only[runNT,zG,Stepped.next.injEq]at h
   simp_all
 | n + 1,m,m1,t,b,h,d=>by
   cases c:stepT P m with
   | mk e ops=>
     cases e with
     |ended o w=>simp only[runNT,c]at h;cases h
     |next f=>rw[runNT_succ_next c]at h;obtain⟨N,last,o,w',a,g,i,j,k⟩:=Ag n f m1 _ b h d;exact⟨N+1,last,o,w',a,by rw[runNT_succ_next c];exact g,by rw[runN_succ_next c];exact i,j,k⟩
def ah.all(w:World):ah:=⟨λb i=>w.cell? ⟨b,i,none⟩,λb=>w.shape? b⟩
theorem LC{r:Nat}(b:P.funcs[f]?=some fn)(hi:P.inits.idxOf? f=none)(a:fn.results=#[.tmp r])(tmps:abY)(todo:acm)(w:World):stepG P true (G ⟨f,tmps,todo,[],.returning,.normal,none⟩ []) w=.ended (.done (tmps.getD r undef)) w #[]:=by simp[G,stepG,unwind,b,results,a,doReturn,hi,GStep.after,seen]
theorem Kf{k:ah}{O:aj}:Rel k O (λ_=>none):=⟨λb a e=>(by cases e),λb a e=>(by cases e)⟩
theorem Oi{r:Nat}{args:acw}{cargs:acg}{y:abT}(z:P.funcs[f]?=some fn)(hi:P.inits.idxOf? f=none)(c:fn.results=#[.tmp r])(A:r<fn.ntmps){σ0:aa}(h:xd P L Gr f args σ0 y){W:World}(C:Vs (ah.all W) cargs args)(j:Rel (ah.all W) aj.bot σ0):
 ∃ M last o w' l,runNT P (M+1) (solo (G (Frame.enter P f cargs.toArray .normal) []) W) #[]=(.ended o w',l)/\runN P M (solo (G (Frame.enter P f cargs.toArray .normal) []) W)=.next last/\
   step P last=.ended o w'/\Conc.Good P (λv E=>(∃k e σ,V k v e/\y (.val e) σ)/\wj W E) last o w' l:=by
 have F:=Ug L (m:=Gr) (O:=aj.bot) z c A h C j
 have H:dM P W (ah.all W) aj.bot (G (Frame.enter P f cargs.toArray .normal) []) #[G (Frame.enter P f cargs.toArray .normal) []] W #[]:=by
  refine⟨λ_=>False,λ_=>0,rfl,leavers_one P _,?_,λa h=>h.elim,λr h=>h.elim,⟨λb i v _ I=>?_,λb i v h=>h,λb s h=>h,λb o h=>(by cases h),λb n h=>(by cases h),λb g h=>(by cases h)⟩,.refl W,λb x h=>(by cases h)⟩
  . exact⟨past_nil.clean,past_nil.known,past_nil.over,past_nil.hears,by simp⟩
  . exact dT (sz b) I
 obtain⟨M,J,w',K,l,N,T,U,Q,⟨Shun,q,j,R,S,_,_,_,p,_⟩,tmps,todo,σ,e,rfl,_,_,t,u⟩:=Lq (m:=Gr) rfl (λ_ _ _ _ h=>h) F W _ W none #[] H;rw[solo_eq_crowd];refine Ag M _ _ _ _ Q ?_;refine beside_ends (Shun:=Shun) (B:=w'.heap.size) (D:=λ_ _ _=>False) (n:=0) (λ_ _ _ h=>h.elim) j R S λX w=>?_
 obtain⟨d,rfl⟩:=w;exact⟨rfl,_,#[],LC z hi c _ _ _,by simp,⟨N,e,σ,t,u⟩,p.step (.refl _) rfl (ZF _) (λ_ _=>rfl)⟩
end
theorem LF{P:acD}{fits:TypeId->Bool}:∀(d:Nat) (e:TypeId) (count off n:Nat),Go.rowAt P fits d e count off n=true->off<=count*P.cellsOf e
 |0,e,count,off,n,h=>by simp[Go.rowAt]at h
 | d + 1,e,count,off,n,h=>by
   unfold Go.rowAt at h;dsimp only at h;split at h
   . cases h
   . next c=>
     have a:0<P.cellsOf e:=Nat.pos_of_ne_zero c;rw[aaY]at h;rcases h with h|h
     . simp only[zj,beq_iff_eq,decide_eq_true_eq]at h
       obtain⟨⟨f,g⟩,_⟩:=h;have b:=Nat.div_add_mod off (P.cellsOf e);rw[f,Nat.add_zero]at b;rw[<-b,Nat.mul_comm];exact ZZ _ (by omega)
     . rw[zj,decide_eq_true_eq]at h
       exact Nat.le_of_lt ((Nat.div_lt_iff_lt_mul a).1 h.1)
theorem Ah{P:acD}:∀(d:Nat) (e:TypeId) (count off:Nat) (u:TypeId) (n:Nat),Go.liesAt P d e count off u n=true->off<=count*P.cellsOf e
 |0,e,count,off,u,n,h=>by simp[Go.liesAt]at h
 | d + 1,e,count,off,u,n,h=>by
   unfold Go.liesAt at h;rw[aaY]at h;rcases h with h|h
   . exact LF _ _ _ _ _ h
   . split at h
     . exact Ah d e count off _ _ h
     . cases h
theorem Kg{P:acD}{w:World}{r:Reach}{base:Nat}{t e:TypeId}{a:Addr}{len cap:Nat}{d:acp}(v:P.underlying t=some (.slice e))(s:P.underlying e=some (.int .i64))(o:Value.okWide P w r base t (.slice (some a) len cap))
 (D:len<=cap) (E:d.length=cap) (l:∀i,i<d.length->w.cell? (a.add i)=some (.int .i64 (d.getD i 0))):V (ah.all w) (.slice (some a) len cap) (.sl 1 ((d.take len).map λn=>AV.lit (.int .i64 n)) .any):=by
 have g:Cell.ok P w r base t (.slice (some a) len cap):=by simp only[Value.okWide,v,Cell.okWide]at o;exact o
 simp only[Cell.ok,v]at g;obtain⟨_,_,_,p,row,N,m,f⟩:=g;obtain⟨b,off,spot⟩:=a;simp only at p m f;subst p;have y:off<=N:=KD (Ah _ _ _ _ _ _ f) (Nat.div_mul_le_self _ _)
 have c:∀i,i<cap->w.cell? ⟨b,off+i,none⟩=some (.int .i64 (d.getD i 0)):=λi F=>by
  rw[<-l i (by omega)]
  rw[Go.WideShapes.add_plain]
 have z:off+cap<=N:=by
  rcases Nat.eq_zero_or_pos cap with h|h
  . omega
  . have B:=c (cap-1) (by omega)
    unfold World.shape? at m;unfold World.cell? at B
    grind
 have hlen:((d.take len).map λn=>AV.lit (.int .i64 n)).length=len:=by simp_all
 have q:flatten ((d.take len).map λn=>AV.lit (.int .i64 n))=(d.take len).map λn=>AV.lit (.int .i64 n):=fH λe s=>by obtain⟨_,_,rfl⟩:=List.mem_map.1 s;rfl
 have key:=V.sl (k:=ah.all w) b off cap 1 N row ((d.take len).map λn=>AV.lit (.int .i64 n)) .any (λj=>.int .i64 (d.getD j 0)) (by omega) m (by omega) (λe s=>by obtain⟨_,_,rfl⟩:=List.mem_map.1 s;rfl) (λj u=>⟨by
  rw[q,hlen]at u;exact c j (by omega),rfl⟩) (λj x A=>by
  rw[q]at A;have u:=(List.getElem?_eq_some_iff.1 A).1;rw[hlen]at u;have C:j<d.length:=by omega
  have:x=AV.lit (.int .i64 (d.getD j 0)):=by simp_all
  subst this;exact .lit _) trivial
 simp_all
end
open Go.Conc
section
variable{P:acD}{m:Mo}{fid n:Nat}{ro:acf}{D:acz}{rc:Rec}{K:abK}{k:acm}{ops:acd}{Kp:abU}
theorem ji.Uh{i:Nat}{env:Env}{σ:aa}{R b:abP}(h:ji P m ops n Kp i env σ R)(c:∀env σ,R env σ->b env σ):ji P m ops n Kp i env σ b:=by obtain⟨o,d,e,f⟩:=h;exact⟨o,d,e,f.imp (λh=>⟨h.1,h.2.mono λa g=>c _ _⟩) (λh=>⟨h.1,c _ _ h.2⟩)⟩
theorem cV.inv{Inv:acr->abP}{R:abP}
 (b:∀done i env σ,(∀j,jg ops j i=true->j∈done)->i∉done->i<ops.size->Inv done env σ->ji P m ops n Kp i env σ (λenv σ=>Inv (i::done) env σ))
 (c:∀done env σ,(∀i,i<ops.size->i∈done)->Inv done env σ->R env σ):
 ∀(l done:acr) (env:Env) (σ:aa),jh ops done l->(∀i∈l,i<ops.size)->(∀i,i<ops.size->i∈l\/i∈done)->Inv done env σ->cV P m ops n Kp l env σ R
 |[],done,env,σ,_,_,d,f=>c done env σ (λi k=>(d i k).resolve_left (by simp)) f
 | i::l,done,env,σ,⟨p,q,r⟩,e,d,f=>by
   obtain⟨o,s,t,u⟩:=b done i env σ p q (e i (by simp)) f;have next:∀env σ,Inv (i::done) env σ->cV P m ops n Kp l env σ R:=λenv σ h=>cV.inv b c l (i::done) env σ r (λj g=>e j (by simp[g])) (λj g=>by grind) h
   exact⟨o,s,t,u.imp (λh=>⟨h.1,h.2.mono λa v=>next _ _⟩) (λh=>⟨h.1,next _ _ h.2⟩)⟩
theorem Any.inv{Inv:acr->abP}{R:abP}{env:Env}{σ:aa}(e:Inv [] env σ)
 (a:∀done i env σ,(∀j,jg ops j i=true->j∈done)->i∉done->i<ops.size->Inv done env σ->ji P m ops n Kp i env σ (λenv σ=>Inv (i::done) env σ))
 (b:∀done env σ,(∀i,i<ops.size->i∈done)->Inv done env σ->R env σ):Any P m ops n Kp [] (List.range ops.size) env σ R:=
 λl f _ d=>cV.inv a b l [] env σ f (λi c=>List.mem_range.1 ((d i).1 c)) (λi c=>.inl ((d i).2 (List.mem_range.2 c))) e
theorem bg(L:iZ P){mu:acr}{i:Nat}{env:Env}{σ:aa}{R:abP}(h:im L m mu ops n Kp (.one i .done) env σ R):ji P m ops n Kp i env σ R:=by
 have:=tP L (p:=.done) (λh=>.done h) h;exact this.Uh λenv σ h=>h [] [] [] rfl [] trivial abg (by simp) (by simp)
theorem ab.Pb{hold:ace}{id:Nat}{env:Env}{σ:aa}(Inv:acr->abP)(d:P.follows .mixedOrders=true)(e:qk ops=true)(f:Inv [] env σ)
 (a:∀done i env σ,(∀j,jg ops j i=true->j∈done)->i∉done->i<ops.size->Inv done env σ->ji P m ops n (λv σ=>∀env,K (.panic v) ⟨env,σ,D,rc⟩) i env σ (λenv σ=>Inv (i::done) env σ))
 (b:∀done env σ,(∀i,i<ops.size->i∈done)->Inv done env σ->ab P m fid n ro hold k ⟨env,σ,D,rc⟩ K):
 ab P m fid n ro hold (.code (.region id ops true)::k) ⟨env,σ,D,rc⟩ K:=λc=>
 Go.draw d e (Any.inv f a λdone env σ g h=>b done env σ g h (by simp only[jI,ZY,zj]at c ⊢;exact c.2))
end

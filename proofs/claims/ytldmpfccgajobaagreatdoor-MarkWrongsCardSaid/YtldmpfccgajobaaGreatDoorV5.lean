import Derived.Orders
import Derived.Test.YtldmpfccgajobaaGreatDoorV4
set_option linter.all false
namespace Go.bG
open Go.Conc
theorem aE.congr{P:Program}{o:Oper}{env a:Env}{σ:aa}{K Kp:AV->aa->Prop}(h:aE P o env σ K Kp)(c:∀x∈o.op.operands,am a x=am env x):aE P o a σ K Kp:=λk O d e f=>h k O d (λx b=>by rw[<-c x b];exact e x b) f
def Jk(P:Program)(m:Mo)(o:Oper)(env:Env)(σ:aa)(R:AV->aa->Prop)(Kp:AV->aa->Prop):Prop:=
 (∃fo args d,o.op=.call ⟨.value fo,args,d⟩/\dl P m (am env fo) (args.toList.map (am env)) σ (λr b=>match r with|.val a=>R a b|.panic v=>Kp v b))\/
 ((∀c,o.op≠.defer c)/\aE P o env σ R Kp)
theorem Jk.mono{P:Program}{m:Mo}{o:Oper}{env:Env}{σ:aa}{R e Kp:AV->aa->Prop}(h:Jk P m o env σ R Kp)(f:∀a σ,R a σ->e a σ):Jk P m o env σ e Kp:=by
 rcases h with⟨fo,args,b,c,d⟩|⟨c,d⟩
 . refine .inl ⟨fo,args,b,c,d.mono λr i g=>?_⟩
   cases r
   . exact f _ _ g
   . exact g
 . exact .inr ⟨c,d.mono f⟩
theorem Jk.congr{P:Program}{m:Mo}{o:Oper}{env a:Env}{σ:aa}{R Kp:AV->aa->Prop}(h:Jk P m o env σ R Kp)(c:∀x∈o.op.operands,am a x=am env x):Jk P m o a σ R Kp:=by
 rcases h with⟨fo,args,d,b,e⟩|⟨b,e⟩
 . refine .inl ⟨fo,args,d,b,?_⟩
   have f:am a fo=am env fo:=c fo (by rw[b];simp[Op.operands,Call.operands]);have g:args.toList.map (am a)=args.toList.map (am env):=List.map_congr_left λx i=>c x (by rw[b];simp only[Op.operands,Call.operands];exact Array.mem_append.2 (.inr (by simpa using i)))
   rw[f,g];exact e
 . exact .inr ⟨b,e.congr c⟩
def jN(ops:Array Oper)(n:Nat)(env:Env)(o:Oper):Prop:=∃j b x d a,o.guard=some (j,b)/\ops[j]?=some a/\a.dst=some d/\d<n/\env d=.lit x/\Nf x b
def ci(P:Program)(m:Mo)(ops:Array Oper)(n:Nat)(Kp:AV->aa->Prop):List Nat->Env->aa->(Env->aa->Prop)->Prop
 |[],env,σ,R=>R env σ
 | i::l,env,σ,R=>∃o,ops[i]?=some o/\Oper.ok n o=true/\
   ((bK ops n env o/\Jk P m o env σ (λa b=>ci P m ops n Kp l (aV env o.dst a) b R) Kp)\/(jN ops n env o/\ci P m ops n Kp l (aV env o.dst (.lit (.tuple #[]))) σ R))
section
variable{P:Program}{m:Mo}{fid n:Nat}{ro:Option Nat}{D:List kL}{rc:Rec}{K:Exit->St->Prop}{k:List Item}{ops:Array Oper}
theorem Go.pw{Kp:AV->aa->Prop}:∀(l:List Nat) (env:Env) (σ:aa),(∀v env σ,Kp v σ->K (.panic v) ⟨env,σ,D,rc⟩) ->
 ci P m ops n Kp l env σ (λenv σ=>Go P m fid n ro k ⟨env,σ,D,rc⟩ K)->Go P m fid n ro (.inRegion ops l::k) ⟨env,σ,D,rc⟩ K
 |[],env,σ,_,h=>.vX h
 | i :: l,env,σ,f,⟨o,q,p,h⟩=>by
   rcases h with⟨B,h⟩|⟨⟨j,b,x,d,R,E,F,hd,s,G,t⟩,h⟩
   . rcases h with⟨fo,args,H,u,w⟩|⟨u,w⟩
     . refine .call q u B p (w.mono λr c C=>?_)
       cases r with
       |val a=>exact Go.pw l _ c f C
       |panic v=>exact f _ _ _ C
     . refine .op q B p u ?_
       intro I O J A L;refine lg _ (w I O J A L) (λ_ _ _ ⟨v,M,N,Q,g,e,a,c,x,y,z⟩=>⟨v,M,N,Q,g,e,a,c,x,y,Go.pw l _ c f z⟩) (λ_ _ _ ⟨e,a,c,x,y,z⟩=>⟨e,a,c,x,y,f _ _ _ z⟩)
   . exact .unwanted q E F hd s G t (Go.pw l _ σ f h)
def A8(P:Program)(o:Oper)(env:Env)(a:AV):Prop:=∀σ,aE P o env σ (λc b=>c=a/\b=σ) (λ_ _=>False)
def px(P:Program)(o:Oper)(env:Env)(σ:aa)(a:AV):Prop:=aE P o env σ (λc b=>c=a/\b=σ) (λ_ _=>False)
def ga(ops:Array Oper)(j i:Nat):Bool:=match ops[i]? with|some o=>o.after.toList.any λe=>Region.binds .any e && e.on==j|none=>false
def cP(ops:Array Oper)(o:Oper):List Nat:=(o.op.operands.toList.filterMap fun|.tmp t=>some t|_=>none)++(match o.guard with|some (j,_)=>(match (ops[j]?).bind (·.dst)with|some d=>[d]|none=>[])|none=>[])
def jF(ops:Array Oper)(rest S:List Nat):Bool:=
 rest.all fun i=>match ops[i]? with
  |none=>false
  | some o=>
    rest.all λj=>match ops[j]? with
     |none=>false
     | some a=>match a.dst with
       |none=>true
       | some d=>
         (if (cP ops o).contains d then
           (if S.contains i then(if S.contains j then ga ops j i && Nat.blt j i else ga ops i j)
            else(if S.contains j then ga ops j i else true))else true) &&
         (if S.contains i && i !=j && o.dst==some d then false else true)
def nG(ops:Array Oper):Bool:=(List.range ops.size).all λi=>match ops[i]? with|none=>false|some o=>o.after.toList.all λe=>!Region.binds .any e||Nat.blt e.on i
theorem tA{ops:Array Oper}(h:nG ops=true):∀i o,ops[i]?=some o->∀e∈o.after,Region.binds .any e=true->e.on<i:=by
 intro i o b e f hb;have a:i<ops.size:=(Array.getElem?_eq_some_iff.1 b).1;have c:=List.all_eq_true.1 h i (List.mem_range.2 a);simp only[b]at c;have d:=List.all_eq_true.1 c e (by simpa using f);rw[hb]at d;simpa using d
def gW(ops:Array Oper):List Nat->List Nat->Prop
 |_,[]=>True
 |done,i::l=>(∀j,ga ops j i=true->j∈done)/\i∉done/\gW ops (i::done) l
theorem mW{env a:Env}{x:Operand}(h:∀t,x=.tmp t->a t=env t):am a x=am env x:=by cases x<;>first|rfl|exact h _ rfl
theorem mem_reads{o:Oper}{t:Nat}(h:Operand.tmp t∈o.op.operands):t∈cP ops o:=by unfold cP;refine List.mem_append.2 (.inl (List.mem_filterMap.2 ⟨.tmp t,by simpa using h,rfl⟩))
theorem v4{o a:Oper}{j:Nat}{b:Bool}{d:Nat}(c:o.guard=some (j,b))(e:ops[j]?=some a)(hd:a.dst=some d):d∈cP ops o:=by unfold cP;refine List.mem_append.2 (.inr ?_);rw[c];simp[e,hd]
theorem bK.congr{env a:Env}{o:Oper}(h:bK ops n env o)(g:∀t∈cP ops o,a t=env t):bK ops n a o:=by
 unfold bK at h ⊢;cases c:o.guard with
 |none=>trivial
 |some p=>obtain⟨j,b⟩:=p;simp only[c]at h ⊢;obtain⟨i,d,e,f,k,l⟩:=h;exact⟨i,d,e,f,k,by rw[g d (v4 c e f)];exact l⟩
theorem jN.congr{env a:Env}{o:Oper}(h:jN ops n env o)(i:∀t∈cP ops o,a t=env t):jN ops n a o:=by obtain⟨j,b,x,d,k,f,g,hd,c,l,e⟩:=h;exact⟨j,b,x,d,k,f,g,hd,c,by rw[i d (v4 f g hd)];exact l,e⟩
theorem iQ(env:Env)(dst:Option Tmp)(a:AV)(t:Nat):aV env dst a t=if dst=some t then a else env t:=by
 cases dst with
 |none=>simp[aV]
 | some d=>
   by_cases h:t=d
   . subst h;simp[aV,Env.upd]
   . simp[aV,Env.upd,h,Ne.symm h]
def late(ops:Array Oper)(rest S:List Nat)(i:Nat):Bool:=rest.all λj=>S.contains j||ga ops i j
def xz(P:Program)(ops:Array Oper)(n:Nat)(rest S:List Nat)(a:Env)(σ:aa)(i:Nat):Prop:=∃o,ops[i]?=some o/\Oper.ok n o=true/\((bK ops n a o/\∃d,o.dst=some d/\(∀c,o.op≠.defer c)/\(A8 P o a (a d)\/(late ops rest S i=true/\px P o a σ (a d))))\/(jN ops n a o/\∃d,o.dst=some d/\a d=.lit (.tuple #[])))
theorem iy{rest S:List Nat}(e:jF ops rest S=true){i j:Nat}{o l:Oper}{d:Nat}(f:i∈rest)(g:j∈rest)(p:ops[i]?=some o)(a:ops[j]?=some l)(hd:l.dst=some d):
 (d∈cP ops o->(i∈S->(j∈S->ga ops j i=true/\j<i)/\(j∉S->ga ops i j=true))/\(i∉S->j∈S->ga ops j i=true))/\(i∈S->i≠j->o.dst≠some d):=by
 unfold jF at e;rw[List.all_eq_true]at e;have m:=e i f;simp only[p]at m;have n:=List.all_eq_true.1 m j g;simp only[a,hd,Bool.and_eq_true]at n;obtain⟨c,q⟩:=n;refine⟨λr=>?_,λb h s=>?_⟩
 . have k:(cP ops o).contains d=true:=by simpa using r
   rw[if_pos k]at c;refine⟨λb=>⟨λa=>?_,λa=>?_⟩,λb a=>?_⟩
   . simpa[b,a]using c
   . simpa[b,a]using c
   . simpa[b,a]using c
 . simp[b,h,s]at q
theorem hoist{rest S:List Nat}{Kp:AV->aa->Prop}{R:Env->aa->Prop}(V:jF ops rest S=true):
 ∀ (l done:List Nat) (env b:Env) (σ:aa),(∀i∈l,i∈rest)->gW ops done l->(∀i∈l,i∉done)->l.Nodup->(∀i∈l,∃o,ops[i]?=some o) ->
   (∀i∈l,i∈S->xz P ops n rest S b σ i)->(∀t,(∀i∈l,i∈S->∀o,ops[i]?=some o->o.dst≠some t)->b t=env t) ->
   ci P m ops n Kp (l.filter λi=>!S.contains i) b σ R->ci P m ops n Kp l env σ R
 | [],done,env,b,σ,_,_,_,_,_,_,W,h=>by
   have:b=env:=funext λt=>W t (λi hi=>by simp at hi)
   rw[<-this];exact h
 | i :: l, done,env,b,σ,p,ha,I,w,A,hh,W,h=>by
   obtain⟨a1,a2,a3⟩:=ha;obtain⟨o,H⟩:=A i (by simp);have X:i∉l:=(List.nodup_cons.1 w).1
   have B:∀t∈cP ops o,b t=env t:=λt s=>W t λj c f J k hd=>by
    obtain⟨c1,_⟩:=iy V (p i (by simp)) (p j (by simp[c])) H k hd
    have N:ga ops j i=true:=by
     by_cases q:i∈S
     . exact(((c1 s).1 q).1 f).1
     . exact(c1 s).2 q f
    exact I j c (a1 j N)
   have K:∀x∈o.op.operands,am env x=am b x:=λx hx=>mW λt e=>(B t (mem_reads (by rw[<-e];exact hx))).symm
   have L:∀j∈l,j∉i::done:=λj c hm=>by
    rcases List.mem_cons.1 hm with rfl|hm
    . exact X c
    . exact I j (by simp[c]) hm
   by_cases q:i∈S
   . have hf:(i::l).filter (λi=>!S.contains i)=l.filter λi=>!S.contains i:=by simp[q]
     rw[hf]at h;obtain⟨o',C,D,E⟩:=hh i (by simp) q;rw[H]at C;cases C
     have next:∀a d,o.dst=some d->b d=a->ci P m ops n Kp l (aV env o.dst a) σ R:=λa d hd a7=>
      hoist V l (i::done) (aV env o.dst a) b σ (λj c=>p j (by simp[c])) a3 L (List.nodup_cons.1 w).2 (λj c=>A j (by simp[c])) (λj c=>hh j (by simp[c])) (λt s=>by
       rw[iQ,hd];by_cases Q:d=t
       . subst Q;simp[a7]
       . rw[if_neg (λe=>Q (Option.some.inj e))]
         refine W t λj c f J k F=>?_
         rcases List.mem_cons.1 c with rfl|c
         . rw[H]at k;cases k
           rw[hd]at F;exact Q (Option.some.inj F)
         . exact s j c f J k F) h
     rcases E with⟨E,d,hd,T,G⟩|⟨E,d,hd,c⟩
     . refine⟨o,H,D,.inl ⟨E.congr λt s=>(B t s).symm,.inr ⟨T,?_⟩⟩⟩
       have:=(show px P o b σ (b d)from G.elim (λh=>h σ) (λh=>h.2)).congr K;intro kk O ρ a8 hr;refine lg _ (this kk O ρ a8 hr) (λ_ _ _ ⟨v,hv,k2,O2,g,a9,a,r,x,y,e1,e2⟩=>⟨v,hv,k2,O2,g,a9,a,r,x,y,?_⟩) (λ_ _ _ ⟨_,_,_,_,_,z⟩=>z.elim);subst e1;subst e2;exact next _ d hd rfl
     . exact⟨o,H,D,.inr ⟨E.congr λt s=>(B t s).symm,next _ d hd c⟩⟩
   . have hf : (i::l).filter (λi=>!S.contains i)=i::l.filter λi=>!S.contains i:=by simp[q]
     rw[hf]at h;obtain⟨o',C,D,E⟩:=h;rw[H]at C;cases C
     have next:∀a r,ci P m ops n Kp (l.filter λi=>!S.contains i) (aV b o.dst a) r R->ci P m ops n Kp l (aV env o.dst a) r R:=λa r h'=>
      hoist V l (i::done) (aV env o.dst a) (aV b o.dst a) r (λj c=>p j (by simp[c])) a3 L (List.nodup_cons.1 w).2 (λj c=>A j (by simp[c]))
       (fun j c f=>by
         obtain⟨J,k,Y,ad⟩:=hh j (by simp[c]) f;have al:j≠i:=λe=>X (e ▸ c)
         have u:∀t∈cP ops J,aV b o.dst a t=b t:=λt s=>by
          rw[iQ];by_cases hd:o.dst=some t
          . obtain⟨c1,_⟩:=iy V (p j (by simp[c])) (p i (by simp)) k H hd
            have:=((c1 s).1 f).2 q;exact absurd (a1 j this) (I j (by simp[c]))
          . rw[if_neg hd]
         have M:∀d,J.dst=some d->aV b o.dst a d=b d:=λd hd=>by
          rw[iQ];by_cases Z:o.dst=some d
          . obtain⟨_,c2⟩:=iy V (p j (by simp[c])) (p i (by simp)) k H Z
            exact absurd hd (c2 f al)
          . rw[if_neg Z]
         refine⟨J,k,Y,?_⟩;rcases ad with⟨U,d,hd,T,G⟩|⟨U,d,hd,av⟩
         . refine .inl ⟨U.congr u,d,hd,T,.inl λσ=>?_⟩
           rw[M d hd];rcases G with G|⟨hl,_⟩
           . exact(G σ).congr λx hx=>mW λt e=>u t (mem_reads (by rw[<-e];exact hx))
           . have:=List.all_eq_true.1 hl i (p i (by simp))
             rw[Bool.or_eq_true]at this;rcases this with h1|h1
             . exact absurd (by simpa using h1) q
             . exact absurd (a1 j h1) (I j (by simp[c]))
         . exact .inr ⟨U.congr u,d,hd,by rw[M d hd];exact av⟩)
       (fun t s=>by
         rw[iQ,iQ];by_cases hd:o.dst=some t
         . rw[if_pos hd,if_pos hd]
         . rw[if_neg hd,if_neg hd]
           refine W t λj c f J k F=>?_
           rcases List.mem_cons.1 c with rfl|c
           . exact q f
           . exact s j c f J k F) h'
     rcases E with⟨E,h⟩|⟨E,h⟩
     . exact⟨o,H,D,.inl ⟨E.congr λt s=>(B t s).symm,(h.congr K).mono λa r=>next a r⟩⟩
     . exact⟨o,H,D,.inr ⟨E.congr λt s=>(B t s).symm,next _ σ h⟩⟩
theorem gW.sub(p:Nat->Bool):∀(l done a:List Nat),gW ops done l->(∀i∈done,i∈a)->(∀i∈l,p i=false->i∈a)->(∀i∈l,p i=true->i∉a)->l.Nodup->gW ops a (l.filter p)
 |[],_,_,_,_,_,_,_=>trivial
 | i :: l,done,a,⟨o,r,n⟩,f,g,h,k=>by
   have m:i∉l:=(List.nodup_cons.1 k).1;by_cases d:p i=true
   . rw [List.filter_cons_of_pos d]
     refine⟨λj c=>f j (o j c),h i (by simp) d,?_⟩
     exact gW.sub p l (i::done) (i::a) n (λj c=>by
      rcases List.mem_cons.1 c with e|e
      . simp[e]
      . simp[f j e]) (λj c b=>by simp[g j (by simp[c]) b]) (λj c b q=>by
      rcases List.mem_cons.1 q with e|e
      . exact m (e ▸ c)
      . exact h j (by simp[c]) b e) (List.nodup_cons.1 k).2
   . rw [List.filter_cons_of_neg d]
     exact gW.sub p l (i::done) a n (λj c=>by
      rcases List.mem_cons.1 c with e|e
      . rw[e];exact g i (by simp) (by simpa using d)
      . exact f j e) (λj c b=>g j (by simp[c]) b) (λj c b=>h j (by simp[c]) b) (List.nodup_cons.1 k).2
theorem xA(d:∀i o,ops[i]?=some o->∀e∈o.after,Region.binds .any e=true->e.on<i):∀(fuel t:Nat) (listed:Array Bool) (done:List Nat),listed.size=ops.size->(∀i,i<ops.size->(listed.getD i true=true↔i∈done)) ->
 ((List.range ops.size).filter λi=>!listed.getD i true).length<=fuel ->
 gW ops done (Region.linearise.go .any ops fuel t listed [])/\(Region.linearise.go .any ops fuel t listed []).Nodup/\(∀i∈Region.linearise.go .any ops fuel t listed [],i∉done/\i<ops.size)/\∀i,i<ops.size->(i∈Region.linearise.go .any ops fuel t listed []\/i∈done):=by
 intro fuel;induction fuel with
 | zero=>
   intro t listed done m hd H;have p:(List.range ops.size).filter (λi=>!listed.getD i true)=[]:=List.eq_nil_of_length_eq_zero (by omega);unfold Region.linearise.go;refine⟨trivial,List.nodup_nil,λi b=>(by cases b),λi b=>.inr ((hd i b).1 ?_)⟩;have:=List.filter_eq_nil_iff.1 p i (List.mem_range.2 b);cases y:listed.getD i true with
   |true=>rfl
   |false=>rw[y]at this;exact absurd rfl this
 | succ fuel I=>
   intro t listed done m hd H;unfold Region.linearise.go;simp only[];generalize z:(List.range ops.size).filter (λi=>!listed.getD i true && ((ops[i]?).map (·.after.all λe=>!Region.binds .any e||listed.getD e.on false)).getD false)=rs
   have g:∀i,i∈rs↔i<ops.size/\listed.getD i true=false/\∃o,ops[i]?=some o/\∀e∈o.after,Region.binds .any e=true->listed.getD e.on false=true:=by
    intro i;rw[<-z,List.mem_filter,List.mem_range];refine and_congr_right λb=>?_
    rw[Bool.and_eq_true,Bool.not_eq_true'];refine and_congr_right λ_=>?_
    have w:ops[i]?=some ops[i]:=Array.getElem?_eq_getElem b;rw[w];simp only[Option.map_some,Option.getD_some,Array.all_eq_true_iff_forall_mem,Bool.or_eq_true,Bool.not_eq_true',Option.some.injEq,exists_eq_left'];refine forall_congr' λe=>forall_congr' λp=>?_
    cases Region.binds .any e<;>simp
   have q:∀j,j<ops.size->listed.getD j false=listed.getD j true:=λj c=>by
    have A:j<listed.size:=by omega
    simp[A]
   cases b:rs[t % rs.length]? with
   | none=>
     simp only[]
     have r:rs=[]:=by
      cases rs with
      |nil=>rfl
      | cons x xs=>
        have B:=List.getElem?_eq_none_iff.1 b;have J:t % (x::xs).length<(x::xs).length:=Nat.mod_lt _ (by simp);omega
     refine⟨trivial,List.nodup_nil,λi b=>(by cases b),?_⟩;intro i;induction i using Nat.strongRecOn with
     | ind i C=>
       intro b;refine .inr ((hd i b).1 ?_);cases y:listed.getD i true with
       |true=>rfl
       | false=>
         have:i∈rs:=(g i).2 ⟨b,y,ops[i],Array.getElem?_eq_getElem b,λe p hb=>by
          have D:=d i ops[i] (Array.getElem?_eq_getElem b) e p hb;have f:e.on<ops.size:=by omega
          rcases C e.on D f with h|h
          . cases h
          . rw[q e.on f];exact(hd e.on f).2 h⟩
         rw[r]at this;cases this
   | some i=>
     simp only[];rw[linearise_go_acc,List.reverse_singleton,List.singleton_append];have E:=List.mem_of_getElem? b;obtain⟨n,s,o,w,u⟩:=(g i).1 E;have k:i∉done:=λh=>by have:=(hd i n).2 h;rw[s]at this;cases this
     have l:∀j,j<ops.size->((listed.setIfInBounds i true).getD j true=if j=i then true else listed.getD j true):=λj c=>by
      by_cases a:j=i
      . subst a;rw[if_pos rfl];simp[m,c]
      . rw[if_neg a];exact getD_set_ne true (Ne.symm a)
     obtain⟨K,L,F,M⟩:=I (t / rs.length) (listed.setIfInBounds i true) (i::done) (by simpa using m) (λj c=>by
      rw[l j c];by_cases a:j=i
      . simp[a]
      . rw[if_neg a,hd j c];exact⟨λh=>List.mem_cons_of_mem _ h,λh=>(List.mem_cons.1 h).resolve_left a⟩) (by
      have N:(List.range ops.size).filter (λj=>!(listed.setIfInBounds i true).getD j true)=((List.range ops.size).filter (λj=>!listed.getD j true)).filter (· !=i):=by
       rw[List.filter_filter];refine List.filter_congr λj c=>?_
       rw[l j (List.mem_range.1 c)];by_cases a:j=i<;>simp[a]
      rw[N];have:(((List.range ops.size).filter (λj=>!listed.getD j true)).filter (· !=i)).length<((List.range ops.size).filter (λj=>!listed.getD j true)).length:=List.length_filter_lt_length_iff_exists.2 ⟨i,List.mem_filter.2 ⟨List.mem_range.2 n,by rw[s];rfl⟩,by simp⟩;omega)
     refine⟨⟨λj c=>?_,k,K⟩,List.nodup_cons.2 ⟨λh=>(F i h).1 (by simp),L⟩,λj c=>?_,λj c=>?_⟩
     . unfold ga at c
       rw[w]at c;obtain⟨e,p,hb⟩:=List.any_eq_true.1 c;simp only[Bool.and_eq_true,beq_iff_eq]at hb;have v:e∈o.after:=by simpa using p
       have B:=u e v hb.1;have J:=d i o w e v hb.1;have G:e.on<ops.size:=by omega
       rw[q _ G]at B;rw[<-hb.2];exact(hd _ G).1 B
     . rcases List.mem_cons.1 c with e|e
       . subst e;exact⟨k,n⟩
       . exact⟨λh=>(F j e).1 (by simp[h]),(F j e).2⟩
     . rcases M j c with h|h
       . exact .inl (by simp[h])
       . rcases List.mem_cons.1 h with e|e
         . exact .inl (by simp[e])
         . exact .inr e
theorem xB(a:∀i o,ops[i]?=some o->∀e∈o.after,Region.binds .any e=true->e.on<i)(t:Nat):
 gW ops [] (Region.linearise .any ops t)/\(Region.linearise .any ops t).Nodup/\(∀i,i∈Region.linearise .any ops t↔i<ops.size):=by
 obtain⟨b,c,d,f⟩:=xA a ops.size t (Array.replicate ops.size false) [] (by simp) (λi g=>by simp[g]) (by exact Nat.le_trans (List.length_filter_le _ _) (Nat.le_of_eq List.length_range));refine⟨b,c,λi=>⟨λh=>(d i h).2,λh=>?_⟩⟩;rcases f i h with h|h
 . exact h
 . cases h
end
section
variable{P:Program}{m:Mo}{fid n:Nat}{ro:Option Nat}{D:List kL}{rc:Rec}{K:Exit->St->Prop}{k:List Item}{ops:Array Oper}{Kp:AV->aa->Prop}
def Any(P:Program)(m:Mo)(ops:Array Oper)(n:Nat)(Kp:AV->aa->Prop)(done rest:List Nat)(env:Env)(σ:aa)(R:Env->aa->Prop):Prop:=∀l,gW ops done l->l.Nodup->(∀i,i∈l↔i∈rest)->ci P m ops n Kp l env σ R
theorem Go.draw{id:Nat}(j:P.follows .mixedOrders=true)(l:nG ops=true){env:Env}{σ:aa}
 (h:Any P m ops n (λv σ=>∀env,K (.panic v) ⟨env,σ,D,rc⟩) [] (List.range ops.size) env σ (λenv σ=>Go P m fid n ro k ⟨env,σ,D,rc⟩ K)):Go P m fid n ro (.code (.region id ops true)::k) ⟨env,σ,D,rc⟩ K:=by
 intro Q d O tmps defs kind cs o p q;refine .step (λr s g=>r=d/\s=O/\∃t,g=G ⟨fid,tmps,.inRegion ops (Region.linearise .any ops t)::k,defs,.run,kind,ro⟩ (eX rc cs)) rfl ?_ ?_
 . rintro _ _ _ ⟨rfl,rfl,t,rfl⟩
   obtain⟨u,y,z⟩:=xB (tA l) t;have:=h _ u y (λi=>by rw[z,List.mem_range]);exact Go.pw (D:=D) (rc:=rc) _ env σ (λv env σ A=>A env) this _ _ _ tmps defs kind cs o p q
 . intro w a
   refine⟨G ⟨fid,tmps,.inRegion ops (Region.linearise .any ops (w.tape w.drawn (.order fid id)))::k,defs,.run,kind,ro⟩ (eX rc cs),{w with drawn:=w.drawn+1},#[],d,O,?_,?_,?_,rfl,rfl,_,rfl⟩
   . simp[G,stepG,stepG.exec,choose,Sem.run,Question.forced,Question.cut,Region.schedule,j]
   . exact{le:=.refl _,size:=Nat.le_refl _,keep:=λ_ _ _=>rfl,tail:=λb n _ _ c e h=>⟨c,h,rfl,λ_ _=>rfl⟩,part:=λb n _ _ c e h=>⟨c,h,rfl,λ_ _=>rfl⟩,shape:=λ_ _=>rfl,own:=λb x h=>.inl ⟨x,h,.refl x⟩,cell:=λ_ _ _ h=>.inl h,sh:=λ_ _ h=>.inl h,evs:=λe h=>by simp at h,tape:=rfl,output:=rfl,os:=rfl,low:=λe h=>by simp at h,tok:=λ_ f h=>⟨f,h⟩}
   . exact⟨a.apart,a.cell,a.sh,a.obj,a.tail,a.part⟩
def gX(P:Program)(m:Mo)(ops:Array Oper)(n:Nat)(Kp:AV->aa->Prop)(i:Nat)(env:Env)(σ:aa)(R:Env->aa->Prop):Prop:=
 ∃ o,ops[i]?=some o/\Oper.ok n o=true/\
   ((bK ops n env o/\Jk P m o env σ (λa b=>R (aV env o.dst a) b) Kp)\/(jN ops n env o/\R (aV env o.dst (.lit (.tuple #[]))) σ))
section
variable(L:jg P)
instance(n:Int):Decidable (fits n):=by unfold fits;infer_instance
def tB(op:BinOp)(kd:IntKind)(a b:Int):Option Value:=
 match op,kd with
 |.add,.i64=>if fits (a+b)then some (.int .i64 (a+b))else none
 |.sub,.i64=>if fits (a-b)then some (.int .i64 (a-b))else none
 |.mul,.i64=>if fits (a*b)then some (.int .i64 (a*b))else none
 |.eql,_=>some (.bool (a==b))
 |.neq,_=>some (.bool (a !=b))
 |.lss,_=>some (.bool (decide (a<b)))
 |.leq,_=>some (.bool (decide (a<=b)))
 |.gtr,_=>some (.bool (decide (a>b)))
 |.geq,_=>some (.bool (decide (a>=b)))
 |.shl,_=>if 0<=b then some (.int kd (kd.wrap (a*2 ^ (min b.toNat kd.bits))))else none
 |.shr,_=>if 0<=b then some (.int kd (a.fdiv (2 ^ (min b.toNat kd.bits))))else none
 |op,kd=>n8 op kd a b
theorem xC{op:BinOp}{kd:IntKind}{a b:Int}{v:Value}{R:Value->Prop}(h:tB op kd a b=some v)(c:R v):oD op kd a b R:=by
 unfold tB at h;unfold oD;split at h
 . split at h
   . next d=>cases h;exact⟨d,c⟩
   . cases h
 . split at h
   . next d=>cases h;exact⟨d,c⟩
   . cases h
 . split at h
   . next d=>cases h;exact⟨d,c⟩
   . cases h
 . cases h;exact c
 . cases h;exact c
 . cases h;exact c
 . cases h;exact c
 . cases h;exact c
 . cases h;exact c
 . split at h
   . next d=>cases h;exact⟨d,c⟩
   . cases h
 . split at h
   . next d=>cases h;exact⟨d,c⟩
   . cases h
 . split<;>first|contradiction|exact⟨v,h,c⟩
def sA(mu:List Nat)(o:Oper)(env:Env):Option AV:=
 match o.op with
 |.move x|.assign x=>some (am env x)
 | .pick c a b=>match am env c with
   |.lit (.bool x)=>some (if x then am env a else am env b)
   |_=>none
 |.box _ x=>if(match o.dst with|some d=>mu.contains d|none=>false)=true then none else if(am env x).cells.all AV.flat=true then some (.cp (am env x) 0)else none
 | .load t p=>match L.tt t,am env p with
   |some i,.cp v off=>bX v.cells off i.size i.agg
   |some i,.kp _ l hole off=>Ji l hole off i.size i.agg
   |_,_=>none
 | .fieldAddr s x j=>match L.tt s with
   | some ⟨.struct,_,_,_,gQ⟩=>(match gQ[j]? with
     |some f=>if f.2.1≠0 then pj (am env x) f.1 else none
     |none=>none)
   |_=>none
 | .field s x j=>match L.tt s,am env x with
   | some ⟨.struct,_,_,_,gQ⟩,.agg l=>(match gQ[j]? with
     |some f=>(match L.tt f.2.2 with|some n=>bX l f.1 n.size n.agg|none=>none)
     |none=>none)
   |_,_=>none
 | .indexAddr t x h=>match L.tt t with
   | some ⟨.slice e,_,_,_,_⟩=>(match L.tt e,am env x,am env h with
     |some g,.sl q es _,.lit (.int _ z)=>if q=g.size/\0<=z then(es[z.toNat]?).map (λa=>.cp a 0)else none
     |some g,.eu b off len _,.lit (.int _ z)=>if 0<=z/\z<len then some (.ref b (off+z.toNat*g.size))else none
     |_,_,_=>none)
   | some ⟨.array k e,_,_,_,_⟩=>(match L.tt e,am env h with
     |some g,.lit (.int _ z)=>if 0<=z/\z<k then pj (am env x) (z.toNat*g.size)else none
     |_,_=>none)
   |_=>none
 | .index t x h=>match L.tt t with
   | some ⟨.array k e,_,_,_,_⟩=>(match L.tt e,am env x,am env h with
     |some g,.agg l,.lit (.int _ z)=>if 0<=z/\z<k then bX l (z.toNat*g.size) g.size g.agg else none
     |_,_,_=>none)
   |_=>none
 | .binOp op t x y _=>match L.tt t with
   | some ⟨.int _,_,_,_,_⟩=>(match am env x,am env y with
     |.lit (.int kd a),.lit (.int m b)=>if kd=m\/op=.shl\/op=.shr then(tB op kd a b).map .lit else none
     |_,_=>none)
   |_=>none
 | .unOp .not _ x=>match am env x with
   |.lit (.bool b)=>some (.lit (.bool !b))
   |_=>none
 | .convert s t x=>match L.tt s,L.tt t,am env x with
   |some ⟨.int _,_,_,_,_⟩,some ⟨.int kd,_,_,_,_⟩,.lit (.int _ a)=>some (.lit (.int kd (kd.wrap a)))
   |_,_,_=>none
 | .makeInterface t x=>match L.tt t with
   |some i=>if i.kind≠.iface then some (.mS t (am env x))else none
   |none=>none
 |.makeFunc f fs cs=>some (.fn f (fs.toList.map (am env)) (cs.toList.map (am env)))
 | .extract x j=>match am env x with
   |.cq l=>l[j]?
   |_=>none
 | .nilCheck x=>match am env x with
   |.cp v off=>some (.cp v off)
   |.ref b off=>some (.ref b off)
   |.kp b l hole off=>some (.kp b l hole off)
   |_=>none
 | .call c=>match c.callee,c.args.toList with
   | .builtin .len,[x]=>(match c.argTypes[0]? with
     | some t=>(match L.tt t with
       | some ⟨.slice _,_,_,_,_⟩=>(match am env x with
         |.sl _ es _=>some (.lit (.int .i64 es.length))
         |.lit (.slice none 0 0)=>some (.lit (.int .i64 0))
         |.eu _ _ len _=>some (.lit (.int .i64 len))
         |_=>none)
       |_=>none)
     |none=>none)
   |_,_=>none
 |_=>none
theorem tC{mu:List Nat}{o:Oper}{env:Env}{a:AV}(h:sA L mu o env=some a):(∀c,o.op≠.defer c)/\A8 P o env a:=by
 have key:og L o=true/\∀(K:AV->aa->Prop) σ,K a σ->Nh L mu o env σ K (λ_ _=>False):=by
  unfold sA at h;unfold og Nh;split at h
  . next x m=>simp only[m];cases h;exact⟨by first|rfl|trivial,λK σ g=>g⟩
  . next x m=>simp only[m];cases h;exact⟨by first|rfl|trivial,λK σ g=>g⟩
  . next c x y m=>
    simp only[m];split at h
    . next b hb=>simp only[hb];cases h;exact⟨by first|rfl|trivial,λK σ g=>g⟩
    . cases h
  . next t x m=>
    simp only[m];by_cases J:(match o.dst with|some d=>mu.contains d|none=>false)=true
    . rw[if_pos J]at h;cases h
    . rw[if_neg J]at h
      by_cases A:(am env x).cells.all AV.flat=true
      . rw[if_pos A]at h;cases h;exact⟨trivial,λK σ g=>⟨A,(if_neg (c:=_=true) J).symm ▸ g⟩⟩
      . rw[if_neg A]at h;cases h
  . next t p m=>
    simp only[m];split at h
    . next i v off F M=>simp only[F,M];exact⟨by first|rfl|trivial,λK σ g=>⟨a,h,g⟩⟩
    . next i b l hole off F M=>simp only[F,M];exact⟨by first|rfl|trivial,λK σ g=>⟨a,h,g⟩⟩
    . cases h
  . next s x j m=>
    simp only[m];split at h
    . next B C D gQ G=>
      simp only[G];split at h
      . next f A=>
        split at h
        . next N=>exact⟨by first|rfl|trivial,λK σ g=>by simp only[A];exact⟨N,a,h,g⟩⟩
        . cases h
      . cases h
    . cases h
  . next s x j m=>
    simp only[m];split at h
    . next B C D gQ l G n=>
      simp only[G,n];split at h
      . next f A=>
        split at h
        . next fi H=>exact⟨by first|rfl|trivial,λK σ g=>by rename_i A _ H;simp only[A,H];exact⟨a,h,g⟩⟩
        . cases h
      . cases h
    . cases h
  . next t x U m=>
    simp only[m];split at h
    . next e B C D I w=>
      simp only[w];split at h
      . next O T es sp kd z E n q=>
        simp only[E,n,q];split at h
        . next r=>obtain⟨y,Q,R⟩:=Option.map_eq_some_iff.1 h;exact⟨by first|rfl|trivial,λK σ g=>⟨r.1,r.2,y,Q,by rw[R];exact g⟩⟩
        . cases h
      . next O b off len cap kd z E n q=>
        simp only[E,n,q];split at h
        . next r=>cases h;exact⟨by first|rfl|trivial,λK σ g=>⟨r,g⟩⟩
        . cases h
      . cases h
    . next k e B C D I w=>
      simp only[w];split at h
      . next O kd z E q=>
        simp only[E,q];split at h
        . next r=>exact⟨by first|rfl|trivial,λK σ g=>⟨r,a,h,g⟩⟩
        . cases h
      . cases h
    . cases h
  . next t x U m=>
    simp only[m];split at h
    . next k e B C D I w=>
      simp only[w];split at h
      . next O l kd z E n q=>
        simp only[E,n,q];split at h
        . next r=>exact⟨by first|rfl|trivial,λK σ g=>⟨r,a,h,g⟩⟩
        . cases h
      . cases h
    . cases h
  . next op t x y t2 m=>
    simp only[m];split at h
    . next T B C D I w=>
      simp only[w];split at h
      . next kd u V v n W=>
        simp only[n,W];split at h
        . next X=>obtain⟨y,Q,R⟩:=Option.map_eq_some_iff.1 h;refine⟨by first|rfl|trivial,λK σ g=>⟨X,xC Q (by rw[R];exact g)⟩⟩
        . cases h
      . cases h
    . cases h
  . next t x m=>
    simp only[m];split at h
    . next b hb=>simp only[hb];cases h;exact⟨by first|rfl|trivial,λK σ g=>g⟩
    . cases h
  . next s t x m=>
    simp only[m];split at h
    . next k1 B C D I kd b1 b2 b3 b4 kx u G w n=>simp only[G,w,n];cases h;exact⟨by first|rfl|trivial,λK σ g=>g⟩
    . cases h
  . next t x m=>
    simp only[m];split at h
    . next i F=>
      simp only[F];split at h
      . next r=>cases h;exact⟨by first|rfl|trivial,λK σ g=>⟨r,g⟩⟩
      . cases h
    . cases h
  . next f fs cs m=>simp only[m];cases h;exact⟨by first|rfl|trivial,λK σ g=>g⟩
  . next x j m=>
    simp only[m];split at h
    . next l Y=>simp only[Y];exact⟨by first|rfl|trivial,λK σ g=>⟨a,h,g⟩⟩
    . cases h
  . next x m=>
    simp only[m];split at h
    . next v off n=>simp only[n];cases h;exact⟨by first|rfl|trivial,λK σ g=>⟨trivial,g⟩⟩
    . next b off n=>simp only[n];cases h;exact⟨by first|rfl|trivial,λK σ g=>⟨trivial,g⟩⟩
    . next b l hole off n=>simp only[n];cases h;exact⟨by first|rfl|trivial,λK σ g=>⟨trivial,g⟩⟩
    . cases h
  . next c m=>
    simp only[m];split at h
    . next x r Z=>
      simp only[r,Z];split at h
      . next t N=>
        split at h
        . next e B C D I w=>
          simp only[N,w];split at h
          . next T es sp n=>simp only[n];cases h;exact⟨by first|rfl|trivial,λK σ g=>g⟩
          . next n=>simp only[n];cases h;exact⟨by first|rfl|trivial,λK σ g=>g⟩
          . next n=>simp only[n];cases h;exact⟨by first|rfl|trivial,λK σ g=>g⟩
          . cases h
        . cases h
      . cases h
    . cases h
  . cases h
 refine⟨λc e=>?_,λσ=>Dy L key.1 (key.2 (λa' S=>a'=a/\S=σ) σ ⟨rfl,rfl⟩)⟩;have:=key.1;unfold og at this;rw[e]at this;cases this
def rx(o:Oper)(env:Env)(σ:aa):Option AV:=
 match o.op with
 | .load t p=>match L.tt t with
   |some i=>mH i σ (am env p)
   |none=>none
 |_=>none
theorem ry{o:Oper}{env:Env}{σ:aa}{a:AV}(h:rx L o env σ=some a):(∀c,o.op≠.defer c)/\px P o env σ a:=by
 unfold rx at h;split at h
 . next t p b=>
   split at h
   . next i d=>exact⟨λc e=>(by rw[b]at e;cases e),xu L b d h ⟨rfl,rfl⟩⟩
   . cases h
 . cases h
def il(mu:List Nat)(ops:Array Oper)(n:Nat)(lt:Bool)(σ:aa):List Nat->Env->(Env->Prop)->Prop
 |[],env,K=>K env
 | i :: S,env,K=>match ops[i]? with
   | some o=>Oper.ok n o=true/\o.dst.isSome=true/\oE ops n env o (match sA L mu o env with
      |some a=>il mu ops n lt σ S (aV env o.dst a) K
      | none=>lt=true/\(match rx L o env σ with
        |some a=>il mu ops n lt σ S (aV env o.dst a) K
        |none=>False)) (il mu ops n lt σ S (aV env o.dst (.lit (.tuple #[]))) K)
   |none=>False
def ascending:List Nat->Bool
 |i::j::l=>Nat.blt i j && ascending (j::l)
 |_=>true
theorem mX{i:Nat}:∀{l:List Nat},ascending (i::l)=true->ascending l=true/\∀j∈l,i<j
 |[],_=>⟨rfl,λ_ h=>by cases h⟩
 | a::l,h=>by
   simp only[ascending,Bool.and_eq_true,Nat.blt_eq]at h;obtain⟨c,d⟩:=h;have e:=mX d;refine⟨d,λj b=>?_⟩;rcases List.mem_cons.1 b with rfl|b
   . exact c
   . exact Nat.lt_trans c (e.2 j b)
theorem tD{mu rest:List Nat}{σ:aa}{lt:Bool}(p:List Nat)(D:jF ops rest p=true)(m:lt=true->∀i∈p,late ops rest p i=true):∀(S:List Nat) (env:Env) (K:Env->Prop),ascending S=true->(∀i∈S,i∈p/\i∈rest)->il L mu ops n lt σ S env K ->
 ∃f,K f/\(∀i∈S,xz P ops n rest p f σ i)/\∀t,(∀i∈S,∀o,ops[i]?=some o->o.dst≠some t)->f t=env t
 |[],env,K,_,_,h=>⟨env,h,λ_ W=>(by cases W),λ_ _=>rfl⟩
 | i :: S, env,K,E,l,h=>by
   obtain⟨E,z⟩:=mX E;unfold il at h;split at h
   . next o w=>
     obtain⟨F,G,h⟩:=h;obtain⟨d,hd⟩:=Option.isSome_iff_exists.1 G
     have main:∀a,il L mu ops n lt σ S (aV env o.dst a) K->((bK ops n env o/\(∀c,o.op≠.defer c)/\(A8 P o env a\/(late ops rest p i=true/\px P o env σ a)))\/(jN ops n env o/\a=.lit (.tuple #[])))->∃f,K f/\(∀j∈i::S,xz P ops n rest p f σ j)/\∀t,(∀j∈i::S,∀o,ops[j]?=some o->o.dst≠some t)->f t=env t:=by
      intro a X q;obtain⟨f,Y,Z,H⟩:=tD p D m S _ K E (λj g=>l j (by simp[g])) X
      have k:∀t∈cP ops o,f t=env t:=λt A=>by
       have I:∀j∈S,∀y,ops[j]?=some y->y.dst≠some t:=λj g y s u=>by
        obtain⟨J,_⟩:=iy D (l i (by simp)).2 (l j (by simp[g])).2 w s u;have:=(((J A).1 (l i (by simp)).1).1 (l j (by simp[g])).1).2;have:=z j g;omega
       rw[H t I,iQ];by_cases B:o.dst=some t
       . obtain⟨J,_⟩:=iy D (l i (by simp)).2 (l i (by simp)).2 w w B
         have:=(((J A).1 (l i (by simp)).1).1 (l i (by simp)).1).2;omega
       . rw[if_neg B]
      have r:f d=a:=by
       rw[H d (λj g y s u=>by
        obtain⟨_,c2⟩:=iy D (l i (by simp)).2 (l j (by simp[g])).2 w s u;exact c2 (l i (by simp)).1 (by have:=z j g;omega) hd),iQ,if_pos hd]
      refine⟨f,Y,λj g=>?_,λt A=>?_⟩
      . rcases List.mem_cons.1 g with rfl|g
        . refine⟨o,w,F,?_⟩
          rcases q with⟨q,M,N⟩|⟨q,rfl⟩
          . refine .inl ⟨q.congr k,d,hd,M,?_⟩
            rw[r];have V:∀σ,aE P o env σ (λO v=>O=a/\v=σ) (λ_ _=>False)->aE P o f σ (λO v=>O=a/\v=σ) (λ_ _=>False):=λσ h=>h.congr λx Q=>mW λt e=>k t (mem_reads (by rw[<-e];exact Q))
            exact N.imp (λh σ=>V σ (h σ)) (λh=>⟨h.1,V σ h.2⟩)
          . exact .inr ⟨q.congr k,d,hd,r⟩
        . exact Z j g
      . rw[H t (λj g=>A j (by simp[g])),iQ,if_neg (A i (by simp) o w)]
     rcases pv h with⟨q,h⟩|⟨j,b,x,d',y,hg,g,R,T,Q,U,h⟩
     . split at h
       . next a C=>exact main a h (.inl ⟨q,(tC L C).1,.inl (tC L C).2⟩)
       . obtain⟨hl,h⟩:=h
         split at h
         . next a C=>exact main a h (.inl ⟨q,(ry L C).1,.inr ⟨m hl i (l i (by simp)).1,(ry L C).2⟩⟩)
         . exact h.elim
     . exact main (.lit (.tuple #[])) h (.inr ⟨⟨j,b,x,d',y,hg,g,R,T,Q,U⟩,rfl⟩)
   . exact h.elim
theorem Any.hoist(mu:List Nat)(S:List Nat){done rest:List Nat}{env:Env}{σ:aa}{R:Env->aa->Prop}(hd:∀i∈rest,i∉done)(k:∀i∈S,i∈rest)(q:∀i∈rest,(ops[i]?).isSome=true)(r:ascending S=true)(p:jF ops rest S=true){lt:Bool}(c:lt=true->∀i∈S,late ops rest S i=true)
 (h:il L mu ops n lt σ S env (λb=>Any P m ops n Kp (S++done) (rest.filter λi=>!S.contains i) b σ R)):Any P m ops n Kp done rest env σ R:=by
 intro l e g d;obtain⟨b,s,u,v⟩:=tD L S p c S env _ r (λi a=>⟨a,k i a⟩) h
 refine bG.hoist p l done env b σ (λi a=>(d i).1 a) e (λi a=>hd i ((d i).1 a)) g (λi a=>Option.isSome_iff_exists.1 (q i ((d i).1 a))) (λi _ j=>u i j)
  (λt w=>v t λi a o x=>w i ((d i).2 (k i a)) a o x) ?_
 refine s _ (gW.sub (λi=>!S.contains i) l done (S++done) e (λi a=>by simp[a]) (λi _ f=>by simp at f;simp[f]) (λi a f=>?_) g) (g.filter _) (λi=>by simp[List.mem_filter,d i]);simp at f;simp[f,hd i ((d i).1 a)]
def xD(ops:Array Oper)(done rest S:List Nat):Bool:=(rest.all λi=>!done.contains i && (ops[i]?).isSome) && (S.all λi=>rest.contains i) && ascending S && jF ops rest S
theorem Any.take(mu:List Nat)(S:List Nat){done rest:List Nat}{env:Env}{σ:aa}{R:Env->aa->Prop}(lt:Bool)(d:xD ops done rest S=true)(a:lt=true->(S.all λi=>late ops rest S i)=true)
 (h:il L mu ops n lt σ S env (λc=>Any P m ops n Kp (S++done) (rest.filter λi=>!S.contains i) c σ R)):Any P m ops n Kp done rest env σ R:=by
 simp only[xD,Bool.and_eq_true,List.all_eq_true]at d;obtain⟨⟨⟨f,g⟩,j⟩,k⟩:=d;exact Any.hoist L mu S (λi b=>by simpa using(f i b).1) (λi b=>by simpa using g i b) (λi b=>(f i b).2) j k (λe i b=>List.all_eq_true.1 (a e) i b) h
end
end
attribute [simp] il sA rx tB
section
variable{P:Program}{m:Mo}{n:Nat}{ops:Array Oper}{Kp:AV->aa->Prop}
theorem ci.mono{R c:Env->aa->Prop}(b:∀env σ,R env σ->c env σ):∀(l:List Nat) (env:Env) (σ:aa),ci P m ops n Kp l env σ R->ci P m ops n Kp l env σ c
 |[],env,σ,h=>b _ _ h
 |i::l,env,σ,⟨o,d,e,f⟩=>⟨o,d,e,f.imp (λh=>⟨h.1,h.2.mono λa g=>ci.mono b l _ _⟩) (λh=>⟨h.1,ci.mono b l _ _ h.2⟩)⟩
theorem il.mono(L:jg P){mu:List Nat}{lt:Bool}{σ:aa}{K c:Env->Prop}(b:∀env,K env->c env):∀{S:List Nat}{env:Env},il L mu ops n lt σ S env K->il L mu ops n lt σ S env c
 |[],env,h=>b _ h
 | i :: S,env,h=>by
   unfold il at h ⊢;split at h
   . next o d=>
     try simp only[d]
     refine⟨h.1,h.2.1,?_⟩;have h:=h.2.2;unfold oE at h ⊢
     have main:∀{x:Option AV}{y:Option AV},(match x with|some a=>il L mu ops n lt σ S (aV env o.dst a) K|none=>lt=true/\(match y with|some a=>il L mu ops n lt σ S (aV env o.dst a) K|none=>False)) ->
      (match x with|some a=>il L mu ops n lt σ S (aV env o.dst a) c|none=>lt=true/\(match y with|some a=>il L mu ops n lt σ S (aV env o.dst a) c|none=>False)):=by
      intro x y h;cases x with
      |some a=>exact il.mono L b h
      | none=>
        refine⟨h.1,?_⟩;cases y with
        |some a=>exact il.mono L b h.2
        |none=>exact h.2
     split at h
     . exact main h
     . split at h
       . refine⟨h.1,?_⟩
         have h:=h.2;split at h
         . exact⟨λe=>main (h.1 e),λe=>il.mono L b (h.2 e)⟩
         . exact il.mono L b h
         . exact h
       . exact h
   . exact h
inductive jl where
 |done
 |take (S:List Nat) (lt:Bool) (p:jl)
 |one (i:Nat) (p:jl)
 |both (i:Nat) (p q:jl)
structure Entry where
 id:Nat
 Pm:jl
def dO(ops:Array Oper):jl->List Nat->List Nat->List Nat->Bool
 |.done,_,_,rest=>rest.isEmpty
 |.take S lt p,ex,done,rest=>ex.isEmpty && xD ops done rest S && (!lt||S.all λi=>late ops rest S i) && dO ops p [] (S++done) (rest.filter λi=>!S.contains i)
 |.one i p,ex,done,rest=>rest.contains i && (rest.all λj=>!done.contains j) && (rest.all λj=>j==i||ex.contains j||(rest.any λx=>ga ops x j)) && dO ops p [] (i::done) (rest.filter (· !=i))
 |.both i p q,ex,done,rest=>rest.contains i && dO ops p [] (i::done) (rest.filter (· !=i)) && dO ops q (i::ex) done rest
def xE(ops:Array Oper)(e:Entry):Bool:=nG ops && dO ops e.Pm [] [] (List.range ops.size)
def Pn(P:Program)(m:Mo)(ops:Array Oper)(n:Nat)(Kp:AV->aa->Prop)(ex done rest:List Nat)(env:Env)(σ:aa)(R:Env->aa->Prop):Prop:=∀l,gW ops done l->l.Nodup->(∀i,i∈l↔i∈rest)->(∀i a,l=i::a->i∉ex)->ci P m ops n Kp l env σ R
def im(P:Program)(m:Mo)(ops:Array Oper)(n:Nat)(Kp:AV->aa->Prop)(p:jl)(env:Env)(σ:aa)(R:Env->aa->Prop):Prop:=∀ex done rest,dO ops p ex done rest=true->Pn P m ops n Kp ex done rest env σ R
theorem FZ{i:Nat}{l rest:List Nat}(f:(i::l).Nodup)(d:∀j,j∈i::l↔j∈rest)(j:Nat):j∈l↔j∈rest.filter (· !=i):=by
 have b:i∉l:=(List.nodup_cons.1 f).1;simp only[List.mem_filter,bne_iff_ne,ne_eq];constructor
 . intro a
   exact⟨(d j).1 (by simp[a]),λe=>b (e ▸ a)⟩
 . intro⟨a,c⟩
   rcases List.mem_cons.1 ((d j).2 a)with e|e
   . exact absurd e c
   . exact e
theorem ci.F0{i:Nat}{l ex done rest:List Nat}{p:jl}{env:Env}{σ:aa}{R:Env->aa->Prop}(c:gW ops done (i::l))(b:(i::l).Nodup)(d:∀j,j∈i::l↔j∈rest)
 (e:dO ops p [] (i::done) (rest.filter (· !=i))=true) (h:gX P m ops n Kp i env σ (λenv σ=>im P m ops n Kp p env σ R)):ci P m ops n Kp (i::l) env σ R:=by
 have next:∀env σ,im P m ops n Kp p env σ R->ci P m ops n Kp l env σ R:=λenv σ h=>h [] _ _ e l c.2.2 (List.nodup_cons.1 b).2 (FZ b d) (λ_ _ _ h=>by cases h)
 obtain⟨o,f,g,k⟩:=h;exact⟨o,f,g,k.imp (λh=>⟨h.1,h.2.mono λa q=>next _ _⟩) (λh=>⟨h.1,next _ _ h.2⟩)⟩
theorem im.done{env:Env}{σ:aa}{R:Env->aa->Prop}(h:R env σ):im P m ops n Kp .done env σ R:=λex done rest a l _ _ b _=>by
 simp only[dO,List.isEmpty_iff]at a;subst a;cases l with
 |nil=>exact h
 |cons i l=>exact absurd ((b i).1 (by simp)) (by simp)
theorem im.take(L:jg P)(mu:List Nat){S:List Nat}{lt:Bool}{p:jl}{env:Env}{σ:aa}{R:Env->aa->Prop}(h:il L mu ops n lt σ S env (λd=>im P m ops n Kp p d σ R)):im P m ops n Kp (.take S lt p) env σ R:=by
 intro ex done rest f;simp only[dO,Bool.and_eq_true]at f;obtain⟨⟨⟨k,i⟩,g⟩,j⟩:=f;have:=Any.take (m:=m) (Kp:=Kp) (R:=R) L mu S lt i (λe=>by rw[e]at g;simpa using g) (il.mono L (λd h=>λl a b c=>h [] _ _ j l a b c (λ_ _ _ h=>by cases h)) h);exact λl a b c _=>this l a b c
theorem im.one{i:Nat}{p:jl}{env:Env}{σ:aa}{R:Env->aa->Prop}(h:gX P m ops n Kp i env σ (λenv σ=>im P m ops n Kp p env σ R)):im P m ops n Kp (.one i p) env σ R:=by
 intro ex done rest f l g k a o;simp only[dO,Bool.and_eq_true,List.all_eq_true,Bool.or_eq_true,beq_iff_eq,List.any_eq_true]at f;obtain⟨⟨⟨q,hd⟩,r⟩,s⟩:=f;have b:i∈rest:=by simpa using q
 cases l with
 |nil=>exact absurd ((a i).2 b) (by simp)
 | cons j l=>
   have c:j∈rest:=(a j).1 (by simp)
   have d:j=i:=by
    rcases r j c with(h|h)|⟨x,e,h⟩
    . exact h
    . exact absurd (by simpa using h) (o j l rfl)
    . have:=hd x e
      exact absurd (g.1 x h) (by simpa using this)
   subst d;exact ci.F0 (ex:=ex) g k a s h
theorem im.both{i:Nat}{p q:jl}{env:Env}{σ:aa}{R:Env->aa->Prop}(h:gX P m ops n Kp i env σ (λenv σ=>im P m ops n Kp p env σ R))(k:im P m ops n Kp q env σ R):im P m ops n Kp (.both i p q) env σ R:=by
 intro ex done rest d l f g a o;simp only[dO,Bool.and_eq_true]at d;obtain⟨⟨r,s⟩,t⟩:=d;have c:i∈rest:=by simpa using r
 cases l with
 |nil=>exact absurd ((a i).2 c) (by simp)
 | cons j l=>
   by_cases b:j=i
   . subst b
     exact ci.F0 (ex:=ex) f g a s h
   . exact k _ _ _ t _ f g a λx u e=>by
      cases e;intro a;rcases List.mem_cons.1 a with e|e
      . exact b e
      . exact o _ _ rfl e
theorem oh{id:Nat}:∀{k k':List Item},exitTo id k=some k'->∀x∈k',x∈k
 |[],k',h=>by simp[exitTo]at h
 | i::k,k',h=>by
   have again:exitTo id k=some k'->∀x∈k',x∈i::k:=λh x a=>List.mem_cons_of_mem _ (oh h x a)
   cases i<;>simp only[exitTo]at h<;>first|exact again h|skip
   split at h
   . cases h;exact λx a=>List.mem_cons_of_mem _ a
   . exact again h
end
section
variable{P:Program}(L:jg P)
def lY(fn:Func)(k:Nat):Bool:=Nat.ble k fn.ntmps && fn.results.toList.all (ResultVar.ok fn.ntmps)
end
attribute [simp] List.find?
theorem iR{k:ag}{O:ah}{r:Nat}{c:Array Value}{e:TypeId}{x:Nat × Nat}(g:O r=some (.obj (.cells c e x))):jM k O (k.dv r (e,c.size)) O:=λw h=>by
 have t:=h.obj _ _ g;have d:w.shape? r=some (e,c.size):=by simp[World.shape?,t]
 refine⟨⟨h.apart,h.cell,λb s hb=>?_,h.obj,λb n hb=>?_,λb n hb=>?_⟩,⟨⟨λ_ _ _ h=>h,λb s j=>?_⟩,Nat.le_refl _,λ_ _ _=>rfl,λ_ _ _ _ c _ h=>⟨c,h,rfl,λ_ _=>rfl⟩,λ_ _ _ _ c _ h=>⟨c,h,rfl,λ_ _=>rfl⟩,λ_ _=>rfl,λb x u=>.inl ⟨x,u,.refl x⟩,λb i v y=>.inl y,λb s j=>?_,by simp,rfl,rfl,rfl,by simp,λ_ f h=>⟨f,h⟩⟩⟩
 . by_cases a:b=r
   . subst a;simp[ag.dv]at hb;subst hb;exact d
   . exact h.sh b s (by simpa[ag.dv,a]using hb)
 . obtain⟨l,m,o,p⟩:=h.tail b n hb
   refine⟨l,m,o,?_⟩;have:b≠r:=λq=>by rw[q,g]at hb;cases hb
   simpa[ag.dv,this]using p
 . obtain⟨l,m,o,p⟩:=h.part b n hb
   refine⟨l,m,o,?_⟩;have:b≠r:=λq=>by rw[q,g]at hb;cases hb
   simpa[ag.dv,this]using p
 . by_cases a:b=r
   . subst a
     have:=h.sh _ _ j;rw[d]at this;cases this;simp[ag.dv]
   . simpa[ag.dv,a]using j
 . by_cases a:b=r
   . subst a;exact .inr (.inl ⟨_,g⟩)
   . exact .inl (by simpa[ag.dv,a]using j)
section
variable{P:Program}{m:Mo}{Q:ag->ah->Goroutine->Prop}{k:ag}{O:ah}{g:Goroutine}
theorem T.freeze{r n:Nat}{c:Array Value}{e:TypeId}(d:O r=some (.obj (.cells c e (0,0))))(b:g.status=.running)
 (h:∀k' O',k.Le k'->k'.sh r=some (e,c.size)->(∀j v,j<n->c[j]?=some v->k'.cell r j=some v)->O'=O.set r (.tail n)->T P m Q k' O' g):T P m Q k O g:=by
 by_cases a:∃w,Sat k O w
 . obtain⟨w,f⟩:=a
   have i:∀j,k.cell r j=none:=λj=>by
    cases q:k.cell r j with
    |none=>rfl
    |some v=>exact(f.apart _ _ _ q (.inl ⟨_,d⟩)).elim
   have o:=(iR (k:=k) d w f).2.le;have l:(k.dv r (e,c.size)).Le ((k.dv r (e,c.size)).th r c n):=.th i;exact .ghost (iR d) (.ghost (lW (n:=n) d (by simp[ag.dv])) (h _ _ (o.trans l) (by simp[ag.th,ag.dv]) (λj v p s=>by simp[ag.th,p,s]) rfl))
 . exact .step (λ_ _ _=>False) b (λ_ _ _ h=>h.elim) λw f=>absurd ⟨w,f⟩ a
end
theorem cY:∀{es:List AV},(∀e∈es,e.cells=[e])->flatten es=es
 |[],_=>rfl
 | e::es,h=>by
   have b:=h e (by simp);have a:=cY (es:=es) λx c=>h x (by simp[c])
   simp only[flatten]at a ⊢;rw[List.flatMap_cons,b,a];rfl
theorem V.yU{k:ag}{v:Value}{kk:Nat}{es:List AV}{sp:bV}(h:V k v (.sl kk es sp)):(∃a,v=.slice a 0 0/\es=[]/\(sp=.any\/(sp=.exact/\a.isSome=true)))\/∃(b off cap N:Nat) (E:TypeId) (c:Nat->Value),v=.slice (some ⟨b,off,none⟩) es.length cap/\es.length<=cap/\k.sh b=some (E,N)/\off+cap*kk<=N/\(∀e∈es,e.cells.length=kk)/\
 (∀j,j<(flatten es).length->k.cell b (off+j)=some (c j)/\bG.flat (c j)=true)/\(∀(j:Nat) a,(flatten es)[j]?=some a->V k (c j) a)/\sp.fits b off es.length kk cap:=by
 cases h with
 |sl b off cap _ N E _ _ c d f g i l m n=>exact .inr ⟨b,off,cap,N,E,c,rfl,d,f,g,i,l,m,n⟩
 |slnil a _ _ h=>exact .inl ⟨a,rfl,rfl,h⟩
inductive Fz(b:Nat)(l:List AV):AV->AV->Prop
 |refl (a:AV):Fz b l a a
 | sl (off cap kk:Nat) (es:List AV) (sp:bV):es.length<=cap->off+cap*kk<=l.length->(∀e∈es,e.cells.length=kk)->(∀(j:Nat) a,(flatten es)[j]?=some a->l[off+j]?=some a)->(sp=.any\/(sp=.exact/\cap=es.length)) ->
    Fz b l (.eu b off es.length cap) (.sl kk es sp)
 |fn (f:Fn) (a1 a2 c1 c2:List AV):a1.length=a2.length->c1.length=c2.length->(∀(i:Nat) a a',a1[i]?=some a->a2[i]?=some a'->Fz b l a a')->(∀(i:Nat) a a',c1[i]?=some a->c2[i]?=some a'->Fz b l a a')->Fz b l (.fn f a1 c1) (.fn f a2 c2)
 |rows (es es':List AV) (sp:bV):es.length=es'.length->(∀e∈es,e.cells=[e])->(∀e∈es',e.cells=[e])->(∀(i:Nat) a a',es[i]?=some a->es'[i]?=some a'->Fz b l a a')->Fz b l (.sl 1 es sp) (.sl 1 es' sp)
 |cp (base off:Nat) (v:AV):base+v.cells.length<=l.length->(∀(j:Nat) a,v.cells[j]?=some a->l[base+j]?=some a)->Fz b l (.ref b (base+off)) (.cp v off)
 |agg (l1 l2:List AV):l1.length=l2.length->(∀(i:Nat) a a',l1[i]?=some a->l2[i]?=some a'->Fz b l a a')->Fz b l (.agg l1) (.agg l2)
 |cq (l1 l2:List AV):l1.length=l2.length->(∀(i:Nat) a a',l1[i]?=some a->l2[i]?=some a'->Fz b l a a')->Fz b l (.cq l1) (.cq l2)
def xH(k:ag)(b:Nat)(E:TypeId)(l:List AV):Prop:=k.sh b=some (E,l.length)/\∀(j:Nat) a,l[j]?=some a->∃u,k.cell b j=some u/\V k u a/\bG.flat u=true
theorem Fz.sound{k:ag}{b:Nat}{E:TypeId}{l:List AV}{a a':AV}(h:Fz b l a a')(t:xH k b E l):∀{v:Value},V k v a->V k v a':=by
 induction h with
 |refl a=>exact λh=>h
 | sl off cap kk es sp g p q C D=>
   intro v m;cases m
   exact V.ofRow g t.1 p q (λj a r=>t.2 _ _ (C j a r)) (by
    rcases D with rfl|⟨rfl,D⟩
    . trivial
    . exact D)
 | rows es w sp g p q _ y=>
   intro v m;have f1:=cY p;have J:=cY q
   rcases m.yU with⟨P,rfl,rfl,F⟩|⟨Q,off,cap,N,R,c,rfl,q1,S,T,q4,K,L,U⟩
   . have:w=[]:=List.length_eq_zero_iff.1 g.symm
     subst this;exact .slnil P 1 sp F
   . rw[f1]at K L
     rw[g];refine .sl Q off cap 1 N R w sp c (by omega) S T (λe W=>by rw[q e W];rfl) (λj s=>K j (by rw[J]at s;omega)) (λj a r=>?_) (by rw[<-g];exact U)
     rw[J]at r;have s:j<es.length:=by have:=(List.getElem?_eq_some_iff.1 r).1;omega
     exact y j es[j] a (by simp[s]) r (L j _ (by simp[s]))
 | cp base off x hlen g=>
   intro v m;cases m;refine .cp b base off _ _ x (λj=>(k.cell b (base+j)).getD undef) t.1 hlen (λj s=>?_) (λj a r=>?_)
   . obtain⟨u,p,q,C⟩:=t.2 _ _ (g j x.cells[j] (by simp[s]))
     rw[p];exact⟨rfl,C⟩
   . obtain⟨u,p,q,C⟩:=t.2 _ _ (g j a r)
     simp only[p];exact q
 | fn f M X O Y g p _ _ G H=>
   intro v m;cases m with
   | fn _ Z p2 _ _ z A g3 g4=>
     refine .fn f Z p2 X Y (by omega) (λi u a' n d=>?_) (by omega) (λi u a' n d=>?_)
     . have o:i<M.length:=by rw[<-z];exact(Array.getElem?_eq_some_iff.1 n).1
       exact G i M[i] a' (by simp[o]) d (A i u _ n (by simp[o]))
     . have o:i<O.length:=by rw[<-g3];exact(Array.getElem?_eq_some_iff.1 n).1
       exact H i O[i] a' (by simp[o]) d (g4 i u _ n (by simp[o]))
 | agg B I g _ y=>
   intro v m;cases m with
   | agg c _ z A=>
     refine .agg c I (by omega) λi u a' n d=>?_
     have o:i<B.length:=by rw[<-z];exact(Array.getElem?_eq_some_iff.1 n).1
     exact y i B[i] a' (by simp[o]) d (A i u _ n (by simp[o]))
 | cq B I g _ y=>
   intro v m;cases m with
   | cq c _ z A=>
     refine .cq c I (by omega) λi u a' n d=>?_
     have o:i<B.length:=by rw[<-z];exact(Array.getElem?_eq_some_iff.1 n).1
     exact y i B[i] a' (by simp[o]) d (A i u _ n (by simp[o]))
def I'(b:Nat)(l:List AV)(σ σ':aa):Prop:=∀c y,σ' c=some y->c≠b/\(σ c=some y\/∃d e,σ c=some (.cells d)/\y=.cells e/\d.length=e.length/\∀(i:Nat) a f,d[i]?=some a->e[i]?=some f->Fz b l a f)
theorem I'.del(b:Nat)(l:List AV)(σ:aa):I' b l σ (σ.del b):=λc y h=>by
 unfold aa.del at h;split at h
 . cases h
 . next a=>exact⟨a,.inl h⟩
theorem I'.sound{k:ag}{O:ah}{b:Nat}{E:TypeId}{l:List AV}{σ σ':aa}(h:I' b l σ σ')(t:xH k b E l)(f:Rel k O σ)(x:Own):Rel k (O.set b x) σ':=⟨λc y g u=>by
 obtain⟨d,h⟩:=h c y g
 rcases h with h|⟨j,p,m,rfl,q,w⟩
 . obtain⟨z,n,a⟩:=f.1 c y h u
   exact⟨z,by simp[ah.set,d,n],a⟩
 . obtain⟨z,n,a⟩:=f.1 c _ m (by simp)
   cases a with
   | cells A e _ B C D=>
     refine⟨_,by simp only[ah.set,d,if_false];exact n,.cells A e p (by omega) (λi v F r o=>?_) D⟩
     have s:i<j.length:=by rw[<-B];exact(Array.getElem?_eq_some_iff.1 r).1
     exact(w i j[i] F (by simp[s]) o).sound t (C i v _ r (by simp[s])),λc g=>by
 obtain⟨d,h⟩:=h c _ g
 rcases h with h|⟨j,p,_,h,_⟩
 . obtain⟨m,q⟩:=f.2 c h
   exact⟨by simp[ah.set,d,m],q⟩
 . cases h⟩
section
variable{P:Program}{m:Mo}
theorem T.xI{Q:ag->ah->Goroutine->Prop}{k:ag}{O:ah}{g:Goroutine}{σ:aa}{b:Nat}{l:List AV}(q:Rel k O σ)(hb:σ b=some (.cells l))(f:g.status=.running)
 (h:∀k' O',k.Le k'->(∀v a a',V k v a->Fz b l a a'->V k' v a')->(∀σ',I' b l σ σ'->Rel k' O' σ')->T P m Q k' O' g):T P m Q k O g:=by
 obtain⟨y,u,w⟩:=q.1 b _ hb (by simp)
 cases w with
 | cells c e _ r x z=>
   refine T.freeze (n:=c.size) u f λk' O' d o A p=>?_
   have s:xH k' b e l:=⟨by rw[o,r],λj a t=>by
    have i:j<c.size:=by rw[r];exact(List.getElem?_eq_some_iff.1 t).1
    exact⟨c[j],A j _ i (by simp[i]),(x j _ a (by simp[i]) t).mono d,z j _ (by simp[i])⟩⟩
   refine h k' O' d (λv a a' B C=>C.sound s (B.mono d)) λσ' D=>?_
   rw[p];exact D.sound s (q.mono d) _
theorem Go.freeze{fid n:Nat}{ro:Option Nat}{todo:List Item}{K:Exit->St->Prop}{env a:Env}{σ σ':aa}{D:List kL}{rc:Rec}(b:Nat)(l:List AV)(hb:σ b=some (.cells l))(d:∀t,Fz b l (env t) (a t))(g:I' b l σ σ')
 (h:Go P m fid n ro todo ⟨a,σ',D,rc⟩ K):Go P m fid n ro todo ⟨env,σ,D,rc⟩ K:=by
 intro Q k O tmps defs kind cs i e j;refine T.xI e.rel hb rfl λo p c q f=>?_
 exact h Q o p tmps defs kind cs i ⟨e.size,λt r=>q _ _ _ (e.env t r) (d t),f σ' g,e.ds.mono c,e.rc.mono c⟩ (j.mono c)
theorem Fz.upd{b:Nat}{l:List AV}{env:Env}{t:Nat}{a':AV}(h:Fz b l (env t) a')(u:Nat):Fz b l (env u) (env.upd t a' u):=by
 unfold Env.upd;split
 . next e=>rw[e];exact h
 . exact .refl _
inductive lZ(KF:eI->aa->Prop):eI->aa->Prop
 |done {r:eI}{σ:aa}:KF r σ->lZ KF r σ
 |freeze {a a':AV}{σ σ':aa}(b:Nat) (l:List AV):σ b=some (.cells l)->Fz b l a a'->I' b l σ σ'->lZ KF (.val a') σ'->lZ KF (.val a) σ
 |jm {a a':AV}{σ:aa}:a.W a'->lZ KF (.val a') σ->lZ KF (.val a) σ
 |less {r:eI}{σ σ':aa}:σ'.Le σ->lZ KF r σ'->lZ KF r σ
theorem ar.thaw{f:FuncId}{args:List AV}{σ:aa}{u:eI->aa->Prop}(h:ar P m f args σ (lZ u)):ar P m f args σ u:=by
 intro Q k O p c rest kind z A B C D
 have key:∀r j,lZ u r j->∀g n i,k.Le g->Rel g n j->(match r with
  |.val a=>V g i a->T P m Q g n (jj kind c rest i)
  |.panic a=>V g i a->T P m Q g n (G (c.raise [⟨i,false,false⟩]) rest)):=by
  intro r j E;induction E with
  | @done r σ y=>
    intro g n i e o;cases r with
    |val a=>exact λq=>C _ _ _ _ _ e q o y
    |panic a=>exact λq=>D _ _ _ _ _ e q o y
  | freeze b l hb F v _ s=>
    intro g n i e o q;refine T.xI o hb (by cases kind<;>rfl) λH I t w x=>?_
    exact s H I i (e.trans t) (x _ v) (w _ _ _ q F)
  |jm J _ s=>intro g n i e o q;exact s g n i e o (J _ _ q)
  |@less r σ j v _ s=>intro g n i e o;exact s g n i e (o.le v)
 exact h Q k O p c rest kind z A B (λg n i K j a b c d=>key _ _ d g n i a c b) (λg n i K j a b c d=>key _ _ d g n i a c b)
end
def F1(σ:aa)(a:AV)(kk:Nat)(es:List AV):Prop:=A7 a kk es\/∃b off cap l,a=.eu b off es.length cap/\σ b=some (.cells l)/\(∀e∈es,e.cells.length=kk)/\∀(j:Nat) x,(flatten es)[j]?=some x->l[off+j]?=some x
def bn(σ0 σ:aa)(a:AV)(kk:Nat)(es:List AV):Prop:=σ0.Le σ/\((es=[]/\(a=.nil\/a=.sl kk [] .exact))\/∃b cap rest,a=.eu b 0 es.length cap/\σ0 b=none/\es.length<=cap/\(∀e∈es,e.cells.length=kk)/\σ b=some (.cells (flatten es++rest))/\rest.length=(cap-es.length)*kk)
theorem bn.rd{σ0 σ:aa}{a:AV}{kk:Nat}{es:List AV}(h:bn σ0 σ a kk es):F1 σ a kk es:=by
 rcases h.2 with⟨rfl,rfl|rfl⟩|⟨b,cap,rest,rfl,_,_,d,e,_⟩
 . exact .inl (.inl ⟨rfl,rfl⟩)
 . exact .inl (.inr ⟨_,rfl⟩)
 . refine .inr ⟨b,0,cap,_,rfl,e,d,λj x c=>?_⟩
   rw[Nat.zero_add,List.getElem?_append_left (List.getElem?_eq_some_iff.1 c).1];exact c
theorem bn.empty(σ:aa)(kk:Nat):bn σ σ (.sl kk [] .exact) kk []:=⟨λ_ _ h=>h,.inl ⟨rfl,.inr rfl⟩⟩
theorem bn.thaw{σ0 σ:aa}{a:AV}{kk:Nat}{es:List AV}{f:eI->aa->Prop}(h:bn σ0 σ a kk es)(d:f (.val (.sl kk es .any)) σ0):lZ f (.val a) σ:=by
 rcases h.2 with⟨rfl,rfl|rfl⟩|⟨b,cap,rest,rfl,k,l,g,m,n⟩
 . exact .less h.1 (.jm (gl kk) (.done d))
 . exact .less h.1 (.jm (fC kk _ _) (.done d))
 . have o:=ba g
   refine .freeze b _ m (.sl 0 cap kk es .any l ?_ g (λj x i=>?_) (.inl rfl)) (I'.del b _ σ) (.less (λc y e=>?_) (.done d))
   . have:cap*kk=es.length*kk+(cap-es.length)*kk:=by rw[<-Nat.add_mul];congr 1;omega
     simp only[List.length_append,o,n];omega
   . rw[Nat.zero_add,List.getElem?_append_left (List.getElem?_eq_some_iff.1 i).1];exact i
   . have:c≠b:=λq=>by rw[q,k]at e;cases e
     simp only[aa.del,this,if_false];exact h.1 c y e
section
variable{P:Program}(L:jg P){k:ag}{O:ah}{Kp:Value->ag->ah->Prop}
theorem V.Lt{v:Value}{b off len cap:Nat}(h:V k v (.eu b off len cap)):v=.slice (some ⟨b,off,none⟩) len cap:=by cases h;rfl
theorem V.Lu{v:Value}(h:V k v .nil):v=.slice none 0 0:=by cases h;rfl
theorem F1.facts{σ:aa}{v:Value}{a:AV}{kk:Nat}{es:List AV}(h:F1 σ a kk es)(c:V k v a):∃base cap,v=.slice base es.length cap/\∀e∈es,e.cells.length=kk:=by
 rcases h with(⟨rfl,rfl⟩|⟨sp,rfl⟩)|⟨b,off,cap,l,rfl,i,d,j⟩
 . cases c;exact⟨none,0,rfl,by simp⟩
 . rcases c.kq with⟨f,rfl,rfl,_⟩|⟨b,off,cap,N,E,rfl,m,n,o,g,_⟩
   . exact⟨f,0,rfl,by simp⟩
   . exact⟨_,cap,rfl,g⟩
 . cases c;exact⟨_,cap,rfl,d⟩
theorem oH{K:Array Value->ag->ah->Prop}{σ:aa}{v:Value}{a:AV}{kk:Nat}{es:List AV}(p:V k v a)(s:Rel k O σ)(g:F1 σ a kk es)
 (q:∀c:Array Value,c.size=es.length*kk->(∀(j:Nat) u x,c[j]?=some u->(flatten es)[j]?=some x->V k u x)->(∀(j:Nat) u,c[j]?=some u->flat u=true)->K c k O):dM P (Builtin.firstCells kk es.length v) k O K Kp:=by
 rcases g with g|⟨b,off,cap,l,rfl,t,w,z⟩
 . exact nF p g (Nat.le_refl _) q
 . cases p
   obtain⟨y,A,B⟩:=s.1 b _ t (by simp)
   cases B with
   | cells C e _ r D E=>
     unfold Builtin.firstCells loadCells;have F:=ba w;refine gS (l:=flatten es) (base:=off) (off:=0) (λj x i=>?_) (es.length*kk) 0 #[] (by omega) λvs m n o=>?_
     . have d:=z j x i
       have f:off+j<C.size:=by rw[r];exact(List.getElem?_eq_some_iff.1 d).1
       exact pi.own (k:=k) A r D E (off+j) x d|>.imp λv h=>by simpa using h
     . refine q _ (by simp[m]) (λj u x f i=>n j u x (by simpa using f) (by simpa using i)) (λj u f=>o u ?_)
       have:vs[j]?=some u:=by simpa using f
       exact List.mem_of_getElem? this
end
section
variable{P:Program}(L:jg P){o:Oper}{env:Env}{σ:aa}{K:AV->aa->Prop}{Kp:AV->aa->Prop}
theorem jv{s x:Operand}{H:Array TypeId}{t t2 e e2:Nat}{it al m:TI}{σ0:aa}{es xs:List AV}(ho:o.op=.call ⟨.builtin .append,#[s,x],H⟩)(h0:H[0]?=some t)(I:H[1]?=some t2)(ht:L.tt t=some it)(hk:it.kind=.slice e)
 (bA:L.tt t2=some al) (bB:al.kind=.slice e2) (J:L.tt e=some m) (hb:m.bytes<=1024) (hlen:es.length+xs.length<=1073741824) (hs:bn σ0 σ (am env s) m.size es) (hx:F1 σ (am env x) m.size xs)
 (E:(kN m.zero).cells.all AV.flat=true) (hK:∀a' σ',bn σ0 σ' a' m.size (es++xs)->K a' σ'):aE P o env σ K Kp:=λk O ρ g Q=>by
 have w:=g s (by simp[ho,Op.operands,Call.operands])
 have S:=g x (by simp[ho,Op.operands,Call.operands])
 have:execOp ρ o=(do pure (Next.value (<-Builtin.append_ H o.type #[ρ s,ρ x]))):=by simp[execOp,ho,resolve,invoke,builtin]
 rw[this];refine af ?_;have av:m.zero.cells.size=m.size:=by obtain⟨_,_,_,_,_,_,h⟩:=L.facts J;exact h
 obtain⟨base,cap,A,T⟩:=hs.rd.facts w;obtain⟨c5,dj,R,U⟩:=hx.facts S;have B:=hs.1;unfold Builtin.append_;simp only[h0,I,List.getElem?_toArray,List.getElem?_cons_zero,List.getElem?_cons_succ];refine af (az L ht λd _ hd=>?_)
 rw[bv hd hk,A];dsimp only;refine af (bH L J ?_);refine af (az L bA λd2 _ W=>?_)
 rw[bv W bB];refine af (ai ?_);dsimp only;simp only[Bool.false_eq_true,if_false,Bool.not_false,if_true];refine af (s:=Builtin.lenOf (ρ x)) ?_;rw[R];refine ai ?_;rw[<-R];have F:=ba T;have ax:=ba U
 by_cases n:es.length+xs.length<=cap
 ·
  rw[if_pos n];refine af (oH S Q hx λc C X M=>?_)
  rcases hs.2 with⟨rfl,p⟩|⟨b,ay,rest,p,b0,hc,_,N,D⟩
  . have dr:cap=0:=by
     rcases p with p|p
     . rw[p,A]at w;have:=w.Lu;simp only[Value.slice.injEq]at this;exact this.2.2
     . rw[p,A]at w
       rcases w.kq with⟨_,q1,_,_⟩|⟨_,_,ay,_,_,q1,_,_,_,_,_,q7⟩
       . cases q1;rfl
       . cases q1;exact q7
    have b1:xs=[]:=by cases xs with|nil=>rfl|cons _ _=>simp at n;omega
    subst b1
    have c6:c.toList=[]:=by
     have:c.size=0:=by simpa using C
     simpa using this
    have b2:V k (.slice base 0 cap) (am env s):=by rw[A]at w;simpa using w
    cases base with
    |none=>dsimp only;refine ai (ai ⟨_,.inl rfl,.here ⟨.refl k,am env s,σ,?_,Q,hK _ _ ⟨B,.inl ⟨rfl,p⟩⟩⟩⟩);simpa using b2
    |some ad=>dsimp only;rw[c6];refine af (ai ?_);refine ai (ai ⟨_,.inl rfl,.here ⟨.refl k,am env s,σ,?_,Q,hK _ _ ⟨B,.inl ⟨rfl,p⟩⟩⟩⟩);simpa using b2
  . rw [p, A] at w
    have hinv:=w.Lt;simp only[Value.slice.injEq,true_and]at hinv;obtain⟨rfl,rfl⟩:=hinv;obtain⟨y,hO,Y⟩:=Q.1 b _ N (by simp)
    cases Y with
    | cells cc et _ g1 g2 g3=>
      dsimp only;rw[fL]
      have Z:cc.size=cap*m.size:=by rw[g1,List.length_append,F,D,<-Nat.add_mul];congr 1;omega
      have hmul:(es.length+xs.length)*m.size<=cc.size:=by rw[Z];exact Nat.mul_le_mul_right _ n
      rw[Nat.add_mul]at hmul;refine af (mU c.toList 0 cc O hO (by simp[C];omega) (λu hu=>?_) λO' c' c7 c8 b3=>?_)
      . obtain⟨j,hj,rfl⟩:=List.mem_iff_getElem.1 hu
        exact M j _ (by simp at hj;simp[hj])
      . have dx:xs.length*m.size<=rest.length:=by rw[D];exact Nat.mul_le_mul_right _ (by omega)
        refine ai (ai ⟨_,.inl rfl,.here ⟨.refl k,.eu b 0 (es++xs).length cap,σ.set b (.cells (flatten (es++xs)++rest.drop (xs.length*m.size))),?_,?_,hK _ _ ⟨?_,.inr ⟨b,cap,rest.drop (xs.length*m.size),rfl,b0,by simpa using n,λz E=>?_,by simp[aa.set],?_⟩⟩⟩⟩)
        . rw[show es.length+xs.length=(es++xs).length by simp]
          exact .eu ..
        . rw [c7]
          refine Q.set (.cells c' et _ ?_ (λi v a g p=>?_) (λi v g=>?_))
          . rw[c8,g1,flatten_append];simp only[List.length_append,List.length_drop,ax];omega
          . rw [b3]at g
            simp only[Nat.zero_add,Array.length_toList,C,Nat.add_zero]at g;rw[flatten_append,List.append_assoc]at p
            by_cases I:i<es.length*m.size
            . rw[if_neg (by omega)]at g
              rw[List.getElem?_append_left (by omega)]at p
              exact g2 i v a g (by rw[List.getElem?_append_left (by omega)];exact p)
            . rw[List.getElem?_append_right (by omega),F]at p
              by_cases h2:i<es.length*m.size+xs.length*m.size
              . rw[if_pos (by omega)]at g
                rw[List.getElem?_append_left (by omega)]at p
                exact X _ v a (by simpa using g) p
              . rw[if_neg (by omega)]at g
                rw[List.getElem?_append_right (by omega),List.getElem?_drop]at p
                refine g2 i v a g ?_;rw[List.getElem?_append_right (by omega),F,<-p]
                congr 1;omega
          . rw[b3]at g
            split at g
            . exact M _ v (by simpa using g)
            . exact g3 i v g
        . intro b' y Y
          have:b'≠b:=λq=>by rw[q,b0]at Y;cases Y
          simp[aa.set,this,B b' y Y]
        . rcases List.mem_append.1 E with E|E
          . exact T z E
          . exact U z E
        . rw[List.length_drop,D,List.length_append,<-Nat.sub_mul];congr 1;omega
 ·
  rw[if_neg n]
  have b4:¬((es.length+xs.length:Nat):Int)>IntKind.i64.max:=by have:IntKind.i64.max=9223372036854775807:=rfl;rw[this];omega
  refine af (bW L J λinfo _ _ dy _=>?_)
  rw[if_neg (λq=>b4 q.1)]
  refine af (bW L J λa7 _ _ b5 _=>?_)
  have a8:=nextslicecap_le (Nat.lt_of_not_le n)
  have a9:¬(Builtin.nextslicecap (es.length+xs.length) cap*a7.bytes>2 ^ 48):=by rw[b5];have I:Builtin.nextslicecap (es.length+xs.length) cap*m.bytes<=(4*(es.length+xs.length)+2000)*1024:=Nat.mul_le_mul a8 hb;omega
  rw[if_neg a9];refine af (s:=choose _) (λt=>?_)
  have G:(Question.appendCap (es.length+xs.length) cap e).forced=false:=rfl;rw[G];simp only[Bool.false_eq_true,if_false];have ca:∃f,(Question.appendCap (es.length+xs.length) cap e).cut t=f/\es.length+xs.length<=f:=⟨_,rfl,by simp only[Question.cut];omega⟩
  obtain⟨f,b6,b7⟩:=ca;rw[b6];refine ai ?_;refine af (bW L J λcb _ _ _ _=>?_)
  refine af (mV ?_);refine af (oH (a:=am env s) (by rw[<-A];exact w) Q hs.rd λc C X M=>?_)
  refine af (oH S Q hx λd cg W cl=>?_)
  refine af (cB L J ?_);have cm:=xx (k:=k) E
  have b8:(Builtin.zeroCells m.zero.cells (f-(es.length+xs.length))).size=(f-(es.length+xs.length))*m.size:=by simp[Builtin.zeroCells,av]
  have cv:∀(i:Nat) v,(Builtin.zeroCells m.zero.cells (f-(es.length+xs.length)))[i]?=some v->flat v=true:=by
   intro i v g;have hi:=(Array.getElem?_eq_some_iff.1 g).1;simp only[Builtin.zeroCells]at g;obtain⟨e0,J⟩:=Array.getElem?_eq_some_iff.1 g;simp at J;subst J
   have b9:0<m.zero.cells.size:=by
    rcases Nat.eq_zero_or_pos m.zero.cells.size with h|h
    . rw[b8,<-av,h]at hi;simp at hi
    . exact h
   have hm:i % m.zero.cells.size<m.zero.cells.size:=Nat.mod_lt _ b9;rw[getElem!_pos m.zero.cells _ hm];exact cm.2.2 (i % m.zero.cells.size) _ (by simp[hm])
  refine af (gT (l:=flatten (es++xs)++List.replicate ((f-(es.length+xs.length))*m.size) .bz) Q ?_ (λi v a g p=>?_) (λi v g=>?_) λr k' O' hn dd bq=>ai (ai ⟨_,.inl rfl,.here ⟨dd,.eu r 0 (es++xs).length f,_,?_,bq,hK _ _ ⟨λb' y Y=>?_,.inr ⟨r,f,List.replicate ((f-(es.length+xs.length))*m.size) .bz,rfl,?_,by simpa using b7,λz E=>?_,by simp[aa.set],?_⟩⟩⟩⟩))
  . simp only[Array.size_append,C,cg,b8,flatten_append,List.length_append,F,ax,List.length_replicate]
  . rw [flatten_append,List.append_assoc]at p
    rw[Array.append_assoc]at g
    by_cases I:i<es.length*m.size
    . rw[List.getElem?_append_left (by omega)]at p
      rw[Array.getElem?_append_left (by omega)]at g
      exact X i v a g p
    . rw[List.getElem?_append_right (by omega),F]at p
      rw[Array.getElem?_append_right (by omega),C]at g
      by_cases h2:i-es.length*m.size<xs.length*m.size
      . rw[List.getElem?_append_left (by omega)]at p
        rw[Array.getElem?_append_left (by omega)]at g
        exact W _ v a g p
      . rw[List.getElem?_append_right (by omega)]at p
        have:=List.mem_of_getElem? p;rw[List.mem_replicate]at this;rw[this.2];exact .bz _
  . rw[Array.append_assoc]at g
    by_cases I:i<es.length*m.size
    . rw[Array.getElem?_append_left (by omega)]at g;exact M i v g
    . rw[Array.getElem?_append_right (by omega),C]at g
      by_cases h2:i-es.length*m.size<xs.length*m.size
      . rw[Array.getElem?_append_left (by omega)]at g;exact cl _ v g
      . rw[Array.getElem?_append_right (by omega)]at g;exact cv _ v g
  . rw[show es.length+xs.length=(es++xs).length by simp];exact .eu ..
  . have I:=B b' y Y
    have:b'≠r:=λq=>by rw[q,hn]at I;cases I
    simp[aa.set,this,I]
  . cases q:σ0 r with
    |none=>rfl
    |some y=>have:=B r y q;rw[hn]at this;cases this
  . rcases List.mem_append.1 E with E|E
    . exact T z E
    . exact U z E
  . simp
end
def yV(env:Env)(len cap:Nat)(a b mx:Option Operand)(l h m:Nat):Prop:=
 (match mx with|none=>m=cap|some o=>(∃kd,am env o=.lit (.int kd (m:Int)))/\m<=cap)/\
 (match b with|none=>mx=none/\h=len|some o=>(∃kd,am env o=.lit (.int kd (h:Int)))/\h<=m)/\
 (match a with|none=>l=0|some o=>(∃kd,am env o=.lit (.int kd (l:Int)))/\l<=h)
theorem yV.le{env:Env}{len cap:Nat}{b c mx:Option Operand}{l h m:Nat}(hb:yV env len cap b c mx l h m)(f:len<=cap):l<=h/\h<=m/\m<=cap:=by
 obtain⟨a,d,e⟩:=hb
 have g:m<=cap:=by
  cases mx with
  |none=>simp only at a;omega
  |some o=>exact a.2
 have i:h<=m:=by
  cases c with
  |none=>obtain⟨rfl,rfl⟩:=d;simp only at a;omega
  |some o=>exact d.2
 refine⟨?_,i,g⟩;cases b with
 |none=>simp only at e;omega
 |some o=>exact e.2
section
variable{P:Program}(L:jg P){k:ag}{O:ah}{Kp:Value->ag->ah->Prop}
theorem nH{K:Nat->ag->ah->Prop}{v:Value}{kd:IntKind}{z y:Nat}{c:BoundsCode}(a:V k v (.lit (.int kd (z:Int))))(d:z<=y)(b:K z k O):dM P (Instr.sliceBound v y c) k O K Kp:=by
 rw[cu a];unfold Instr.sliceBound;refine af (ai ?_);dsimp only;rw[if_pos ⟨by omega,by omega⟩];exact ai (by simpa using b)
theorem jO{K:Nat × Nat × Nat->ag->ah->Prop}{env:Env}{ρ:Operand->Value}{isSlice:Bool}{len cap:Nat}{b d mx:Option Operand}{l h m:Nat}(hb:yV env len cap b d mx l h m)
 (g:∀o,(b=some o\/d=some o\/mx=some o)->V k (ρ o) (am env o)) (p:K (l,h,m) k O):dM P (Instr.sliceBounds isSlice len cap (b.map ρ) (d.map ρ) (mx.map ρ)) k O K Kp:=by
 obtain⟨j,i,n⟩:=hb;unfold Instr.sliceBounds
 have a:∀c,dM P (do
  let l <-match b.map ρ with
   |some v=>Instr.sliceBound v h c
   |none=>pure 0
  pure (l,h,m):Sem (Nat × Nat × Nat)) k O K Kp:=by
  intro c;cases b with
  |none=>simp only at n;subst n;exact af (ai (ai p))
  |some o=>obtain⟨⟨kd,e⟩,f⟩:=n;have:=g o (.inl rfl);rw[e]at this;exact af (nH this f (ai p))
 cases mx with
 | none=>
   simp only at j;subst j;refine af (ai ?_);cases d with
   |none=>obtain⟨_,rfl⟩:=i;exact af (ai (a _))
   |some o=>obtain⟨⟨kd,e⟩,f⟩:=i;have:=g o (.inr (.inl rfl));rw[e]at this;exact af (nH this f (a _))
 | some r=>
   obtain⟨⟨u,s⟩,t⟩:=j;have q:=g r (.inr (.inr rfl));rw[s]at q;refine af (nH q t ?_);cases d with
   |none=>exact absurd i.1 (by simp)
   |some o=>obtain⟨⟨kd,e⟩,f⟩:=i;have:=g o (.inr (.inl rfl));rw[e]at this;exact af (nH this f (a _))
end
theorem py{kk:Nat}:∀{es:List AV}(_:∀e∈es,e.cells.length=kk) (l:Nat),flatten (es.drop l)=(flatten es).drop (l*kk)
 |[],_,l=>by simp[flatten]
 |a::es,h,0=>by simp
 |a::es,h,l+1=>by rw[List.drop_succ_cons,py (λe b=>h e (by simp[b])) l,flatten_cons,Nat.add_mul,Nat.one_mul,Nat.add_comm,<-List.drop_drop,<-h a (by simp),List.drop_left]
theorem pz{kk:Nat}:∀{es:List AV}(_:∀e∈es,e.cells.length=kk) (l:Nat),flatten (es.take l)=(flatten es).take (l*kk)
 |[],_,l=>by simp[flatten]
 |a::es,h,0=>by simp[flatten]
 | a::es,h,l+1=>by
   have c:=h a (by simp);have d:(l+1)*kk=l*kk+kk:=by rw[Nat.add_mul,Nat.one_mul]
   rw[List.take_succ_cons,flatten_cons,pz (λe b=>h e (by simp[b])) l,flatten_cons,List.take_append,List.take_of_length_le (l:=a.cells) (by omega)];congr 2;omega
section
variable{P:Program}(L:jg P){o:Oper}{env:Env}{σ:aa}{K:AV->aa->Prop}{Kp:AV->aa->Prop}
theorem lr{t:TypeId}{x:Operand}{a b mx:Option Operand}(c:o.op=.slice t x a b mx):x∈o.op.operands/\∀y,(a=some y\/b=some y\/mx=some y)->y∈o.op.operands:=by
 rw[c];refine⟨by simp[Op.operands],λy d=>?_⟩;rcases d with rfl|rfl|rfl<;>simp[Op.operands]
theorem V.F3{k:ag}{b off cap kk N E l h m:Nat}{es:List AV}{sp:bV}(p:k.sh b=some (E,N))(t:off+cap*kk<=N)(i:∀e∈es,e.cells.length=kk)
 (q:∀(j:Nat) a,(flatten es)[j]?=some a->∃v,k.cell b (off+j)=some v/\V k v a/\bG.flat v=true) (u:l<=h) (w:h<=m) (x:m<=cap) (r:h<=es.length) (d:sp=.any\/(sp=.exact/\m=h)):
 V k (.slice (if m=l then some ⟨b,off,none⟩else(some (⟨b,off,none⟩:Addr)).map (·.add (l*kk))) (h-l) (m-l)) (.sl kk ((es.drop l).take (h-l)) sp):=by
 have hlen:((es.drop l).take (h-l)).length=h-l:=by simp;omega
 have f:∀e∈(es.drop l).take (h-l),e.cells.length=kk:=λe n=>i e (List.mem_of_mem_drop (List.mem_of_mem_take n))
 by_cases g:m=l
 . rw[if_pos g]
   have s:h-l=0:=by omega
   have o:m-l=0:=by omega
   rw[s,o];have:(es.drop l).take 0=[]:=by simp
   rw[this];refine V.ofRow (kk:=kk) (es:=[]) (cap:=0) (by simp) p (by omega) (by simp) (λj a c=>by simp[flatten]at c) (by rcases d with rfl|⟨rfl,_⟩<;>simp[bV.fits])
 . rw [if_neg g,Option.map_some,fL]
   conv=>lhs;rw[<-hlen]
   refine V.ofRow (by rw[hlen];omega) p ?_ f (λj a c=>?_) ?_
   . have:=Nat.mul_le_mul_right kk (show l+(m-l)<=cap by omega)
     rw[Nat.add_mul]at this;omega
   . rw[pz (λe n=>i e (List.mem_of_mem_drop n)),py i]at c
     rw[List.getElem?_take]at c;split at c
     . rw[List.getElem?_drop]at c
       rw[Nat.add_assoc];exact q _ a c
     . cases c
   . rcases d with rfl|⟨rfl,rfl⟩
     . trivial
     . show m-l=_;rw[hlen]
theorem tE{t e:Nat}{x:Operand}{g i:Option Operand}{it j:TI}{es:List AV}{sp:bV}{l h:Nat}(v:o.op=.slice t x g i none)(w:L.tt t=some it)(y:it.kind=.slice e)(z:L.tt e=some j)
 (G:am env x=.sl j.size es sp) (hb:∀cap,es.length<=cap->yV env es.length cap g i none l h cap) (m:h<=es.length) (A:K (.sl j.size ((es.drop l).take (h-l)) .any) σ):aE P o env σ K Kp:=
 aE.val (s:=λf=>Instr.sliceAt t (f x) (g.map f) (i.map f) none) (λf=>by simp[execOp,v]) λk O f n B=>by
  obtain⟨H,C⟩:=lr v;have D:=n x H;rw[G]at D;unfold Instr.sliceAt;refine af (az L w λW _ p=>?_);rw[bv p y];dsimp only;unfold Instr.slice;refine af (az L w λd _ hd=>?_);rw[bv hd y];rcases D.kq with⟨I,q,rfl,_⟩|⟨b,off,cap,N,E,q,F,J,M,Q,R,X⟩
  . rw[q]
    have a:=hb 0 (by simp);have:=a.le (by simp);have r:l=0:=by omega
    have u:h=0:=by omega
    cases I<;>(
     dsimp only;refine af (jO (mx:=none) a (λo c=>n o (C o (by simpa using c))) ?_);dsimp only;refine af (bH L z (ai (.here ⟨.refl k,_,σ,?_,B,A⟩)));subst r;subst u;simp only[if_true,Nat.sub_zero,List.drop_zero,List.take_nil];exact .slnil _ _ _ (.inl rfl))
  . rw[q]
    dsimp only;have a:=hb cap F;obtain⟨S,T,U⟩:=a.le F;refine af (jO (mx:=none) a (λo c=>n o (C o (by simpa using c))) ?_);dsimp only;refine af (bH L z (ai (.here ⟨.refl k,_,σ,?_,B,A⟩)));exact V.F3 J M Q R S T U m (.inl rfl)
theorem rz{t e:Nat}{x:Operand}{n p:Option Operand}{mx:Operand}{it q:TI}{es:List AV}{sp:bV}{l h:Nat}(B:o.op=.slice t x n p (some mx))(C:L.tt t=some it)(D:it.kind=.slice e)(r:L.tt e=some q)
 (I:am env x=.sl q.size es sp) (hb:∀cap,es.length<=cap->yV env es.length cap n p (some mx) l h h) (u:h<=es.length) (v:∀a,(a=.sl q.size ((es.drop l).take (h-l)) .exact\/(es=[]/\a=.nil))->K a σ):aE P o env σ K Kp:=
 aE.val (s:=λg=>Instr.sliceAt t (g x) (n.map g) (p.map g) (some (g mx))) (λg=>by simp[execOp,B]) λk O g m w=>by
  obtain⟨J,y⟩:=lr B;have F:=m x J;rw[I]at F;unfold Instr.sliceAt;refine af (az L C λX _ z=>?_);rw[bv z D];dsimp only;unfold Instr.slice;refine af (az L C λd _ hd=>?_);rw[bv hd D];rcases F.kq with⟨G,A,rfl,_⟩|⟨b,off,cap,N,E,A,H,M,Q,R,S,Y⟩
  . rw[A]
    have c:=hb 0 (by simp);have:=c.le (by simp);have i:l=0:=by omega
    have j:h=0:=by omega
    cases G with
    | none=>
      dsimp only;refine af (jO (mx:=some mx) c (λo f=>m o (y o f)) ?_);dsimp only;refine af (bH L r (ai (.here ⟨.refl k,.nil,σ,?_,w,v _ (.inr ⟨rfl,rfl⟩)⟩)));subst i;subst j;simp only[if_true,Nat.sub_zero];exact .lit _
    | some G=>
      dsimp only;refine af (jO (mx:=some mx) c (λo f=>m o (y o f)) ?_);dsimp only;refine af (bH L r (ai (.here ⟨.refl k,_,σ,?_,w,v _ (.inl rfl)⟩)));subst i;subst j;simp only[if_true,Nat.sub_zero,List.drop_zero,List.take_nil];exact .slnil _ _ _ (.inr ⟨rfl,rfl⟩)
  . rw[A]
    dsimp only;have c:=hb cap H;obtain⟨T,U,W⟩:=c.le H;refine af (jO (mx:=some mx) c (λo f=>m o (y o f)) ?_);dsimp only;refine af (bH L r (ai (.here ⟨.refl k,_,σ,?_,w,v _ (.inl rfl)⟩)));exact V.F3 M Q R S T U W u (.inr ⟨rfl,rfl⟩)
end
section
variable{P:Program}(L:jg P){k:ag}{O:ah}{Kp:Value->ag->ah->Prop}
end
section
variable{P:Program}(L:jg P){o:Oper}{env:Env}{σ:aa}{K:AV->aa->Prop}{Kp:AV->aa->Prop}
theorem Dz{i:TI}{d:TypeDesc}(h:cO P i d=true)(a:i.kind=.bool):d=.bool:=by cases d<;>simp_all [cO]
theorem v5{op:BinOp}{t r:Nat}{x y:Operand}{i:TI}{p q:Bool}(g:o.op=.binOp op t x y r)(u:L.tt t=some i)(v:i.kind=.bool)(w:am env x=.lit (.bool p))(z:am env y=.lit (.bool q)){b:Bool}(c:(op=.eql/\b=(p==q))\/(op=.neq/\b=!(p==q)))(j:K (.lit (.bool b)) σ):aE P o env σ K Kp:=
 aE.val (s:=λa=>do eqGuard op t x y (a x) (a y);binOp op t (a x) (a y)) (λa=>by simp[execOp,g]) λk O a e l=>by
  have m:=e x (by simp[g,Op.operands])
  have n:=e y (by simp[g,Op.operands])
  rw[w]at m;rw[z]at n;rw[oC m,oC n];have A:eqGuard op t x y (.bool p) (.bool q)=pure ():=by rcases c with⟨rfl,_⟩|⟨rfl,_⟩<;>simp[eqGuard]
  rw[A];refine af (ai ?_)
  have f:∀(R:Bool->ag->ah->Prop) (h:Value->ag->ah->Prop),R (p==q) k O->dM P (Op.equal t (.bool p) (.bool q)) k O R h:=λR h B=>by
   show dM P (Op.equalIn (9999+1) t (.bool p) (.bool q)) k O R h;rw[Op.equalIn];refine af (az L u λd _ hd=>?_)
   rw[Dz hd v];exact ai B
  rcases c with⟨rfl,rfl⟩|⟨rfl,rfl⟩
  . exact af (s:=Op.equal t (.bool p) (.bool q)) (f _ _ (ai (.here ⟨.refl k,_,σ,.lit _,l,j⟩)))
  . exact af (s:=Op.equal t (.bool p) (.bool q)) (f _ _ (ai (.here ⟨.refl k,_,σ,.lit _,l,j⟩)))
end
inductive iS{α:Sort _}(a:α):Type
 |mk
def vz{α:Type}(x:Option α)(K:α->Prop)(u:iS K:=.mk):Prop:=∃a,x=some a/\K a
@[simp] theorem DA{α:Type}{a:α}{K:α->Prop}{u:iS K}:vz (some a) K u=K a:=by simp[vz]
@[simp] theorem DB{α:Type}{K:α->Prop}{u:iS K}:vz (none:Option α) K u=False:=by simp[vz]
@[simp] theorem pC{α β:Type}{f:α->β}{x:Option α}{K:β->Prop}{u:iS K}:vz (x.map f) K u=vz x (λa=>K (f a)):=by cases x<;>simp
def rA(x:Bool)(A B:Prop)(u:iS A:=.mk)(v:iS B:=.mk):Prop:=(x=true->A)/\(x=false->B)
@[simp] theorem l8{A B:Prop}{u:iS A}{v:iS B}:rA true A B u v=A:=by simp[rA]
@[simp] theorem ku{A B:Prop}{u:iS A}{v:iS B}:rA false A B u v=B:=by simp[rA]
def Po(σ:aa)(F:Nat->Prop)(u:iS F:=.mk):Prop:=∀b,σ b=none->F b
section
variable{P:Program}(L:jg P){o:Oper}{env:Env}{σ:aa}{K:AV->aa->Prop}{Kp:AV->aa->Prop}
theorem qC{x:Operand}{y t:Nat}{i:TI}(z:o.op=.typeAssert x y t true)(A:L.tt t=some i)(C:i.kind≠.iface)(D:am env x=.lit .nilIface)
 (E:K (.cq [kN i.zero,.lit (.bool false)]) σ):aE P o env σ K Kp:=
 aE.val (s:=λl=>Instr.typeAssert (l x) y t true) (λl=>by simp[execOp,z]) λk O l n F=>by
  have f:=n x (by simp[z,Op.operands]);rw[D]at f;generalize l x=v at f;cases f;unfold Instr.typeAssert;refine af (az L A λB _ hd=>?_);have p:∀ms,B≠.interface ms:=λms e=>by subst e;simp[cO]at hd;exact C hd
  have pair:∀{u:Value}{b:Bool}{a:AV},V k u a->V k (.tuple #[u,.bool b]) (.cq [a,.lit (.bool b)]):=λ{u b a} h=>.cq _ _ rfl λj w c f m=>by
   match j with
   |0=>simp at f m;subst f;subst m;exact h
   |1=>simp at f m;subst f;subst m;exact .lit _
   |j+2=>simp at f
  have fin:dM P ((do pure (.tuple #[<-zeroValue t,.bool false]):Sem Value)) k O (λv g q=>lh g q λr G=>k.Le r/\∃a d,V r v a/\Rel r G d/\K a d) (λv g q=>k.Le g/\∃a d,V g v a/\Rel g q d/\Kp a d):=af (cB L A (ai (.here ⟨.refl k,_,σ,pair (.kN k _),F,E⟩)));cases B<;>first|exact fin|exact absurd rfl (p _)
end
def Jl(a:TI)(len:Nat)(parts:List (Nat × AV)):Bool:=decide (len*a.size<=16777216) && (kN a.zero).cells.all AV.flat && (decide (len*a.size=0)||decide ((kN a.zero).cells.length=a.size)) && (parts.map (·.1)==List.range len) && parts.all λp=>decide (p.2.cells.length=a.size) && p.2.cells.all AV.flat
theorem rB{size:Nat}:∀(parts:List (Nat × AV)) (l:List AV) (s:Nat),(parts.map (·.1)=List.range' s parts.length)->(∀p∈parts,p.2.cells.length=size/\p.2.cells.all AV.flat=true)->(s+parts.length)*size=l.length ->
 lq (λj=>some (j*size,size)) l parts=some (l.take (s*size)++flatten (parts.map (·.2)))
 |[],l,s,_,_,b=>by simp[lq,flatten]at b ⊢;rw[List.take_of_length_le (by omega)]
 | (i,a)::parts,l,s,e,h,b=>by
   simp only[List.map_cons,List.length_cons,List.range'_succ,List.cons.injEq]at e;obtain⟨rfl,e⟩:=e;obtain⟨f,k⟩:=h (i,a) (by simp)
   simp only[List.length_cons]at b
   have c:i*size+size<=l.length:=by
    rw[<-b];have:(i+(parts.length+1))*size=i*size+size+parts.length*size:=by rw[Nat.add_mul,Nat.add_mul,Nat.one_mul];omega
    omega
   have d:i*size+a.cells.length<=l.length:=by rw[f];exact c
   simp only[lq];rw[if_pos ⟨f,c,k⟩];rw[rB parts (aJ l (i*size) a.cells) (i+1) e (λp g=>h p (by simp[g])) (by rw[kM d,<-b];congr 1;omega)]
   congr 1;rw[List.map_cons,flatten_cons,<-List.append_assoc];congr 1;have:(i+1)*size=i*size+a.cells.length:=by rw[Nat.add_mul,Nat.one_mul,f]
   rw[this];unfold aJ;rw[List.append_assoc,List.take_append,List.take_append];have m:(List.take (i*size) l).length=i*size:=by rw[List.length_take];omega
   rw[m,List.take_of_length_le (by omega)]
   congr 1;have n:i*size+a.cells.length-i*size=a.cells.length:=by omega
   rw[n,List.take_of_length_le (Nat.le_refl _),Nat.sub_self,List.take_zero,List.append_nil]
section
variable{P:Program}(L:jg P)
theorem A9{o:Oper}{env:Env}{σ:aa}{K Kp:AV->aa->Prop}{t len e:Nat}{parts:Array (Nat × Operand)}{it a:TI}(g:o.op=.buildSlice t len parts)(i:L.tt t=some it)(j:it.kind=.slice e)(k:L.tt e=some a)
 (h:Jl a len (parts.toList.map λp=>(p.1,am env p.2))=true) (l:K (.sl a.size (parts.toList.map λp=>am env p.2) .exact) σ):aE P o env σ K Kp:=by
 simp only[Jl,Bool.and_eq_true,Bool.or_eq_true,List.all_eq_true,List.map_map,beq_iff_eq,decide_eq_true_eq]at h;obtain⟨⟨⟨⟨m,n⟩,q⟩,d⟩,f⟩:=h;have hlen:parts.toList.length=len:=by have:=congrArg List.length d;rwa [List.length_map,List.length_range]at this
 have b:∀p∈(parts.toList.map λp=>(p.1,am env p.2)),p.2.cells.length=a.size/\p.2.cells.all AV.flat=true:=λp c=>⟨(f p c).1,by rw[List.all_eq_true];exact(f p c).2⟩
 refine vy L g i j k m (by rw[List.all_eq_true];exact n) q (es:=parts.toList.map λp=>am env p.2) ⟨by simpa using hlen,λx r=>?_⟩ ?_ l
 . obtain⟨p,c,rfl⟩:=List.mem_map.1 r
   exact(b (p.1,am env p.2) (List.mem_map.2 ⟨p,c,rfl⟩)).1
 . rw[rB (size:=a.size) _ _ 0 (by rw[List.map_map,d,List.length_map,hlen,List.range_eq_range']) b (by rw[List.length_map,hlen,List.length_map,List.length_range,Nat.zero_add])]
   simp[Function.comp_def]
inductive Out where
 |ok (a:AV) (σ:aa)
 |no
 |fq (p:Prop) (x:Out)
 |new (σ:aa) (c:List AV)
 |panic (v:AV) (σ:aa)
def Out.opt(x:Option AV)(σ:aa):Out:=match x with|some a=>.ok a σ|none=>.no
def oI(x:Out)(K Kp:AV->aa->Prop)(u:iS K:=.mk)(v:iS Kp:=.mk):Prop:=
 match x with
 |.ok a σ=>K a σ
 |.no=>False
 |.fq p x=>p/\oI x K Kp u v
 |.new σ c=>Po σ λb=>K (.ref b 0) (σ.set b (.cells c))
 |.panic v σ=>Kp v σ
section
variable{K Kp:AV->aa->Prop}{u:iS K}{v:iS Kp}
@[simp] theorem Pe{a:AV}{σ:aa}:oI (.ok a σ) K Kp u v=K a σ:=propext Iff.rfl
@[simp] theorem Pf:oI .no K Kp u v=False:=propext Iff.rfl
@[simp] theorem lu{p:Prop}{x:Out}:oI (.fq p x) K Kp u v=(p/\oI x K Kp):=propext Iff.rfl
@[simp] theorem fM{x:Option AV}{σ:aa}:oI (.opt x σ) K Kp u v=vz x (λa=>K a σ):=by cases x<;>simp[Out.opt]
end
def Ba(op:BinOp)(kd:IntKind)(a b:Int)(σ:aa):Out:=
 match op,kd with
 |.add,.i64=>.fq (fits (a+b)) (.ok (.lit (.int .i64 (a+b))) σ)
 |.sub,.i64=>.fq (fits (a-b)) (.ok (.lit (.int .i64 (a-b))) σ)
 |.mul,.i64=>.fq (fits (a*b)) (.ok (.lit (.int .i64 (a*b))) σ)
 |.eql,_=>.ok (.lit (.bool (a==b))) σ
 |.neq,_=>.ok (.lit (.bool (a !=b))) σ
 |.lss,_=>.ok (.lit (.bool (decide (a<b)))) σ
 |.leq,_=>.ok (.lit (.bool (decide (a<=b)))) σ
 |.gtr,_=>.ok (.lit (.bool (decide (a>b)))) σ
 |.geq,_=>.ok (.lit (.bool (decide (a>=b)))) σ
 |.shl,_=>.fq (0<=b) (.ok (.lit (.int kd (kd.wrap (a*2 ^ (min b.toNat kd.bits))))) σ)
 |.shr,_=>.fq (0<=b) (.ok (.lit (.int kd (a.fdiv (2 ^ (min b.toNat kd.bits))))) σ)
 |op,kd=>.opt ((n8 op kd a b).map .lit) σ
theorem F4{op:BinOp}{kd:IntKind}{a b:Int}{σ:aa}{K Kp:AV->aa->Prop}(h:oI (Ba op kd a b σ) K Kp):oD op kd a b λv=>K (.lit v) σ:=by
 have key:∀x:Option Value,oI (.opt (x.map .lit) σ) K Kp->∃v,x=some v/\K (.lit v) σ:=λx h=>by rw[fM,pC]at h;exact h
 cases op<;>first|exact key _ h|exact h|(cases kd<;>first|exact h|exact key _ h)
def xJ(mu:List Nat)(o:Oper)(env:Env)(σ:aa):Out:=
 match o.op with
 |.move x=>.ok (am env x) σ
 |.assign x=>.ok (am env x) σ
 | .pick c a b=>match am env c with
   |.lit (.bool x)=>.ok (if x then am env a else am env b) σ
   |_=>.no
 | .alloc t=>match L.tt t with
   |some i=>.fq ((kN i.zero).cells.all AV.flat=true) (.new σ (kN i.zero).cells)
   |none=>.no
 |.box _ x=>.fq ((am env x).cells.all AV.flat=true) (if(match o.dst with|some d=>mu.contains d|none=>false)=true then .new σ (am env x).cells else .ok (.cp (am env x) 0) σ)
 | .load t p=>match L.tt t with
   |some i=>.opt (mH i σ (am env p)) σ
   |none=>.no
 | .store t p x=>match L.tt t with
   |some i=>(match oA i σ (am env p) (am env x)with|some n=>.ok (.lit undef) n|none=>.no)
   |none=>.no
 | .fieldAddr s x j=>match L.tt s with
   | some ⟨.struct,_,_,_,gQ⟩=>(match gQ[j]? with
     |some f=>.fq (f.2.1≠0) (.opt (pj (am env x) f.1) σ)
     |none=>.no)
   |_=>.no
 | .field s x j=>match L.tt s,am env x with
   | some ⟨.struct,_,_,_,gQ⟩,.agg l=>(match gQ[j]? with
     |some f=>(match L.tt f.2.2 with|some q=>.opt (bX l f.1 q.size q.agg) σ|none=>.no)
     |none=>.no)
   |_,_=>.no
 | .indexAddr t x m=>match L.tt t with
   | some ⟨.slice e,_,_,_,_⟩=>(match L.tt e,am env x,am env m with
     |some g,.sl u es _,.lit (.int _ z)=>.fq (u=g.size/\0<=z) (.opt ((es[z.toNat]?).map λa=>.cp a 0) σ)
     |some g,.eu b off len _,.lit (.int _ z)=>.fq (0<=z/\z<len) (.ok (.ref b (off+z.toNat*g.size)) σ)
     |_,_,_=>.no)
   | some ⟨.array k e,_,_,_,_⟩=>(match L.tt e,am env m with
     |some g,.lit (.int _ z)=>.fq (0<=z/\z<k) (.opt (pj (am env x) (z.toNat*g.size)) σ)
     |_,_=>.no)
   |_=>.no
 | .index t x m=>match L.tt t with
   | some ⟨.array k e,_,_,_,_⟩=>(match L.tt e,am env x,am env m with
     |some g,.agg l,.lit (.int _ z)=>.fq (0<=z/\z<k) (.opt (bX l (z.toNat*g.size) g.size g.agg) σ)
     |_,_,_=>.no)
   |_=>.no
 | .binOp op t x y _=>match am env x,am env y with
   | .lit (.bool a),.lit (.bool b)=>(match L.tt t with
     | some ⟨.bool,_,_,_,_⟩=>(match op with
       |.eql=>.ok (.lit (.bool (a==b))) σ
       |.neq=>.ok (.lit (.bool (!(a==b)))) σ
       |_=>.no)
     |_=>.no)
   |.lit (.int kd a),.lit (.int h b)=>.fq (kd=h\/op=.shl\/op=.shr) (if(match o.dst with|some d=>mu.contains d|none=>false)=true then .opt ((n8 op kd a b).map .lit) σ else Ba op kd a b σ)
   |_,_=>.no
 | .unOp .not _ x=>match am env x with
   |.lit (.bool b)=>.ok (.lit (.bool !b)) σ
   |_=>.no
 | .convert _ t x=>match L.tt t,am env x with
   |some ⟨.int kd,_,_,_,_⟩,.lit (.int _ a)=>.ok (.lit (.int kd (kd.wrap a))) σ
   |_,_=>.no
 | .makeInterface t x=>match L.tt t with
   |some i=>.fq (i.kind≠.iface) (.ok (.mS t (am env x)) σ)
   |none=>.no
 |.makeFunc f fs cs=>.ok (.fn f (fs.toList.map (am env)) (cs.toList.map (am env))) σ
 | .extract x j=>match am env x with
   |.cq l=>.opt (l[j]?) σ
   |_=>.no
 | .typeAssert x _ t true=>match L.tt t,am env x with
   |some i,.mS d y=>.fq (i.kind≠.iface) (.ok (if d=t then .cq [y,.lit (.bool true)]else .cq [kN i.zero,.lit (.bool false)]) σ)
   |some i,.lit .nilIface=>.fq (i.kind≠.iface) (.ok (.cq [kN i.zero,.lit (.bool false)]) σ)
   |_,_=>.no
 |.nilCheck x=>match am env x with|.cp v off=>.ok (.cp v off) σ|.ref b off=>.ok (.ref b off) σ|.kp b l hole off=>.ok (.kp b l hole off) σ|.fn (.func f) l r=>.ok (.fn (.func f) l r) σ|_=>.no
 | .panic x=>match am env x with
   |.mS t y=>.panic (.mS t y) σ
   |_=>.no
 | .build t parts=>match L.tt t with
   |some i=>.fq (i.kind=.struct/\(kN i.zero).cells.all AV.flat=true) (.opt ((lq (λj=>(i.gQ[j]?).map λx=>(x.1,x.2.1)) (kN i.zero).cells (parts.toList.map λp=>(p.1,am env p.2))).map .agg) σ)
   |none=>.no
 | .buildSlice t len parts=>match L.tt t with
   | some ⟨.slice e,_,_,_,_⟩=>(match L.tt e with
     |some g=>.fq (Jl g len (parts.toList.map λp=>(p.1,am env p.2))=true) (.ok (.sl g.size (parts.toList.map λp=>am env p.2) .exact) σ)
     |none=>.no)
   |_=>.no
 | .call c=>match c.callee,c.args.toList with
   | .builtin .len,[x]=>(match am env x with
     |.sl _ es _=>.ok (.lit (.int .i64 es.length)) σ
     |.lit (.slice none 0 0)=>.ok (.lit (.int .i64 0)) σ
     |.eu _ _ len _=>.ok (.lit (.int .i64 len)) σ
     |_=>.no)
   | .builtin .min,[x,y]=>(match am env x,am env y with
     |.lit (.int kd a),.lit (.int h b)=>.fq (kd=h) (.ok (.lit (.int kd (if b<a then b else a))) σ)
     |_,_=>.no)
   | .builtin .max,[x,y]=>(match am env x,am env y with
     |.lit (.int kd a),.lit (.int h b)=>.fq (kd=h) (.ok (.lit (.int kd (if b>a then b else a))) σ)
     |_,_=>.no)
   |_,_=>.no
 |_=>.no
def mY(o:Oper):Bool:=
 match o.op with
 |.buildSlice t _ _=>match L.tt t with|some ⟨.slice _,_,_,_,_⟩=>true|_=>false
 |.binOp _ t _ _ _=>match L.tt t with|some ⟨.int _,_,_,_,_⟩=>true|some ⟨.bool,_,_,_,_⟩=>true|_=>false
 |_=>og L o
theorem tF{mu:List Nat}{o:Oper}{env:Env}{σ:aa}{K Kp:AV->aa->Prop}(A:mY L o=true)(h:oI (xJ L mu o env σ) K Kp):aE P o env σ K Kp:=by
 unfold xJ at h;unfold mY og at A;split at h
 . next x g=>exact sJ (.inl g) h
 . next x g=>exact sJ (.inr g) h
 . next c a b g=>
   split at h
   . next x m=>exact Cz g m h
   . exact h.elim
 . next t g=>
   split at h
   . next i w=>exact yK L g w h.1 h.2
   . exact h.elim
 . next t x g=>
   obtain⟨B,C⟩:=h;generalize (match o.dst with|some d=>mu.contains d|none=>false)=q at C;cases q
   . exact FT g B C
   . exact tj g B C
 . next t p g=>
   split at h
   . next i w=>rw[fM]at h;obtain⟨a,B,C⟩:=h;exact xu L g w B C
   . exact h.elim
 . next t p x g=>
   split at h
   . next i w=>
     split at h
     . next a7 B=>exact yJ L g w B h
     . exact h.elim
   . exact h.elim
 . next s x j g=>
   split at h
   . next I J M gQ w=>
     split at h
     . next f U=>rw[lu,fM]at h;obtain⟨B,a,C,S⟩:=h;exact pn L g w rfl U B C S
     . exact h.elim
   . exact h.elim
 . next s x j g=>
   split at h
   . next I J M gQ l w m=>
     split at h
     . next f U=>
       split at h
       . next fi V=>rw[fM]at h;obtain⟨a,B,C⟩:=h;exact yL L g w rfl U V m B C
       . exact h.elim
     . exact h.elim
   . exact h.elim
 . next t x ix g=>
   split at h
   . next e I J M N w=>
     split at h
     . next T kk es sp kd z F m D=>rw[lu,fM,pC]at h;obtain⟨⟨rfl,G⟩,a,B,C⟩:=h;exact tk L g w rfl F m D G B C
     . next T b off len cap kd z F m D=>exact ru L g w rfl F m D h.1 h.2
     . exact h.elim
   . next k e I J M N w=>
     split at h
     . next T kd z F D=>rw[lu,fM]at h;obtain⟨G,a,B,C⟩:=h;exact rt L g w rfl F D G B C
     . exact h.elim
   . exact h.elim
 . next t x ix g=>
   split at h
   . next k e I J M N w=>
     split at h
     . next T l kd z F m D=>rw[lu,fM]at h;obtain⟨G,a,B,C⟩:=h;exact yM L g w rfl F m D G B C
     . exact h.elim
   . exact h.elim
 . next op t x y t2 g=>
   split at h
   . next a b m u=>
     split at h
     . next I J M N E=>
       split at h
       . exact v5 L g E rfl m u (.inl ⟨rfl,rfl⟩) h
       . exact v5 L g E rfl m u (.inr ⟨rfl,rfl⟩) h
       . exact h.elim
     . exact h.elim
   . next kd a H b m u=>
     obtain⟨W,h⟩:=h
     have n:(op≠.shl/\op≠.shr)->H=kd:=λZ=>by
      rcases W with h|h|h
      . exact h.symm
      . exact absurd h Z.1
      . exact absurd h Z.2
     generalize (match o.dst with|some d=>mu.contains d|none=>false)=q at h;cases q with
     | true=>
       simp only[if_true,fM,pC]at h;obtain⟨v,R,X⟩:=h;rw[n ⟨(λe=>by subst e;cases R),(λe=>by subst e;cases R)⟩]at u;exact bZ g m u R X
     |false=>
     simp only[Bool.false_eq_true,if_false]at h;have h:=F4 h;unfold oD at h;split at h
     . rw[n (by simp)]at u;exact ln g m u (.inl ⟨rfl,rfl⟩) h.1 h.2
     . rw[n (by simp)]at u;exact ln g m u (.inr (.inl ⟨rfl,rfl⟩)) h.1 h.2
     . rw[n (by simp)]at u;exact ln g m u (.inr (.inr ⟨rfl,rfl⟩)) h.1 h.2
     . rw[n (by simp)]at u;exact bZ g m u rfl h
     . rw[n (by simp)]at u;exact bZ g m u rfl h
     . rw[n (by simp)]at u;exact bZ g m u rfl h
     . rw[n (by simp)]at u;exact bZ g m u rfl h
     . rw[n (by simp)]at u;exact bZ g m u rfl h
     . rw[n (by simp)]at u;exact bZ g m u rfl h
     . exact po g m u h.1 (.inl ⟨rfl,rfl⟩) h.2
     . exact po g m u h.1 (.inr ⟨rfl,rfl⟩) h.2
     . next B C S h4 h5 h6 h7 h8 h9 a8 a9=>
       obtain⟨v,R,X⟩:=h;rw[n ⟨λe=>by subst e;simp_all,λe=>by subst e;simp_all⟩]at u;exact bZ g m u R X
   . exact h.elim
 . next t x g=>
   split at h
   . next b m=>exact FW g m h
   . exact h.elim
 . next s t x g=>
   simp only[g]at A;split at h
   . next kd I J M N H a E m=>
     split at A
     . next ks b1 b2 b3 b4 kt c1 c2 c3 c4 hs Y=>rw[E]at Y;exact tp L g hs E rfl rfl m h
     . cases A
   . exact h.elim
 . next t x g=>
   split at h
   . next i w=>exact lp L g w h.1 h.2
   . exact h.elim
 . next f fs cs g=>exact rv g h
 . next x j g=>
   split at h
   . next l m=>rw[fM]at h;obtain⟨a,B,C⟩:=h;exact tu g m B C
   . exact h.elim
 . next x xt t g=>
   split at h
   . next i d y w m=>exact oe L g w h.1 m h.2
   . next i w m=>exact qC L g w h.1 m h.2
   . exact h.elim
 . next x g=>
   split at h
   . next v off m=>exact dS g (.inl ⟨_,_,m⟩) (by rw[m];exact h)
   . next b off m=>exact dS g (.inr (.inl ⟨_,_,m⟩)) (by rw[m];exact h)
   . next b l hole off m=>exact dS g (.inr (.inr (.inr ⟨_,_,_,_,m⟩))) (by rw[m];exact h)
   . next f l r m=>exact dS g (.inr (.inr (.inl ⟨_,_,_,m⟩))) (by rw[m];exact h)
   . exact h.elim
 . next x g=>
   split at h
   . next t y m=>exact yN g m h
   . exact h.elim
 . next t parts g=>
   split at h
   . next i w=>rw[lu,fM,pC]at h;obtain⟨⟨B,C⟩,l,S,h4⟩:=h;exact yP L g w B C S h4
   . exact h.elim
 . next t len parts g=>
   split at h
   . next e I J M N E=>
     split at h
     . next T F=>exact A9 L g E rfl F h.1 h.2
     . exact h.elim
   . exact h.elim
 . next c g=>
   simp only[g]at A;split at h
   . next x O Q=>
     simp only[O,Q]at A;have e:=jE O Q;split at A
     . next t G=>
       split at A
       . next e' I J M N E=>
         rw[e]at g;split at h
         . next kk es sp m=>exact xv L g G E rfl (.inl m) h
         . next m=>exact xv L (kk:=0) (sp:=.any) (es:=[]) g G E rfl (.inr ⟨m,rfl⟩) h
         . next b off len cap m=>exact vZ L g G E rfl m h
         . exact h.elim
       . cases A
     . cases A
   . next x y O Q=>
     rw[jE O Q]at g;split at h
     . next kd a H b m u=>obtain⟨rfl,h⟩:=h;exact nE g m u (.inl ⟨rfl,rfl⟩) h
     . exact h.elim
   . next x y O Q=>
     rw[jE O Q]at g;split at h
     . next kd a H b m u=>obtain⟨rfl,h⟩:=h;exact nE g m u (.inr ⟨rfl,rfl⟩) h
     . exact h.elim
   . exact h.elim
 . exact h.elim
end
end Go.bG

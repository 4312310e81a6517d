/- Part 7 of the proof. -/
import Derived.Orders
import Derived.Test.YtigilmjkokbblaaGreatDoorC6
set_option linter.all false
namespace Go.bd
open Go.Conc
theorem aK.congr{P:Program}{o:Oper}{env a:Env}{σ:aa}{K Kp:AV->aa->Prop}(h:aK P o env σ K Kp)(c:∀x∈o.op.operands,ar a x=ar env x):aK P o a σ K Kp:=λk O d e f=>h k O d (λx b=>by rw[<-c x b];exact e x b) f
def Nw(P:Program)(m:Mo)(o:Oper)(env:Env)(σ:aa)(R:AV->aa->Prop)(Kp:AV->aa->Prop):Prop:=
 (∃fo args d,o.op=.call ⟨.value fo,args,d⟩/\cN P m (ar env fo) (args.toList.map (ar env)) σ (λr b=>match r with|.val a=>R a b|.panic v=>Kp v b))\/
 ((∀c,o.op≠.defer c)/\aK P o env σ R Kp)
theorem Nw.mono{P:Program}{m:Mo}{o:Oper}{env:Env}{σ:aa}{R e Kp:AV->aa->Prop}(h:Nw P m o env σ R Kp)(f:∀a σ,R a σ->e a σ):Nw P m o env σ e Kp:=by
 rcases h with⟨fo,args,b,c,d⟩|⟨c,d⟩
 . refine .inl ⟨fo,args,b,c,d.mono λr i g=>?_⟩
   cases r
   . exact f _ _ g
   . exact g
 . exact .inr ⟨c,d.mono f⟩
theorem Nw.congr{P:Program}{m:Mo}{o:Oper}{env a:Env}{σ:aa}{R Kp:AV->aa->Prop}(h:Nw P m o env σ R Kp)(c:∀x∈o.op.operands,ar a x=ar env x):Nw P m o a σ R Kp:=by
 rcases h with⟨fo,args,d,b,e⟩|⟨b,e⟩
 . refine .inl ⟨fo,args,d,b,?_⟩
   have f:ar a fo=ar env fo:=c fo (by rw[b];simp[Op.operands,Call.operands]);have g:args.toList.map (ar a)=args.toList.map (ar env):=List.map_congr_left λx i=>c x (by rw[b];simp only[Op.operands,Call.operands];exact Array.mem_append.2 (.inr (by simpa using i)))
   rw[f,g];exact e
 . exact .inr ⟨b,e.congr c⟩
def lS(ops:Array Oper)(n:Nat)(env:Env)(o:Oper):Prop:=∃j b x d a,o.guard=some (j,b)/\ops[j]?=some a/\a.dst=some d/\d<n/\env d=.lit x/\RJ x b
def de(P:Program)(m:Mo)(ops:Array Oper)(n:Nat)(Kp:AV->aa->Prop):List Nat->Env->aa->(Env->aa->Prop)->Prop
 |[],env,σ,R=>R env σ
 | i::l,env,σ,R=>∃o,ops[i]?=some o/\Oper.ok n o=true/\
   ((cu ops n env o/\Nw P m o env σ (λa b=>de P m ops n Kp l (bo env o.dst a) b R) Kp)\/(lS ops n env o/\de P m ops n Kp l (bo env o.dst (.lit (.tuple #[]))) σ R))
section
variable{P:Program}{m:Mo}{fid n:Nat}{ro:Option Nat}{D:List lQ}{rc:Rec}{K:Exit->St->Prop}{k:List Item}{ops:Array Oper}
theorem Go.se{Kp:AV->aa->Prop}:∀(l:List Nat) (env:Env) (σ:aa),(∀v env σ,Kp v σ->K (.panic v) ⟨env,σ,D,rc⟩) ->
 de P m ops n Kp l env σ (λenv σ=>Go P m fid n ro k ⟨env,σ,D,rc⟩ K)->Go P m fid n ro (.inRegion ops l::k) ⟨env,σ,D,rc⟩ K
 |[],env,σ,_,h=>.zi h
 | i :: l,env,σ,f,⟨o,q,p,h⟩=>by
   rcases h with⟨B,h⟩|⟨⟨j,b,x,d,R,E,F,hd,s,G,t⟩,h⟩
   . rcases h with⟨fo,args,H,u,w⟩|⟨u,w⟩
     . refine .call q u B p (w.mono λr c C=>?_)
       cases r with
       |val a=>exact Go.se l _ c f C
       |panic v=>exact f _ _ _ C
     . refine .op q B p u ?_
       intro I O J A L;refine iq _ (w I O J A L) (λ_ _ _ ⟨v,M,N,Q,g,e,a,c,x,y,z⟩=>⟨v,M,N,Q,g,e,a,c,x,y,Go.se l _ c f z⟩) (λ_ _ _ ⟨e,a,c,x,y,z⟩=>⟨e,a,c,x,y,f _ _ _ z⟩)
   . exact .unwanted q E F hd s G t (Go.se l _ σ f h)
def Et(P:Program)(o:Oper)(env:Env)(a:AV):Prop:=∀σ,aK P o env σ (λc b=>c=a/\b=σ) (λ_ _=>False)
def sf(P:Program)(o:Oper)(env:Env)(σ:aa)(a:AV):Prop:=aK P o env σ (λc b=>c=a/\b=σ) (λ_ _=>False)
def iH(ops:Array Oper)(j i:Nat):Bool:=match ops[i]? with|some o=>o.after.toList.any λe=>Region.binds .any e && e.on==j|none=>false
def dK(ops:Array Oper)(o:Oper):List Nat:=(o.op.operands.toList.filterMap fun|.tmp t=>some t|_=>none)++(match o.guard with|some (j,_)=>(match (ops[j]?).bind (·.dst)with|some d=>[d]|none=>[])|none=>[])
def lG(ops:Array Oper)(rest S:List Nat):Bool:=
 rest.all fun i=>match ops[i]? with
  |none=>false
  | some o=>
    rest.all λj=>match ops[j]? with
     |none=>false
     | some a=>match a.dst with
       |none=>true
       | some d=>
         (if (dK ops o).contains d then
           (if S.contains i then(if S.contains j then iH ops j i && Nat.blt j i else iH ops i j)
            else(if S.contains j then iH ops j i else true))else true) &&
         (if S.contains i && i !=j && o.dst==some d then false else true)
def qg(ops:Array Oper):Bool:=(List.range ops.size).all λi=>match ops[i]? with|none=>false|some o=>o.after.toList.all λe=>!Region.binds .any e||Nat.blt e.on i
theorem wu{ops:Array Oper}(h:qg ops=true):∀i o,ops[i]?=some o->∀e∈o.after,Region.binds .any e=true->e.on<i:=by
 intro i o b e f hb;have a:i<ops.size:=(Array.getElem?_eq_some_iff.1 b).1;have c:=List.all_eq_true.1 h i (List.mem_range.2 a);simp only[b]at c;have d:=List.all_eq_true.1 c e (by simpa using f);rw[hb]at d;simpa using d
def jg(ops:Array Oper):List Nat->List Nat->Prop
 |_,[]=>True
 |done,i::l=>(∀j,iH ops j i=true->j∈done)/\i∉done/\jg ops (i::done) l
theorem py{env a:Env}{x:Operand}(h:∀t,x=.tmp t->a t=env t):ar a x=ar env x:=by cases x<;>first|rfl|exact h _ rfl
theorem mem_reads{o:Oper}{t:Nat}(h:Operand.tmp t∈o.op.operands):t∈dK ops o:=by unfold dK;refine List.mem_append.2 (.inl (List.mem_filterMap.2 ⟨.tmp t,by simpa using h,rfl⟩))
theorem zp{o a:Oper}{j:Nat}{b:Bool}{d:Nat}(c:o.guard=some (j,b))(e:ops[j]?=some a)(hd:a.dst=some d):d∈dK ops o:=by unfold dK;refine List.mem_append.2 (.inr ?_);rw[c];simp[e,hd]
theorem cu.congr{env a:Env}{o:Oper}(h:cu ops n env o)(g:∀t∈dK ops o,a t=env t):cu ops n a o:=by
 unfold cu at h ⊢;cases c:o.guard with
 |none=>trivial
 |some p=>obtain⟨j,b⟩:=p;simp only[c]at h ⊢;obtain⟨i,d,e,f,k,l⟩:=h;exact⟨i,d,e,f,k,by rw[g d (zp c e f)];exact l⟩
theorem lS.congr{env a:Env}{o:Oper}(h:lS ops n env o)(i:∀t∈dK ops o,a t=env t):lS ops n a o:=by obtain⟨j,b,x,d,k,f,g,hd,c,l,e⟩:=h;exact⟨j,b,x,d,k,f,g,hd,c,by rw[i d (zp f g hd)];exact l,e⟩
theorem kh(env:Env)(dst:Option Tmp)(a:AV)(t:Nat):bo env dst a t=if dst=some t then a else env t:=by
 cases dst with
 |none=>simp[bo]
 | some d=>
   by_cases h:t=d
   . subst h;simp[bo,Env.upd]
   . simp[bo,Env.upd,h,Ne.symm h]
def late(ops:Array Oper)(rest S:List Nat)(i:Nat):Bool:=rest.all λj=>S.contains j||iH ops i j
def AR(P:Program)(ops:Array Oper)(n:Nat)(rest S:List Nat)(a:Env)(σ:aa)(i:Nat):Prop:=∃o,ops[i]?=some o/\Oper.ok n o=true/\((cu ops n a o/\∃d,o.dst=some d/\(∀c,o.op≠.defer c)/\(Et P o a (a d)\/(late ops rest S i=true/\sf P o a σ (a d))))\/(lS ops n a o/\∃d,o.dst=some d/\a d=.lit (.tuple #[])))
theorem jK{rest S:List Nat}(e:lG ops rest S=true){i j:Nat}{o l:Oper}{d:Nat}(f:i∈rest)(g:j∈rest)(p:ops[i]?=some o)(a:ops[j]?=some l)(hd:l.dst=some d):
 (d∈dK ops o->(i∈S->(j∈S->iH ops j i=true/\j<i)/\(j∉S->iH ops i j=true))/\(i∉S->j∈S->iH ops j i=true))/\(i∈S->i≠j->o.dst≠some d):=by
 unfold lG at e;rw[List.all_eq_true]at e;have m:=e i f;simp only[p]at m;have n:=List.all_eq_true.1 m j g;simp only[a,hd,Bool.and_eq_true]at n;obtain⟨c,q⟩:=n;refine⟨λr=>?_,λb h s=>?_⟩
 . have k:(dK ops o).contains d=true:=by simpa using r
   rw[if_pos k]at c;refine⟨λb=>⟨λa=>?_,λa=>?_⟩,λb a=>?_⟩
   . simpa[b,a]using c
   . simpa[b,a]using c
   . simpa[b,a]using c
 . simp[b,h,s]at q
theorem hoist{rest S:List Nat}{Kp:AV->aa->Prop}{R:Env->aa->Prop}(V:lG ops rest S=true):
 ∀ (l done:List Nat) (env b:Env) (σ:aa),(∀i∈l,i∈rest)->jg ops done l->(∀i∈l,i∉done)->l.Nodup->(∀i∈l,∃o,ops[i]?=some o) ->
   (∀i∈l,i∈S->AR P ops n rest S b σ i)->(∀t,(∀i∈l,i∈S->∀o,ops[i]?=some o->o.dst≠some t)->b t=env t) ->
   de P m ops n Kp (l.filter λi=>!S.contains i) b σ R->de P m ops n Kp l env σ R
 | [],done,env,b,σ,_,_,_,_,_,_,W,h=>by
   have:b=env:=funext λt=>W t (λi hi=>by simp at hi)
   rw[<-this];exact h
 | i :: l, done,env,b,σ,p,ha,I,w,A,hh,W,h=>by
   obtain⟨a1,a2,a3⟩:=ha;obtain⟨o,H⟩:=A i (by simp);have X:i∉l:=(List.nodup_cons.1 w).1
   have B:∀t∈dK ops o,b t=env t:=λt s=>W t λj c f J k hd=>by
    obtain⟨c1,_⟩:=jK V (p i (by simp)) (p j (by simp[c])) H k hd
    have N:iH ops j i=true:=by
     by_cases q:i∈S
     . exact(((c1 s).1 q).1 f).1
     . exact(c1 s).2 q f
    exact I j c (a1 j N)
   have K:∀x∈o.op.operands,ar env x=ar b x:=λx hx=>py λt e=>(B t (mem_reads (by rw[<-e];exact hx))).symm
   have L:∀j∈l,j∉i::done:=λj c hm=>by
    rcases List.mem_cons.1 hm with rfl|hm
    . exact X c
    . exact I j (by simp[c]) hm
   by_cases q:i∈S
   . have hf:(i::l).filter (λi=>!S.contains i)=l.filter λi=>!S.contains i:=by simp[q]
     rw[hf]at h;obtain⟨o',C,D,E⟩:=hh i (by simp) q;rw[H]at C;cases C
     have next:∀a d,o.dst=some d->b d=a->de P m ops n Kp l (bo env o.dst a) σ R:=λa d hd a7=>
      hoist V l (i::done) (bo env o.dst a) b σ (λj c=>p j (by simp[c])) a3 L (List.nodup_cons.1 w).2 (λj c=>A j (by simp[c])) (λj c=>hh j (by simp[c])) (λt s=>by
       rw[kh,hd];by_cases Q:d=t
       . subst Q;simp[a7]
       . rw[if_neg (λe=>Q (Option.some.inj e))]
         refine W t λj c f J k F=>?_
         rcases List.mem_cons.1 c with rfl|c
         . rw[H]at k;cases k
           rw[hd]at F;exact Q (Option.some.inj F)
         . exact s j c f J k F) h
     rcases E with⟨E,d,hd,T,G⟩|⟨E,d,hd,c⟩
     . refine⟨o,H,D,.inl ⟨E.congr λt s=>(B t s).symm,.inr ⟨T,?_⟩⟩⟩
       have:=(show sf P o b σ (b d)from G.elim (λh=>h σ) (λh=>h.2)).congr K;intro kk O ρ a8 hr;refine iq _ (this kk O ρ a8 hr) (λ_ _ _ ⟨v,hv,k2,O2,g,a9,a,r,x,y,e1,e2⟩=>⟨v,hv,k2,O2,g,a9,a,r,x,y,?_⟩) (λ_ _ _ ⟨_,_,_,_,_,z⟩=>z.elim);subst e1;subst e2;exact next _ d hd rfl
     . exact⟨o,H,D,.inr ⟨E.congr λt s=>(B t s).symm,next _ d hd c⟩⟩
   . have hf : (i::l).filter (λi=>!S.contains i)=i::l.filter λi=>!S.contains i:=by simp[q]
     rw[hf]at h;obtain⟨o',C,D,E⟩:=h;rw[H]at C;cases C
     have next:∀a r,de P m ops n Kp (l.filter λi=>!S.contains i) (bo b o.dst a) r R->de P m ops n Kp l (bo env o.dst a) r R:=λa r h'=>
      hoist V l (i::done) (bo env o.dst a) (bo b o.dst a) r (λj c=>p j (by simp[c])) a3 L (List.nodup_cons.1 w).2 (λj c=>A j (by simp[c]))
       (fun j c f=>by
         obtain⟨J,k,Y,ad⟩:=hh j (by simp[c]) f;have al:j≠i:=λe=>X (e ▸ c)
         have u:∀t∈dK ops J,bo b o.dst a t=b t:=λt s=>by
          rw[kh];by_cases hd:o.dst=some t
          . obtain⟨c1,_⟩:=jK V (p j (by simp[c])) (p i (by simp)) k H hd
            have:=((c1 s).1 f).2 q;exact absurd (a1 j this) (I j (by simp[c]))
          . rw[if_neg hd]
         have M:∀d,J.dst=some d->bo b o.dst a d=b d:=λd hd=>by
          rw[kh];by_cases Z:o.dst=some d
          . obtain⟨_,c2⟩:=jK V (p j (by simp[c])) (p i (by simp)) k H Z
            exact absurd hd (c2 f al)
          . rw[if_neg Z]
         refine⟨J,k,Y,?_⟩;rcases ad with⟨U,d,hd,T,G⟩|⟨U,d,hd,av⟩
         . refine .inl ⟨U.congr u,d,hd,T,.inl λσ=>?_⟩
           rw[M d hd];rcases G with G|⟨hl,_⟩
           . exact(G σ).congr λx hx=>py λt e=>u t (mem_reads (by rw[<-e];exact hx))
           . have:=List.all_eq_true.1 hl i (p i (by simp))
             rw[Bool.or_eq_true]at this;rcases this with h1|h1
             . exact absurd (by simpa using h1) q
             . exact absurd (a1 j h1) (I j (by simp[c]))
         . exact .inr ⟨U.congr u,d,hd,by rw[M d hd];exact av⟩)
       (fun t s=>by
         rw[kh,kh];by_cases hd:o.dst=some t
         . rw[if_pos hd,if_pos hd]
         . rw[if_neg hd,if_neg hd]
           refine W t λj c f J k F=>?_
           rcases List.mem_cons.1 c with rfl|c
           . exact q f
           . exact s j c f J k F) h'
     rcases E with⟨E,h⟩|⟨E,h⟩
     . exact⟨o,H,D,.inl ⟨E.congr λt s=>(B t s).symm,(h.congr K).mono λa r=>next a r⟩⟩
     . exact⟨o,H,D,.inr ⟨E.congr λt s=>(B t s).symm,next _ σ h⟩⟩
theorem jg.sub(p:Nat->Bool):∀(l done a:List Nat),jg ops done l->(∀i∈done,i∈a)->(∀i∈l,p i=false->i∈a)->(∀i∈l,p i=true->i∉a)->l.Nodup->jg ops a (l.filter p)
 |[],_,_,_,_,_,_,_=>trivial
 | i :: l,done,a,⟨o,r,n⟩,f,g,h,k=>by
   have m:i∉l:=(List.nodup_cons.1 k).1;by_cases d:p i=true
   . rw [List.filter_cons_of_pos d]
     refine⟨λj c=>f j (o j c),h i (by simp) d,?_⟩
     exact jg.sub p l (i::done) (i::a) n (λj c=>by
      rcases List.mem_cons.1 c with e|e
      . simp[e]
      . simp[f j e]) (λj c b=>by simp[g j (by simp[c]) b]) (λj c b q=>by
      rcases List.mem_cons.1 q with e|e
      . exact m (e ▸ c)
      . exact h j (by simp[c]) b e) (List.nodup_cons.1 k).2
   . rw [List.filter_cons_of_neg d]
     exact jg.sub p l (i::done) a n (λj c=>by
      rcases List.mem_cons.1 c with e|e
      . rw[e];exact g i (by simp) (by simpa using d)
      . exact f j e) (λj c b=>g j (by simp[c]) b) (λj c b=>h j (by simp[c]) b) (List.nodup_cons.1 k).2
theorem AS(d:∀i o,ops[i]?=some o->∀e∈o.after,Region.binds .any e=true->e.on<i):∀(fuel t:Nat) (listed:Array Bool) (done:List Nat),listed.size=ops.size->(∀i,i<ops.size->(listed.getD i true=true↔i∈done)) ->
 ((List.range ops.size).filter λi=>!listed.getD i true).length<=fuel ->
 jg ops done (Region.linearise.go .any ops fuel t listed [])/\(Region.linearise.go .any ops fuel t listed []).Nodup/\(∀i∈Region.linearise.go .any ops fuel t listed [],i∉done/\i<ops.size)/\∀i,i<ops.size->(i∈Region.linearise.go .any ops fuel t listed []\/i∈done):=by
 intro fuel;induction fuel with
 | zero=>
   intro t listed done m hd H;have p:(List.range ops.size).filter (λi=>!listed.getD i true)=[]:=List.eq_nil_of_length_eq_zero (by omega);unfold Region.linearise.go;refine⟨trivial,List.nodup_nil,λi b=>(by cases b),λi b=>.inr ((hd i b).1 ?_)⟩;have:=List.filter_eq_nil_iff.1 p i (List.mem_range.2 b);cases y:listed.getD i true with
   |true=>rfl
   |false=>rw[y]at this;exact absurd rfl this
 | succ fuel I=>
   intro t listed done m hd H;unfold Region.linearise.go;simp only[];generalize z:(List.range ops.size).filter (λi=>!listed.getD i true && ((ops[i]?).map (·.after.all λe=>!Region.binds .any e||listed.getD e.on false)).getD false)=rs
   have g:∀i,i∈rs↔i<ops.size/\listed.getD i true=false/\∃o,ops[i]?=some o/\∀e∈o.after,Region.binds .any e=true->listed.getD e.on false=true:=by
    intro i;rw[<-z,List.mem_filter,List.mem_range];refine and_congr_right λb=>?_
    rw[Bool.and_eq_true,Bool.not_eq_true'];refine and_congr_right λ_=>?_
    have w:ops[i]?=some ops[i]:=Array.getElem?_eq_getElem b;rw[w];simp only[Option.map_some,Option.getD_some,Array.all_eq_true_iff_forall_mem,Bool.or_eq_true,Bool.not_eq_true',Option.some.injEq,exists_eq_left'];refine forall_congr' λe=>forall_congr' λp=>?_
    cases Region.binds .any e<;>simp
   have q:∀j,j<ops.size->listed.getD j false=listed.getD j true:=λj c=>by
    have A:j<listed.size:=by omega
    simp[A]
   cases b:rs[t % rs.length]? with
   | none=>
     simp only[]
     have r:rs=[]:=by
      cases rs with
      |nil=>rfl
      | cons x xs=>
        have B:=List.getElem?_eq_none_iff.1 b;have J:t % (x::xs).length<(x::xs).length:=Nat.mod_lt _ (by simp);omega
     refine⟨trivial,List.nodup_nil,λi b=>(by cases b),?_⟩;intro i;induction i using Nat.strongRecOn with
     | ind i C=>
       intro b;refine .inr ((hd i b).1 ?_);cases y:listed.getD i true with
       |true=>rfl
       | false=>
         have:i∈rs:=(g i).2 ⟨b,y,ops[i],Array.getElem?_eq_getElem b,λe p hb=>by
          have D:=d i ops[i] (Array.getElem?_eq_getElem b) e p hb;have f:e.on<ops.size:=by omega
          rcases C e.on D f with h|h
          . cases h
          . rw[q e.on f];exact(hd e.on f).2 h⟩
         rw[r]at this;cases this
   | some i=>
     simp only[];rw[linearise_go_acc,List.reverse_singleton,List.singleton_append];have E:=List.mem_of_getElem? b;obtain⟨n,s,o,w,u⟩:=(g i).1 E;have k:i∉done:=λh=>by have:=(hd i n).2 h;rw[s]at this;cases this
     have l:∀j,j<ops.size->((listed.setIfInBounds i true).getD j true=if j=i then true else listed.getD j true):=λj c=>by
      by_cases a:j=i
      . subst a;rw[if_pos rfl];simp[m,c]
      . rw[if_neg a];exact getD_set_ne true (Ne.symm a)
     obtain⟨K,L,F,M⟩:=I (t / rs.length) (listed.setIfInBounds i true) (i::done) (by simpa using m) (λj c=>by
      rw[l j c];by_cases a:j=i
      . simp[a]
      . rw[if_neg a,hd j c];exact⟨λh=>List.mem_cons_of_mem _ h,λh=>(List.mem_cons.1 h).resolve_left a⟩) (by
      have N:(List.range ops.size).filter (λj=>!(listed.setIfInBounds i true).getD j true)=((List.range ops.size).filter (λj=>!listed.getD j true)).filter (· !=i):=by
       rw[List.filter_filter];refine List.filter_congr λj c=>?_
       rw[l j (List.mem_range.1 c)];by_cases a:j=i<;>simp[a]
      rw[N];have:(((List.range ops.size).filter (λj=>!listed.getD j true)).filter (· !=i)).length<((List.range ops.size).filter (λj=>!listed.getD j true)).length:=List.length_filter_lt_length_iff_exists.2 ⟨i,List.mem_filter.2 ⟨List.mem_range.2 n,by rw[s];rfl⟩,by simp⟩;omega)
     refine⟨⟨λj c=>?_,k,K⟩,List.nodup_cons.2 ⟨λh=>(F i h).1 (by simp),L⟩,λj c=>?_,λj c=>?_⟩
     . unfold iH at c
       rw[w]at c;obtain⟨e,p,hb⟩:=List.any_eq_true.1 c;simp only[Bool.and_eq_true,beq_iff_eq]at hb;have v:e∈o.after:=by simpa using p
       have B:=u e v hb.1;have J:=d i o w e v hb.1;have G:e.on<ops.size:=by omega
       rw[q _ G]at B;rw[<-hb.2];exact(hd _ G).1 B
     . rcases List.mem_cons.1 c with e|e
       . subst e;exact⟨k,n⟩
       . exact⟨λh=>(F j e).1 (by simp[h]),(F j e).2⟩
     . rcases M j c with h|h
       . exact .inl (by simp[h])
       . rcases List.mem_cons.1 h with e|e
         . exact .inl (by simp[e])
         . exact .inr e
theorem AT(a:∀i o,ops[i]?=some o->∀e∈o.after,Region.binds .any e=true->e.on<i)(t:Nat):
 jg ops [] (Region.linearise .any ops t)/\(Region.linearise .any ops t).Nodup/\(∀i,i∈Region.linearise .any ops t↔i<ops.size):=by
 obtain⟨b,c,d,f⟩:=AS a ops.size t (Array.replicate ops.size false) [] (by simp) (λi g=>by simp[g]) (by exact Nat.le_trans (List.length_filter_le _ _) (Nat.le_of_eq List.length_range));refine⟨b,c,λi=>⟨λh=>(d i h).2,λh=>?_⟩⟩;rcases f i h with h|h
 . exact h
 . cases h
end
section
variable{P:Program}{m:Mo}{fid n:Nat}{ro:Option Nat}{D:List lQ}{rc:Rec}{K:Exit->St->Prop}{k:List Item}{ops:Array Oper}{Kp:AV->aa->Prop}
def Any(P:Program)(m:Mo)(ops:Array Oper)(n:Nat)(Kp:AV->aa->Prop)(done rest:List Nat)(env:Env)(σ:aa)(R:Env->aa->Prop):Prop:=∀l,jg ops done l->l.Nodup->(∀i,i∈l↔i∈rest)->de P m ops n Kp l env σ R
theorem Go.draw{id:Nat}(j:P.follows .mixedOrders=true)(l:qg ops=true){env:Env}{σ:aa}
 (h:Any P m ops n (λv σ=>∀env,K (.panic v) ⟨env,σ,D,rc⟩) [] (List.range ops.size) env σ (λenv σ=>Go P m fid n ro k ⟨env,σ,D,rc⟩ K)):Go P m fid n ro (.code (.region id ops true)::k) ⟨env,σ,D,rc⟩ K:=by
 intro Q d O tmps defs kind cs o p q;refine .step (λr s g=>r=d/\s=O/\∃t,g=G ⟨fid,tmps,.inRegion ops (Region.linearise .any ops t)::k,defs,.run,kind,ro⟩ (gf rc cs)) rfl ?_ ?_
 . rintro _ _ _ ⟨rfl,rfl,t,rfl⟩
   obtain⟨u,y,z⟩:=AT (wu l) t;have:=h _ u y (λi=>by rw[z,List.mem_range]);exact Go.se (D:=D) (rc:=rc) _ env σ (λv env σ A=>A env) this _ _ _ tmps defs kind cs o p q
 . intro w a
   refine⟨G ⟨fid,tmps,.inRegion ops (Region.linearise .any ops (w.tape w.drawn (.order fid id)))::k,defs,.run,kind,ro⟩ (gf rc cs),{w with drawn:=w.drawn+1},#[],d,O,?_,?_,?_,rfl,rfl,_,rfl⟩
   . simp[G,stepG,stepG.exec,choose,Sem.run,Question.forced,Question.cut,Region.schedule,j]
   . exact{le:=.refl _,size:=Nat.le_refl _,keep:=λ_ _ _=>rfl,tail:=λb n _ _ c e h=>⟨c,h,rfl,λ_ _=>rfl⟩,part:=λb n _ _ c e h=>⟨c,h,rfl,λ_ _=>rfl⟩,shape:=λ_ _=>rfl,own:=λb x h=>.inl ⟨x,h,.refl x⟩,cell:=λ_ _ _ h=>.inl h,sh:=λ_ _ h=>.inl h,evs:=λe h=>by simp at h,tape:=rfl,output:=rfl,os:=rfl,low:=λe h=>by simp at h,tok:=λ_ f h=>⟨f,h⟩}
   . exact⟨a.apart,a.cell,a.sh,a.obj,a.tail,a.part⟩
def jh(P:Program)(m:Mo)(ops:Array Oper)(n:Nat)(Kp:AV->aa->Prop)(i:Nat)(env:Env)(σ:aa)(R:Env->aa->Prop):Prop:=
 ∃ o,ops[i]?=some o/\Oper.ok n o=true/\
   ((cu ops n env o/\Nw P m o env σ (λa b=>R (bo env o.dst a) b) Kp)\/(lS ops n env o/\R (bo env o.dst (.lit (.tuple #[]))) σ))
section
variable(L:iG P)
instance(n:Int):Decidable (fits n):=by unfold fits;infer_instance
def wv(op:BinOp)(kd:IntKind)(a b:Int):Option Value:=
 match op,kd with
 |.add,.i64=>if fits (a+b)then some (.int .i64 (a+b))else none
 |.sub,.i64=>if fits (a-b)then some (.int .i64 (a-b))else none
 |.mul,.i64=>if fits (a*b)then some (.int .i64 (a*b))else none
 |.eql,_=>some (.bool (a==b))
 |.neq,_=>some (.bool (a !=b))
 |.lss,_=>some (.bool (decide (a<b)))
 |.leq,_=>some (.bool (decide (a<=b)))
 |.gtr,_=>some (.bool (decide (a>b)))
 |.geq,_=>some (.bool (decide (a>=b)))
 |.shl,_=>if 0<=b then some (.int kd (kd.wrap (a*2 ^ (min b.toNat kd.bits))))else none
 |.shr,_=>if 0<=b then some (.int kd (a.fdiv (2 ^ (min b.toNat kd.bits))))else none
 |op,kd=>qE op kd a b
theorem AU{op:BinOp}{kd:IntKind}{a b:Int}{v:Value}{R:Value->Prop}(h:wv op kd a b=some v)(c:R v):rf op kd a b R:=by
 unfold wv at h;unfold rf;split at h
 . split at h
   . next d=>cases h;exact⟨d,c⟩
   . cases h
 . split at h
   . next d=>cases h;exact⟨d,c⟩
   . cases h
 . split at h
   . next d=>cases h;exact⟨d,c⟩
   . cases h
 . cases h;exact c
 . cases h;exact c
 . cases h;exact c
 . cases h;exact c
 . cases h;exact c
 . cases h;exact c
 . split at h
   . next d=>cases h;exact⟨d,c⟩
   . cases h
 . split at h
   . next d=>cases h;exact⟨d,c⟩
   . cases h
 . split<;>first|contradiction|exact⟨v,h,c⟩
def vu(mu:List Nat)(o:Oper)(env:Env):Option AV:=
 match o.op with
 |.move x|.assign x=>some (ar env x)
 | .pick c a b=>match ar env c with
   |.lit (.bool x)=>some (if x then ar env a else ar env b)
   |_=>none
 |.box _ x=>if(match o.dst with|some d=>mu.contains d|none=>false)=true then none else if(ar env x).cells.all AV.flat=true then some (.cp (ar env x) 0)else none
 | .load t p=>match L.tt t,ar env p with
   |some i,.cp v off=>bW v.cells off i.size i.agg
   |some i,.kp _ l hole off=>Nu l hole off i.size i.agg
   |_,_=>none
 | .fieldAddr s x j=>match L.tt s with
   | some ⟨.struct,_,_,_,jd⟩=>(match jd[j]? with
     |some f=>if f.2.1≠0 then rY (ar env x) f.1 else none
     |none=>none)
   |_=>none
 | .field s x j=>match L.tt s,ar env x with
   | some ⟨.struct,_,_,_,jd⟩,.agg l=>(match jd[j]? with
     |some f=>(match L.tt f.2.2 with|some n=>bW l f.1 n.size n.agg|none=>none)
     |none=>none)
   |_,_=>none
 | .indexAddr t x h=>match L.tt t with
   | some ⟨.slice e,_,_,_,_⟩=>(match L.tt e,ar env x,ar env h with
     |some g,.sl q es _,.lit (.int _ z)=>if q=g.size/\0<=z then(es[z.toNat]?).map (λa=>.cp a 0)else none
     |some g,.ew b off len _,.lit (.int _ z)=>if 0<=z/\z<len then some (.ref b (off+z.toNat*g.size))else none
     |_,_,_=>none)
   | some ⟨.array k e,_,_,_,_⟩=>(match L.tt e,ar env h with
     |some g,.lit (.int _ z)=>if 0<=z/\z<k then rY (ar env x) (z.toNat*g.size)else none
     |_,_=>none)
   |_=>none
 | .index t x h=>match L.tt t with
   | some ⟨.array k e,_,_,_,_⟩=>(match L.tt e,ar env x,ar env h with
     |some g,.agg l,.lit (.int _ z)=>if 0<=z/\z<k then bW l (z.toNat*g.size) g.size g.agg else none
     |_,_,_=>none)
   |_=>none
 | .binOp op t x y _=>match L.tt t with
   | some ⟨.int _,_,_,_,_⟩=>(match ar env x,ar env y with
     |.lit (.int kd a),.lit (.int m b)=>if kd=m\/op=.shl\/op=.shr then(wv op kd a b).map .lit else none
     |_,_=>none)
   |_=>none
 | .unOp .not _ x=>match ar env x with
   |.lit (.bool b)=>some (.lit (.bool !b))
   |_=>none
 | .convert s t x=>match L.tt s,L.tt t,ar env x with
   |some ⟨.int _,_,_,_,_⟩,some ⟨.int kd,_,_,_,_⟩,.lit (.int _ a)=>some (.lit (.int kd (kd.wrap a)))
   |_,_,_=>none
 | .makeInterface t x=>match L.tt t with
   |some i=>if i.kind≠.iface then some (.lg t (ar env x))else none
   |none=>none
 |.makeFunc f fs cs=>some (.fn f (fs.toList.map (ar env)) (cs.toList.map (ar env)))
 | .extract x j=>match ar env x with
   |.bG l=>l[j]?
   |_=>none
 | .nilCheck x=>match ar env x with
   |.cp v off=>some (.cp v off)
   |.ref b off=>some (.ref b off)
   |.kp b l hole off=>some (.kp b l hole off)
   |_=>none
 | .call c=>match c.callee,c.args.toList with
   | .builtin .len,[x]=>(match c.argTypes[0]? with
     | some t=>(match L.tt t with
       | some ⟨.slice _,_,_,_,_⟩=>(match ar env x with
         |.sl _ es _=>some (.lit (.int .i64 es.length))
         |.lit (.slice none 0 0)=>some (.lit (.int .i64 0))
         |.ew _ _ len _=>some (.lit (.int .i64 len))
         |_=>none)
       |_=>none)
     |none=>none)
   |_,_=>none
 |_=>none
theorem wx{mu:List Nat}{o:Oper}{env:Env}{a:AV}(h:vu L mu o env=some a):(∀c,o.op≠.defer c)/\Et P o env a:=by
 have key:qJ L o=true/\∀(K:AV->aa->Prop) σ,K a σ->RN L mu o env σ K (λ_ _=>False):=by
  unfold vu at h;unfold qJ RN;split at h
  . next x m=>simp only[m];cases h;exact⟨by first|rfl|trivial,λK σ g=>g⟩
  . next x m=>simp only[m];cases h;exact⟨by first|rfl|trivial,λK σ g=>g⟩
  . next c x y m=>
    simp only[m];split at h
    . next b hb=>simp only[hb];cases h;exact⟨by first|rfl|trivial,λK σ g=>g⟩
    . cases h
  . next t x m=>
    simp only[m];by_cases J:(match o.dst with|some d=>mu.contains d|none=>false)=true
    . rw[if_pos J]at h;cases h
    . rw[if_neg J]at h
      by_cases A:(ar env x).cells.all AV.flat=true
      . rw[if_pos A]at h;cases h;exact⟨trivial,λK σ g=>⟨A,(if_neg (c:=_=true) J).symm ▸ g⟩⟩
      . rw[if_neg A]at h;cases h
  . next t p m=>
    simp only[m];split at h
    . next i v off F M=>simp only[F,M];exact⟨by first|rfl|trivial,λK σ g=>⟨a,h,g⟩⟩
    . next i b l hole off F M=>simp only[F,M];exact⟨by first|rfl|trivial,λK σ g=>⟨a,h,g⟩⟩
    . cases h
  . next s x j m=>
    simp only[m];split at h
    . next B C D jd G=>
      simp only[G];split at h
      . next f A=>
        split at h
        . next N=>exact⟨by first|rfl|trivial,λK σ g=>by simp only[A];exact⟨N,a,h,g⟩⟩
        . cases h
      . cases h
    . cases h
  . next s x j m=>
    simp only[m];split at h
    . next B C D jd l G n=>
      simp only[G,n];split at h
      . next f A=>
        split at h
        . next fi H=>exact⟨by first|rfl|trivial,λK σ g=>by rename_i A _ H;simp only[A,H];exact⟨a,h,g⟩⟩
        . cases h
      . cases h
    . cases h
  . next t x U m=>
    simp only[m];split at h
    . next e B C D I w=>
      simp only[w];split at h
      . next O T es sp kd z E n q=>
        simp only[E,n,q];split at h
        . next r=>obtain⟨y,Q,R⟩:=Option.map_eq_some_iff.1 h;exact⟨by first|rfl|trivial,λK σ g=>⟨r.1,r.2,y,Q,by rw[R];exact g⟩⟩
        . cases h
      . next O b off len cap kd z E n q=>
        simp only[E,n,q];split at h
        . next r=>cases h;exact⟨by first|rfl|trivial,λK σ g=>⟨r,g⟩⟩
        . cases h
      . cases h
    . next k e B C D I w=>
      simp only[w];split at h
      . next O kd z E q=>
        simp only[E,q];split at h
        . next r=>exact⟨by first|rfl|trivial,λK σ g=>⟨r,a,h,g⟩⟩
        . cases h
      . cases h
    . cases h
  . next t x U m=>
    simp only[m];split at h
    . next k e B C D I w=>
      simp only[w];split at h
      . next O l kd z E n q=>
        simp only[E,n,q];split at h
        . next r=>exact⟨by first|rfl|trivial,λK σ g=>⟨r,a,h,g⟩⟩
        . cases h
      . cases h
    . cases h
  . next op t x y t2 m=>
    simp only[m];split at h
    . next T B C D I w=>
      simp only[w];split at h
      . next kd u V v n W=>
        simp only[n,W];split at h
        . next X=>obtain⟨y,Q,R⟩:=Option.map_eq_some_iff.1 h;refine⟨by first|rfl|trivial,λK σ g=>⟨X,AU Q (by rw[R];exact g)⟩⟩
        . cases h
      . cases h
    . cases h
  . next t x m=>
    simp only[m];split at h
    . next b hb=>simp only[hb];cases h;exact⟨by first|rfl|trivial,λK σ g=>g⟩
    . cases h
  . next s t x m=>
    simp only[m];split at h
    . next k1 B C D I kd b1 b2 b3 b4 kx u G w n=>simp only[G,w,n];cases h;exact⟨by first|rfl|trivial,λK σ g=>g⟩
    . cases h
  . next t x m=>
    simp only[m];split at h
    . next i F=>
      simp only[F];split at h
      . next r=>cases h;exact⟨by first|rfl|trivial,λK σ g=>⟨r,g⟩⟩
      . cases h
    . cases h
  . next f fs cs m=>simp only[m];cases h;exact⟨by first|rfl|trivial,λK σ g=>g⟩
  . next x j m=>
    simp only[m];split at h
    . next l Y=>simp only[Y];exact⟨by first|rfl|trivial,λK σ g=>⟨a,h,g⟩⟩
    . cases h
  . next x m=>
    simp only[m];split at h
    . next v off n=>simp only[n];cases h;exact⟨by first|rfl|trivial,λK σ g=>⟨trivial,g⟩⟩
    . next b off n=>simp only[n];cases h;exact⟨by first|rfl|trivial,λK σ g=>⟨trivial,g⟩⟩
    . next b l hole off n=>simp only[n];cases h;exact⟨by first|rfl|trivial,λK σ g=>⟨trivial,g⟩⟩
    . cases h
  . next c m=>
    simp only[m];split at h
    . next x r Z=>
      simp only[r,Z];split at h
      . next t N=>
        split at h
        . next e B C D I w=>
          simp only[N,w];split at h
          . next T es sp n=>simp only[n];cases h;exact⟨by first|rfl|trivial,λK σ g=>g⟩
          . next n=>simp only[n];cases h;exact⟨by first|rfl|trivial,λK σ g=>g⟩
          . next n=>simp only[n];cases h;exact⟨by first|rfl|trivial,λK σ g=>g⟩
          . cases h
        . cases h
      . cases h
    . cases h
  . cases h
 refine⟨λc e=>?_,λσ=>Hv L key.1 (key.2 (λa' S=>a'=a/\S=σ) σ ⟨rfl,rfl⟩)⟩;have:=key.1;unfold qJ at this;rw[e]at this;cases this
def uK(o:Oper)(env:Env)(σ:aa):Option AV:=
 match o.op with
 | .load t p=>match L.tt t with
   |some i=>oW i σ (ar env p)
   |none=>none
 |_=>none
theorem uL{o:Oper}{env:Env}{σ:aa}{a:AV}(h:uK L o env σ=some a):(∀c,o.op≠.defer c)/\sf P o env σ a:=by
 unfold uK at h;split at h
 . next t p b=>
   split at h
   . next i d=>exact⟨λc e=>(by rw[b]at e;cases e),AO L b d h ⟨rfl,rfl⟩⟩
   . cases h
 . cases h
def jC(mu:List Nat)(ops:Array Oper)(n:Nat)(lt:Bool)(σ:aa):List Nat->Env->(Env->Prop)->Prop
 |[],env,K=>K env
 | i :: S,env,K=>match ops[i]? with
   | some o=>Oper.ok n o=true/\o.dst.isSome=true/\rh ops n env o (match vu L mu o env with
      |some a=>jC mu ops n lt σ S (bo env o.dst a) K
      | none=>lt=true/\(match uK L o env σ with
        |some a=>jC mu ops n lt σ S (bo env o.dst a) K
        |none=>False)) (jC mu ops n lt σ S (bo env o.dst (.lit (.tuple #[]))) K)
   |none=>False
def ascending:List Nat->Bool
 |i::j::l=>Nat.blt i j && ascending (j::l)
 |_=>true
theorem pz{i:Nat}:∀{l:List Nat},ascending (i::l)=true->ascending l=true/\∀j∈l,i<j
 |[],_=>⟨rfl,λ_ h=>by cases h⟩
 | a::l,h=>by
   simp only[ascending,Bool.and_eq_true,Nat.blt_eq]at h;obtain⟨c,d⟩:=h;have e:=pz d;refine⟨d,λj b=>?_⟩;rcases List.mem_cons.1 b with rfl|b
   . exact c
   . exact Nat.lt_trans c (e.2 j b)
theorem wy{mu rest:List Nat}{σ:aa}{lt:Bool}(p:List Nat)(D:lG ops rest p=true)(m:lt=true->∀i∈p,late ops rest p i=true):∀(S:List Nat) (env:Env) (K:Env->Prop),ascending S=true->(∀i∈S,i∈p/\i∈rest)->jC L mu ops n lt σ S env K ->
 ∃f,K f/\(∀i∈S,AR P ops n rest p f σ i)/\∀t,(∀i∈S,∀o,ops[i]?=some o->o.dst≠some t)->f t=env t
 |[],env,K,_,_,h=>⟨env,h,λ_ W=>(by cases W),λ_ _=>rfl⟩
 | i :: S, env,K,E,l,h=>by
   obtain⟨E,z⟩:=pz E;unfold jC at h;split at h
   . next o w=>
     obtain⟨F,G,h⟩:=h;obtain⟨d,hd⟩:=Option.isSome_iff_exists.1 G
     have main:∀a,jC L mu ops n lt σ S (bo env o.dst a) K->((cu ops n env o/\(∀c,o.op≠.defer c)/\(Et P o env a\/(late ops rest p i=true/\sf P o env σ a)))\/(lS ops n env o/\a=.lit (.tuple #[])))->∃f,K f/\(∀j∈i::S,AR P ops n rest p f σ j)/\∀t,(∀j∈i::S,∀o,ops[j]?=some o->o.dst≠some t)->f t=env t:=by
      intro a X q;obtain⟨f,Y,Z,H⟩:=wy p D m S _ K E (λj g=>l j (by simp[g])) X
      have k:∀t∈dK ops o,f t=env t:=λt A=>by
       have I:∀j∈S,∀y,ops[j]?=some y->y.dst≠some t:=λj g y s u=>by
        obtain⟨J,_⟩:=jK D (l i (by simp)).2 (l j (by simp[g])).2 w s u;have:=(((J A).1 (l i (by simp)).1).1 (l j (by simp[g])).1).2;have:=z j g;omega
       rw[H t I,kh];by_cases B:o.dst=some t
       . obtain⟨J,_⟩:=jK D (l i (by simp)).2 (l i (by simp)).2 w w B
         have:=(((J A).1 (l i (by simp)).1).1 (l i (by simp)).1).2;omega
       . rw[if_neg B]
      have r:f d=a:=by
       rw[H d (λj g y s u=>by
        obtain⟨_,c2⟩:=jK D (l i (by simp)).2 (l j (by simp[g])).2 w s u;exact c2 (l i (by simp)).1 (by have:=z j g;omega) hd),kh,if_pos hd]
      refine⟨f,Y,λj g=>?_,λt A=>?_⟩
      . rcases List.mem_cons.1 g with rfl|g
        . refine⟨o,w,F,?_⟩
          rcases q with⟨q,M,N⟩|⟨q,rfl⟩
          . refine .inl ⟨q.congr k,d,hd,M,?_⟩
            rw[r];have V:∀σ,aK P o env σ (λO v=>O=a/\v=σ) (λ_ _=>False)->aK P o f σ (λO v=>O=a/\v=σ) (λ_ _=>False):=λσ h=>h.congr λx Q=>py λt e=>k t (mem_reads (by rw[<-e];exact Q))
            exact N.imp (λh σ=>V σ (h σ)) (λh=>⟨h.1,V σ h.2⟩)
          . exact .inr ⟨q.congr k,d,hd,r⟩
        . exact Z j g
      . rw[H t (λj g=>A j (by simp[g])),kh,if_neg (A i (by simp) o w)]
     rcases sd h with⟨q,h⟩|⟨j,b,x,d',y,hg,g,R,T,Q,U,h⟩
     . split at h
       . next a C=>exact main a h (.inl ⟨q,(wx L C).1,.inl (wx L C).2⟩)
       . obtain⟨hl,h⟩:=h
         split at h
         . next a C=>exact main a h (.inl ⟨q,(uL L C).1,.inr ⟨m hl i (l i (by simp)).1,(uL L C).2⟩⟩)
         . exact h.elim
     . exact main (.lit (.tuple #[])) h (.inr ⟨⟨j,b,x,d',y,hg,g,R,T,Q,U⟩,rfl⟩)
   . exact h.elim
theorem Any.hoist(mu:List Nat)(S:List Nat){done rest:List Nat}{env:Env}{σ:aa}{R:Env->aa->Prop}(hd:∀i∈rest,i∉done)(k:∀i∈S,i∈rest)(q:∀i∈rest,(ops[i]?).isSome=true)(r:ascending S=true)(p:lG ops rest S=true){lt:Bool}(c:lt=true->∀i∈S,late ops rest S i=true)
 (h:jC L mu ops n lt σ S env (λb=>Any P m ops n Kp (S++done) (rest.filter λi=>!S.contains i) b σ R)):Any P m ops n Kp done rest env σ R:=by
 intro l e g d;obtain⟨b,s,u,v⟩:=wy L S p c S env _ r (λi a=>⟨a,k i a⟩) h
 refine bd.hoist p l done env b σ (λi a=>(d i).1 a) e (λi a=>hd i ((d i).1 a)) g (λi a=>Option.isSome_iff_exists.1 (q i ((d i).1 a))) (λi _ j=>u i j)
  (λt w=>v t λi a o x=>w i ((d i).2 (k i a)) a o x) ?_
 refine s _ (jg.sub (λi=>!S.contains i) l done (S++done) e (λi a=>by simp[a]) (λi _ f=>by simp at f;simp[f]) (λi a f=>?_) g) (g.filter _) (λi=>by simp[List.mem_filter,d i]);simp at f;simp[f,hd i ((d i).1 a)]
def AW(ops:Array Oper)(done rest S:List Nat):Bool:=(rest.all λi=>!done.contains i && (ops[i]?).isSome) && (S.all λi=>rest.contains i) && ascending S && lG ops rest S
theorem Any.take(mu:List Nat)(S:List Nat){done rest:List Nat}{env:Env}{σ:aa}{R:Env->aa->Prop}(lt:Bool)(d:AW ops done rest S=true)(a:lt=true->(S.all λi=>late ops rest S i)=true)
 (h:jC L mu ops n lt σ S env (λc=>Any P m ops n Kp (S++done) (rest.filter λi=>!S.contains i) c σ R)):Any P m ops n Kp done rest env σ R:=by
 simp only[AW,Bool.and_eq_true,List.all_eq_true]at d;obtain⟨⟨⟨f,g⟩,j⟩,k⟩:=d;exact Any.hoist L mu S (λi b=>by simpa using(f i b).1) (λi b=>by simpa using g i b) (λi b=>(f i b).2) j k (λe i b=>List.all_eq_true.1 (a e) i b) h
end
end
attribute [simp] jC vu uK wv
section
variable{P:Program}{m:Mo}{n:Nat}{ops:Array Oper}{Kp:AV->aa->Prop}
theorem de.mono{R c:Env->aa->Prop}(b:∀env σ,R env σ->c env σ):∀(l:List Nat) (env:Env) (σ:aa),de P m ops n Kp l env σ R->de P m ops n Kp l env σ c
 |[],env,σ,h=>b _ _ h
 |i::l,env,σ,⟨o,d,e,f⟩=>⟨o,d,e,f.imp (λh=>⟨h.1,h.2.mono λa g=>de.mono b l _ _⟩) (λh=>⟨h.1,de.mono b l _ _ h.2⟩)⟩
theorem jC.mono(L:iG P){mu:List Nat}{lt:Bool}{σ:aa}{K c:Env->Prop}(b:∀env,K env->c env):∀{S:List Nat}{env:Env},jC L mu ops n lt σ S env K->jC L mu ops n lt σ S env c
 |[],env,h=>b _ h
 | i :: S,env,h=>by
   unfold jC at h ⊢;split at h
   . next o d=>
     try simp only[d]
     refine⟨h.1,h.2.1,?_⟩;have h:=h.2.2;unfold rh at h ⊢
     have main:∀{x:Option AV}{y:Option AV},(match x with|some a=>jC L mu ops n lt σ S (bo env o.dst a) K|none=>lt=true/\(match y with|some a=>jC L mu ops n lt σ S (bo env o.dst a) K|none=>False)) ->
      (match x with|some a=>jC L mu ops n lt σ S (bo env o.dst a) c|none=>lt=true/\(match y with|some a=>jC L mu ops n lt σ S (bo env o.dst a) c|none=>False)):=by
      intro x y h;cases x with
      |some a=>exact jC.mono L b h
      | none=>
        refine⟨h.1,?_⟩;cases y with
        |some a=>exact jC.mono L b h.2
        |none=>exact h.2
     split at h
     . exact main h
     . split at h
       . refine⟨h.1,?_⟩
         have h:=h.2;split at h
         . exact⟨λe=>main (h.1 e),λe=>jC.mono L b (h.2 e)⟩
         . exact jC.mono L b h
         . exact h
       . exact h
   . exact h
inductive kS where
 |done
 |take (S:List Nat) (lt:Bool) (p:kS)
 |one (i:Nat) (p:kS)
 |both (i:Nat) (p q:kS)
structure Entry where
 id:Nat
 Ux:kS
def fa(ops:Array Oper):kS->List Nat->List Nat->List Nat->Bool
 |.done,_,_,rest=>rest.isEmpty
 |.take S lt p,ex,done,rest=>ex.isEmpty && AW ops done rest S && (!lt||S.all λi=>late ops rest S i) && fa ops p [] (S++done) (rest.filter λi=>!S.contains i)
 |.one i p,ex,done,rest=>rest.contains i && (rest.all λj=>!done.contains j) && (rest.all λj=>j==i||ex.contains j||(rest.any λx=>iH ops x j)) && fa ops p [] (i::done) (rest.filter (· !=i))
 |.both i p q,ex,done,rest=>rest.contains i && fa ops p [] (i::done) (rest.filter (· !=i)) && fa ops q (i::ex) done rest
def AX(ops:Array Oper)(e:Entry):Bool:=qg ops && fa ops e.Ux [] [] (List.range ops.size)
def Uy(P:Program)(m:Mo)(ops:Array Oper)(n:Nat)(Kp:AV->aa->Prop)(ex done rest:List Nat)(env:Env)(σ:aa)(R:Env->aa->Prop):Prop:=∀l,jg ops done l->l.Nodup->(∀i,i∈l↔i∈rest)->(∀i a,l=i::a->i∉ex)->de P m ops n Kp l env σ R
def jD(P:Program)(m:Mo)(ops:Array Oper)(n:Nat)(Kp:AV->aa->Prop)(p:kS)(env:Env)(σ:aa)(R:Env->aa->Prop):Prop:=∀ex done rest,fa ops p ex done rest=true->Uy P m ops n Kp ex done rest env σ R
theorem JR{i:Nat}{l rest:List Nat}(f:(i::l).Nodup)(d:∀j,j∈i::l↔j∈rest)(j:Nat):j∈l↔j∈rest.filter (· !=i):=by
 have b:i∉l:=(List.nodup_cons.1 f).1;simp only[List.mem_filter,bne_iff_ne,ne_eq];constructor
 . intro a
   exact⟨(d j).1 (by simp[a]),λe=>b (e ▸ a)⟩
 . intro⟨a,c⟩
   rcases List.mem_cons.1 ((d j).2 a)with e|e
   . exact absurd e c
   . exact e
theorem de.JS{i:Nat}{l ex done rest:List Nat}{p:kS}{env:Env}{σ:aa}{R:Env->aa->Prop}(c:jg ops done (i::l))(b:(i::l).Nodup)(d:∀j,j∈i::l↔j∈rest)
 (e:fa ops p [] (i::done) (rest.filter (· !=i))=true) (h:jh P m ops n Kp i env σ (λenv σ=>jD P m ops n Kp p env σ R)):de P m ops n Kp (i::l) env σ R:=by
 have next:∀env σ,jD P m ops n Kp p env σ R->de P m ops n Kp l env σ R:=λenv σ h=>h [] _ _ e l c.2.2 (List.nodup_cons.1 b).2 (JR b d) (λ_ _ _ h=>by cases h)
 obtain⟨o,f,g,k⟩:=h;exact⟨o,f,g,k.imp (λh=>⟨h.1,h.2.mono λa q=>next _ _⟩) (λh=>⟨h.1,next _ _ h.2⟩)⟩
theorem jD.done{env:Env}{σ:aa}{R:Env->aa->Prop}(h:R env σ):jD P m ops n Kp .done env σ R:=λex done rest a l _ _ b _=>by
 simp only[fa,List.isEmpty_iff]at a;subst a;cases l with
 |nil=>exact h
 |cons i l=>exact absurd ((b i).1 (by simp)) (by simp)
theorem jD.take(L:iG P)(mu:List Nat){S:List Nat}{lt:Bool}{p:kS}{env:Env}{σ:aa}{R:Env->aa->Prop}(h:jC L mu ops n lt σ S env (λd=>jD P m ops n Kp p d σ R)):jD P m ops n Kp (.take S lt p) env σ R:=by
 intro ex done rest f;simp only[fa,Bool.and_eq_true]at f;obtain⟨⟨⟨k,i⟩,g⟩,j⟩:=f;have:=Any.take (m:=m) (Kp:=Kp) (R:=R) L mu S lt i (λe=>by rw[e]at g;simpa using g) (jC.mono L (λd h=>λl a b c=>h [] _ _ j l a b c (λ_ _ _ h=>by cases h)) h);exact λl a b c _=>this l a b c
theorem jD.one{i:Nat}{p:kS}{env:Env}{σ:aa}{R:Env->aa->Prop}(h:jh P m ops n Kp i env σ (λenv σ=>jD P m ops n Kp p env σ R)):jD P m ops n Kp (.one i p) env σ R:=by
 intro ex done rest f l g k a o;simp only[fa,Bool.and_eq_true,List.all_eq_true,Bool.or_eq_true,beq_iff_eq,List.any_eq_true]at f;obtain⟨⟨⟨q,hd⟩,r⟩,s⟩:=f;have b:i∈rest:=by simpa using q
 cases l with
 |nil=>exact absurd ((a i).2 b) (by simp)
 | cons j l=>
   have c:j∈rest:=(a j).1 (by simp)
   have d:j=i:=by
    rcases r j c with(h|h)|⟨x,e,h⟩
    . exact h
    . exact absurd (by simpa using h) (o j l rfl)
    . have:=hd x e
      exact absurd (g.1 x h) (by simpa using this)
   subst d;exact de.JS (ex:=ex) g k a s h
theorem jD.both{i:Nat}{p q:kS}{env:Env}{σ:aa}{R:Env->aa->Prop}(h:jh P m ops n Kp i env σ (λenv σ=>jD P m ops n Kp p env σ R))(k:jD P m ops n Kp q env σ R):jD P m ops n Kp (.both i p q) env σ R:=by
 intro ex done rest d l f g a o;simp only[fa,Bool.and_eq_true]at d;obtain⟨⟨r,s⟩,t⟩:=d;have c:i∈rest:=by simpa using r
 cases l with
 |nil=>exact absurd ((a i).2 c) (by simp)
 | cons j l=>
   by_cases b:j=i
   . subst b
     exact de.JS (ex:=ex) f g a s h
   . exact k _ _ _ t _ f g a λx u e=>by
      cases e;intro a;rcases List.mem_cons.1 a with e|e
      . exact b e
      . exact o _ _ rfl e
theorem qK{id:Nat}:∀{k k':List Item},exitTo id k=some k'->∀x∈k',x∈k
 |[],k',h=>by simp[exitTo]at h
 | i::k,k',h=>by
   have again:exitTo id k=some k'->∀x∈k',x∈i::k:=λh x a=>List.mem_cons_of_mem _ (qK h x a)
   cases i<;>simp only[exitTo]at h<;>first|exact again h|skip
   split at h
   . cases h;exact λx a=>List.mem_cons_of_mem _ a
   . exact again h
end
section
variable{P:Program}(L:iG P)
def oa(fn:Func)(k:Nat):Bool:=Nat.ble k fn.ntmps && fn.results.toList.all (ResultVar.ok fn.ntmps)
end
attribute [simp] List.find?
theorem ki{k:ah}{O:ai}{r:Nat}{c:Array Value}{e:TypeId}{x:Nat × Nat}(g:O r=some (.obj (.cells c e x))):lP k O (k.eF r (e,c.size)) O:=λw h=>by
 have t:=h.obj _ _ g;have d:w.shape? r=some (e,c.size):=by simp[World.shape?,t]
 refine⟨⟨h.apart,h.cell,λb s hb=>?_,h.obj,λb n hb=>?_,λb n hb=>?_⟩,⟨⟨λ_ _ _ h=>h,λb s j=>?_⟩,Nat.le_refl _,λ_ _ _=>rfl,λ_ _ _ _ c _ h=>⟨c,h,rfl,λ_ _=>rfl⟩,λ_ _ _ _ c _ h=>⟨c,h,rfl,λ_ _=>rfl⟩,λ_ _=>rfl,λb x u=>.inl ⟨x,u,.refl x⟩,λb i v y=>.inl y,λb s j=>?_,by simp,rfl,rfl,rfl,by simp,λ_ f h=>⟨f,h⟩⟩⟩
 . by_cases a:b=r
   . subst a;simp[ah.eF]at hb;subst hb;exact d
   . exact h.sh b s (by simpa[ah.eF,a]using hb)
 . obtain⟨l,m,o,p⟩:=h.tail b n hb
   refine⟨l,m,o,?_⟩;have:b≠r:=λq=>by rw[q,g]at hb;cases hb
   simpa[ah.eF,this]using p
 . obtain⟨l,m,o,p⟩:=h.part b n hb
   refine⟨l,m,o,?_⟩;have:b≠r:=λq=>by rw[q,g]at hb;cases hb
   simpa[ah.eF,this]using p
 . by_cases a:b=r
   . subst a
     have:=h.sh _ _ j;rw[d]at this;cases this;simp[ah.eF]
   . simpa[ah.eF,a]using j
 . by_cases a:b=r
   . subst a;exact .inr (.inl ⟨_,g⟩)
   . exact .inl (by simpa[ah.eF,a]using j)
section
variable{P:Program}{m:Mo}{Q:ah->ai->Goroutine->Prop}{k:ah}{O:ai}{g:Goroutine}
theorem T.freeze{r n:Nat}{c:Array Value}{e:TypeId}(d:O r=some (.obj (.cells c e (0,0))))(b:g.status=.running)
 (h:∀k' O',k.Le k'->k'.sh r=some (e,c.size)->(∀j v,j<n->c[j]?=some v->k'.cell r j=some v)->O'=O.set r (.tail n)->T P m Q k' O' g):T P m Q k O g:=by
 by_cases a:∃w,Sat k O w
 . obtain⟨w,f⟩:=a
   have i:∀j,k.cell r j=none:=λj=>by
    cases q:k.cell r j with
    |none=>rfl
    |some v=>exact(f.apart _ _ _ q (.inl ⟨_,d⟩)).elim
   have o:=(ki (k:=k) d w f).2.le;have l:(k.eF r (e,c.size)).Le ((k.eF r (e,c.size)).vY r c n):=.vY i;exact .ghost (ki d) (.ghost (n7 (n:=n) d (by simp[ah.eF])) (h _ _ (o.trans l) (by simp[ah.vY,ah.eF]) (λj v p s=>by simp[ah.vY,p,s]) rfl))
 . exact .step (λ_ _ _=>False) b (λ_ _ _ h=>h.elim) λw f=>absurd ⟨w,f⟩ a
end
theorem cX:∀{es:List AV},(∀e∈es,e.cells=[e])->flatten es=es
 |[],_=>rfl
 | e::es,h=>by
   have b:=h e (by simp);have a:=cX (es:=es) λx c=>h x (by simp[c])
   simp only[flatten]at a ⊢;rw[List.flatMap_cons,b,a];rfl
theorem V.Ci{k:ah}{v:Value}{kk:Nat}{es:List AV}{sp:cG}(h:V k v (.sl kk es sp)):(∃a,v=.slice a 0 0/\es=[]/\(sp=.any\/(sp=.exact/\a.isSome=true)))\/∃(b off cap N:Nat) (E:TypeId) (c:Nat->Value),v=.slice (some ⟨b,off,none⟩) es.length cap/\es.length<=cap/\k.sh b=some (E,N)/\off+cap*kk<=N/\(∀e∈es,e.cells.length=kk)/\
 (∀j,j<(flatten es).length->k.cell b (off+j)=some (c j)/\bd.flat (c j)=true)/\(∀(j:Nat) a,(flatten es)[j]?=some a->V k (c j) a)/\sp.fits b off es.length kk cap:=by
 cases h with
 |sl b off cap _ N E _ _ c d f g i l m n=>exact .inr ⟨b,off,cap,N,E,c,rfl,d,f,g,i,l,m,n⟩
 |slnil a _ _ h=>exact .inl ⟨a,rfl,rfl,h⟩
inductive Fz(b:Nat)(l:List AV):AV->AV->Prop
 |refl (a:AV):Fz b l a a
 | sl (off cap kk:Nat) (es:List AV) (sp:cG):es.length<=cap->off+cap*kk<=l.length->(∀e∈es,e.cells.length=kk)->(∀(j:Nat) a,(flatten es)[j]?=some a->l[off+j]?=some a)->(sp=.any\/(sp=.exact/\cap=es.length)) ->
    Fz b l (.ew b off es.length cap) (.sl kk es sp)
 |fn (f:Fn) (a1 a2 c1 c2:List AV):a1.length=a2.length->c1.length=c2.length->(∀(i:Nat) a a',a1[i]?=some a->a2[i]?=some a'->Fz b l a a')->(∀(i:Nat) a a',c1[i]?=some a->c2[i]?=some a'->Fz b l a a')->Fz b l (.fn f a1 c1) (.fn f a2 c2)
 |rows (es es':List AV) (sp:cG):es.length=es'.length->(∀e∈es,e.cells=[e])->(∀e∈es',e.cells=[e])->(∀(i:Nat) a a',es[i]?=some a->es'[i]?=some a'->Fz b l a a')->Fz b l (.sl 1 es sp) (.sl 1 es' sp)
 |cp (base off:Nat) (v:AV):base+v.cells.length<=l.length->(∀(j:Nat) a,v.cells[j]?=some a->l[base+j]?=some a)->Fz b l (.ref b (base+off)) (.cp v off)
 |agg (l1 l2:List AV):l1.length=l2.length->(∀(i:Nat) a a',l1[i]?=some a->l2[i]?=some a'->Fz b l a a')->Fz b l (.agg l1) (.agg l2)
 |bG (l1 l2:List AV):l1.length=l2.length->(∀(i:Nat) a a',l1[i]?=some a->l2[i]?=some a'->Fz b l a a')->Fz b l (.bG l1) (.bG l2)
def AY(k:ah)(b:Nat)(E:TypeId)(l:List AV):Prop:=k.sh b=some (E,l.length)/\∀(j:Nat) a,l[j]?=some a->∃u,k.cell b j=some u/\V k u a/\bd.flat u=true
theorem Fz.sound{k:ah}{b:Nat}{E:TypeId}{l:List AV}{a a':AV}(h:Fz b l a a')(t:AY k b E l):∀{v:Value},V k v a->V k v a':=by
 induction h with
 |refl a=>exact λh=>h
 | sl off cap kk es sp g p q C D=>
   intro v m;cases m
   exact V.ofRow g t.1 p q (λj a r=>t.2 _ _ (C j a r)) (by
    rcases D with rfl|⟨rfl,D⟩
    . trivial
    . exact D)
 | rows es w sp g p q _ y=>
   intro v m;have f1:=cX p;have J:=cX q
   rcases m.Ci with⟨P,rfl,rfl,F⟩|⟨Q,off,cap,N,R,c,rfl,q1,S,T,q4,K,L,U⟩
   . have:w=[]:=List.length_eq_zero_iff.1 g.symm
     subst this;exact .slnil P 1 sp F
   . rw[f1]at K L
     rw[g];refine .sl Q off cap 1 N R w sp c (by omega) S T (λe W=>by rw[q e W];rfl) (λj s=>K j (by rw[J]at s;omega)) (λj a r=>?_) (by rw[<-g];exact U)
     rw[J]at r;have s:j<es.length:=by have:=(List.getElem?_eq_some_iff.1 r).1;omega
     exact y j es[j] a (by simp[s]) r (L j _ (by simp[s]))
 | cp base off x hlen g=>
   intro v m;cases m;refine .cp b base off _ _ x (λj=>(k.cell b (base+j)).getD undef) t.1 hlen (λj s=>?_) (λj a r=>?_)
   . obtain⟨u,p,q,C⟩:=t.2 _ _ (g j x.cells[j] (by simp[s]))
     rw[p];exact⟨rfl,C⟩
   . obtain⟨u,p,q,C⟩:=t.2 _ _ (g j a r)
     simp only[p];exact q
 | fn f M X O Y g p _ _ G H=>
   intro v m;cases m with
   | fn _ Z p2 _ _ z A g3 g4=>
     refine .fn f Z p2 X Y (by omega) (λi u a' n d=>?_) (by omega) (λi u a' n d=>?_)
     . have o:i<M.length:=by rw[<-z];exact(Array.getElem?_eq_some_iff.1 n).1
       exact G i M[i] a' (by simp[o]) d (A i u _ n (by simp[o]))
     . have o:i<O.length:=by rw[<-g3];exact(Array.getElem?_eq_some_iff.1 n).1
       exact H i O[i] a' (by simp[o]) d (g4 i u _ n (by simp[o]))
 | agg B I g _ y=>
   intro v m;cases m with
   | agg c _ z A=>
     refine .agg c I (by omega) λi u a' n d=>?_
     have o:i<B.length:=by rw[<-z];exact(Array.getElem?_eq_some_iff.1 n).1
     exact y i B[i] a' (by simp[o]) d (A i u _ n (by simp[o]))
 | bG B I g _ y=>
   intro v m;cases m with
   | bG c _ z A=>
     refine .bG c I (by omega) λi u a' n d=>?_
     have o:i<B.length:=by rw[<-z];exact(Array.getElem?_eq_some_iff.1 n).1
     exact y i B[i] a' (by simp[o]) d (A i u _ n (by simp[o]))
def Hw(b:Nat)(l:List AV)(σ σ':aa):Prop:=∀c y,σ' c=some y->c≠b/\(σ c=some y\/∃d e,σ c=some (.cells d)/\y=.cells e/\d.length=e.length/\∀(i:Nat) a f,d[i]?=some a->e[i]?=some f->Fz b l a f)
theorem Hw.del(b:Nat)(l:List AV)(σ:aa):Hw b l σ (σ.del b):=λc y h=>by
 unfold aa.del at h;split at h
 . cases h
 . next a=>exact⟨a,.inl h⟩
theorem Hw.sound{k:ah}{O:ai}{b:Nat}{E:TypeId}{l:List AV}{σ σ':aa}(h:Hw b l σ σ')(u:AY k b E l)(g:Rel k O σ)(x:Own):Rel k (O.set b x) σ':=⟨λc y j d=>by
 obtain⟨f,h⟩:=h c y j
 rcases h with h|⟨m,q,n,rfl,r,w⟩
 . obtain⟨z,o,a⟩:=g.1 c y h d
   exact⟨z,by simp[ai.set,f,o],a⟩
 . obtain⟨z,o,a⟩:=g.1 c _ n (by simp)
   cases a with
   | cells A e _ B C D=>
     refine⟨_,by simp only[ai.set,f,if_false];exact o,.cells A e q (by omega) (λi v F s p=>?_) D⟩
     have t:i<m.length:=by rw[<-B];exact(Array.getElem?_eq_some_iff.1 s).1
     exact(w i m[i] F (by simp[t]) p).sound u (C i v _ s (by simp[t])),λc y j d=>by
 obtain⟨f,h⟩:=h c _ j
 rcases h with h|⟨m,q,_,h,_⟩
 . obtain⟨n,r⟩:=g.2 c y h d
   exact⟨by simp[ai.set,f,n],r⟩
 . subst h;cases d⟩
section
variable{P:Program}{m:Mo}
theorem T.AZ{Q:ah->ai->Goroutine->Prop}{k:ah}{O:ai}{g:Goroutine}{σ:aa}{b:Nat}{l:List AV}(q:Rel k O σ)(hb:σ b=some (.cells l))(f:g.status=.running)
 (h:∀k' O',k.Le k'->(∀v a a',V k v a->Fz b l a a'->V k' v a')->(∀σ',Hw b l σ σ'->Rel k' O' σ')->T P m Q k' O' g):T P m Q k O g:=by
 obtain⟨y,u,w⟩:=q.1 b _ hb (by simp)
 cases w with
 | cells c e _ r x z=>
   refine T.freeze (n:=c.size) u f λk' O' d o A p=>?_
   have s:AY k' b e l:=⟨by rw[o,r],λj a t=>by
    have i:j<c.size:=by rw[r];exact(List.getElem?_eq_some_iff.1 t).1
    exact⟨c[j],A j _ i (by simp[i]),(x j _ a (by simp[i]) t).mono d,z j _ (by simp[i])⟩⟩
   refine h k' O' d (λv a a' B C=>C.sound s (B.mono d)) λσ' D=>?_
   rw[p];exact D.sound s (q.mono d) _
theorem Go.freeze{fid n:Nat}{ro:Option Nat}{todo:List Item}{K:Exit->St->Prop}{env a:Env}{σ σ':aa}{D:List lQ}{rc:Rec}(b:Nat)(l:List AV)(hb:σ b=some (.cells l))(d:∀t,Fz b l (env t) (a t))(g:Hw b l σ σ')
 (h:Go P m fid n ro todo ⟨a,σ',D,rc⟩ K):Go P m fid n ro todo ⟨env,σ,D,rc⟩ K:=by
 intro Q k O tmps defs kind cs i e j;refine T.AZ e.rel hb rfl λo p c q f=>?_
 exact h Q o p tmps defs kind cs i ⟨e.size,λt r=>q _ _ _ (e.env t r) (d t),f σ' g,e.ds.mono c,e.rc.mono c⟩ (j.mono c)
theorem Fz.upd{b:Nat}{l:List AV}{env:Env}{t:Nat}{a':AV}(h:Fz b l (env t) a')(u:Nat):Fz b l (env u) (env.upd t a' u):=by
 unfold Env.upd;split
 . next e=>rw[e];exact h
 . exact .refl _
inductive oc(KF:dV->aa->Prop):dV->aa->Prop
 |done {r:dV}{σ:aa}:KF r σ->oc KF r σ
 |freeze {a a':AV}{σ σ':aa}(b:Nat) (l:List AV):σ b=some (.cells l)->Fz b l a a'->Hw b l σ σ'->oc KF (.val a') σ'->oc KF (.val a) σ
 |iI {a a':AV}{σ:aa}:a.W a'->oc KF (.val a') σ->oc KF (.val a) σ
 |less {r:dV}{σ σ':aa}:σ'.Le σ->oc KF r σ'->oc KF r σ
theorem aB.thaw{f:FuncId}{args:List AV}{σ:aa}{u:dV->aa->Prop}(h:aB P m f args σ (oc u)):aB P m f args σ u:=by
 intro Q k O p c rest kind z A B C D
 have key:∀r j,oc u r j->∀g n i,k.Le g->Rel g n j->(match r with
  |.val a=>V g i a->T P m Q g n (kR kind c rest i)
  |.panic a=>V g i a->T P m Q g n (G (c.raise [⟨i,false,false⟩]) rest)):=by
  intro r j E;induction E with
  | @done r σ y=>
    intro g n i e o;cases r with
    |val a=>exact λq=>C _ _ _ _ _ e q o y
    |panic a=>exact λq=>D _ _ _ _ _ e q o y
  | freeze b l hb F v _ s=>
    intro g n i e o q;refine T.AZ o hb (by cases kind<;>rfl) λH I t w x=>?_
    exact s H I i (e.trans t) (x _ v) (w _ _ _ q F)
  |iI J _ s=>intro g n i e o q;exact s g n i e o (J _ _ q)
  |@less r σ j v _ s=>intro g n i e o;exact s g n i e (o.le v)
 exact h Q k O p c rest kind z A B (λg n i K j a b c d=>key _ _ d g n i a c b) (λg n i K j a b c d=>key _ _ d g n i a c b)
end
end Go.bd

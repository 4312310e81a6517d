import Derived.Orders
import Derived.Test.YtkcceaplmgdnfaaGreatDoorC3
set_option linter.all false
namespace Go.cz
open Go.Conc
def aK.congr{P o env a σ K Kp}(h:aK P o env σ K Kp)(d:∀x∈o.op.operands,an a x=an env x):aK P o a σ K Kp:=λk O b e c=>h k O b (λx f=>by grind) c
def Pa(P:adI)(m:Mo)(o:Oper)(env:Env)(σ:ab)(R:adl)(Kp:adl):Prop:=
 (∃fo args d,o.op=.call ⟨.value fo,args,d⟩/\cr P m (an env fo) (args.toList.map (an env)) σ (λr b=>match r with|.val a=>R a b|.panic v=>Kp v b))\/
 ((∀c,o.op≠.defer c)/\aK P o env σ R Kp)
def Pa.mono{P m o env σ R e Kp}(h:Pa P m o env σ R Kp)(f:∀a σ,R a σ->e a σ):Pa P m o env σ e Kp:=by
 rcases h with⟨fo,args,b,c,d⟩|⟨c,d⟩
 . refine .inl ⟨fo,args,b,c,d.mono λr g i=>?_⟩
   grind
 . exact .inr ⟨c,d.mono f⟩
def Pa.congr{P m o env a σ R Kp}(h:Pa P m o env σ R Kp)(b:∀x∈o.op.operands,an a x=an env x):Pa P m o a σ R Kp:=by
 rcases h with⟨fo,args,c,d,e⟩|⟨d,e⟩
 . refine .inl ⟨fo,args,c,d,?_⟩
   have f:an a fo=an env fo:=b fo (by simp_all);have g:args.toList.map (an a)=args.toList.map (an env):=acg λx i=>b x (by simp_all)
   grind
 . exact .inr ⟨d,e.congr b⟩
def lM(ops:ads)(n:Nat)(env:Env)(o:Oper):Prop:=∃j b x d a,o.guard=some (j,b)/\ops[j]?=some a/\a.dst=some d/\d<n/\env d=.lit x/\TU x b
def cW(P:adI)(m:Mo)(ops:ads)(n:Nat)(Kp:adl):adB->Env->ab->adk->Prop
 |[],env,σ,R=>R env σ
 | i::l,env,σ,R=>∃o,ops[i]?=some o/\Oper.ok n o=true/\
   ((bZ ops n env o/\Pa P m o env σ (λa b=>cW P m ops n Kp l (bg env o.dst a) b R) Kp)\/(lM ops n env o/\cW P m ops n Kp l (bg env o.dst (.lit (.tuple #[]))) σ R))
section
variable{P:adI}{m:Mo}{fid n:Nat}{ro:adt}{D:List zk}{rc:Rec}{K:adj}{k:adx}{ops:ads}
def Go.sF{Kp}:∀  l   env   σ ,(∀v env σ,Kp v σ->K (.panic v) ⟨env,σ,D,rc⟩) ->
 cW P m ops n Kp l env σ (λenv σ=>Go P m fid n ro k ⟨env,σ,D,rc⟩ K)->Go P m fid n ro (.inRegion ops l::k) ⟨env,σ,D,rc⟩ K
 |[],env,σ,_,h=>.zT h
 | i :: l,env,σ,p,⟨o,q,f,h⟩=>by
   rcases h with⟨B,h⟩|⟨⟨j,b,x,d,R,C,E,hd,s,F,t⟩,h⟩
   . rcases h with⟨fo,args,G,u,w⟩|⟨u,w⟩
     . refine .call q u B f (w.mono λr c H=>?_)
       cases r with
       |val a=>exact Go.sF l _ c p H
       |panic v=>simp_all
     . refine .op q B f u ?_
       intro I O J A L;refine jr _ (w I O J A L) (λ_ _ _ ⟨v,M,N,Q,g,e,a,c,x,y,z⟩=>⟨v,M,N,Q,g,e,a,c,x,y,Go.sF l _ c p z⟩) (λ_ _ _ ⟨e,a,c,x,y,z⟩=>⟨e,a,c,x,y,p _ _ _ z⟩)
   . exact .unwanted q C E hd s F t (Go.sF l _ σ p h)
def Fp(P:adI)(o:Oper)(env:Env)(a:AV):Prop:=∀σ,aK P o env σ (λc b=>c=a/\b=σ) (λ_ _=>False)
def sG(P:adI)(o:Oper)(env:Env)(σ:ab)(a:AV):Prop:=aK P o env σ (λc b=>c=a/\b=σ) (λ_ _=>False)
def jv(ops:ads)(j i:Nat):Bool:=match ops[i]? with|some o=>o.after.toList.any λe=>Region.binds .any e && e.on==j|none=>false
def dI(ops:ads)(o:Oper):adB:=(o.op.operands.toList.filterMap fun|.tmp t=>some t|_=>none)++(match o.guard with|some (j,_)=>(match (ops[j]?).bind (·.dst)with|some d=>[d]|none=>[])|none=>[])
def ly(ops:ads)(rest S:adB):Bool:=
 rest.all fun i=>match ops[i]? with
  |none=>false
  | some o=>
    rest.all λj=>match ops[j]? with
     |none=>false
     | some a=>match a.dst with
       |none=>true
       | some d=>
         (if (dI ops o).contains d then
           (if S.contains i then(if S.contains j then jv ops j i && Nat.blt j i else jv ops i j)
            else(if S.contains j then jv ops j i else true))else true) &&
         (if S.contains i && i !=j && o.dst==some d then false else true)
def qJ(ops:ads):Bool:=(List.range ops.size).all λi=>match ops[i]? with|none=>false|some o=>o.after.toList.all λe=>!Region.binds .any e||Nat.blt e.on i
def xc{ops}(h:qJ ops=true):∀i o,ops[i]?=some o->∀e∈o.after,Region.binds .any e=true->e.on<i:=by
 intro i o b e d hb;have a:i<ops.size:=(zA.1 b).1;have c:=aaL.1 h i (Rp.2 a);simp only[b]at c;have f:=aaL.1 c e (by simp_all)
 simp_all
def jw(ops:ads):adB->adB->Prop
 |_,[]=>True
 |done,i::l=>(∀j,jv ops j i=true->j∈done)/\i∉done/\jw ops (i::done) l
def pM{env a x}(h:∀t,x=.tmp t->a t=env t):an a x=an env x:=by cases x<;>first|rfl|exact h _ rfl
def mem_reads{o}{t:Nat}(h:Operand.tmp t∈o.op.operands):t∈dI ops o:=by unfold dI;refine aaN.2 (.inl (List.mem_filterMap.2 ⟨.tmp t,by grind,rfl⟩))
def zY{o a}{j:Nat}{b}{d:Nat}(c:o.guard=some (j,b))(hj:ops[j]?=some a)(hd:a.dst=some d):d∈dI ops o:=by
 unfold dI
 simp_all
def bZ.congr{env a o}(h:bZ ops n env o)(g:∀t∈dI ops o,a t=env t):bZ ops n a o:=by
 unfold bZ at h ⊢;cases c:o.guard with
 |none=>trivial
 |some p=>obtain⟨j,b⟩:=p;simp only[c]at h ⊢;obtain⟨i,d,e,f,k,l⟩:=h;exact⟨i,d,e,f,k,by rw[g d (zY c e f)];exact l⟩
def lM.congr{env a o}(h:lM ops n env o)(i:∀t∈dI ops o,a t=env t):lM ops n a o:=by obtain⟨j,b,x,d,k,f,g,hd,c,l,e⟩:=h;exact⟨j,b,x,d,k,f,g,hd,c,by rw[i d (zY f g hd)];exact l,e⟩
def kh  env   dst   a   t :bg env dst a t=if dst=some t then a else env t:=by
 cases dst with
 |none=>simp[bg]
 | some d=>
   by_cases h:t=d
   . simp_all
   . simp[bg,Env.upd,h,zj h]
def late(ops:ads)(rest S:adB)(i:Nat):Bool:=rest.all λj=>S.contains j||jv ops i j
def Bs(P:adI)(ops:ads)(n:Nat)(rest S:adB)(a:Env)(σ:ab)(i:Nat):Prop:=∃o,ops[i]?=some o/\Oper.ok n o=true/\((bZ ops n a o/\∃d,o.dst=some d/\(∀c,o.op≠.defer c)/\(Fp P o a (a d)\/(late ops rest S i=true/\sG P o a σ (a d))))\/(lM ops n a o/\∃d,o.dst=some d/\a d=.lit (.tuple #[])))
def jT{rest S}(a:ly ops rest S=true){i j o f}{d:Nat}(b:i∈rest)(c:j∈rest)(hi:ops[i]?=some o)(hj:ops[j]?=some f)(hd:f.dst=some d):
 (d∈dI ops o->(i∈S->(j∈S->jv ops j i=true/\j<i)/\(j∉S->jv ops i j=true))/\(i∉S->j∈S->jv ops j i=true))/\(i∈S->i≠j->o.dst≠some d):=by
 unfold ly at a;rw[aaL]at a;have g:=a i b;simp only[hi]at g;have h:=aaL.1 g j c;simp only[hj,hd,za]at h;obtain⟨l,n⟩:=h;refine⟨λp=>?_,λk m q=>?_⟩
 . have e:(dI ops o).contains d=true:=by grind
   rw[aaK e]at l;refine⟨λk=>⟨λhj=>?_,λhj=>?_⟩,λk hj=>?_⟩
   . simp_all
   . simp_all
   simp_all
 simp_all
def hoist{rest S Kp R}(K:ly ops rest S=true):
 ∀  l done   env b   σ ,(∀i∈l,i∈rest)->jw ops done l->(∀i∈l,i∉done)->l.Nodup->(∀i∈l,∃o,ops[i]?=some o) ->
  (∀i∈l,i∈S->Bs P ops n rest S b σ i)->(∀t,(∀i∈l,i∈S->∀o,ops[i]?=some o->o.dst≠some t)->b t=env t) ->
  cW P m ops n Kp (l.filter λi=>!S.contains i) b σ R->cW P m ops n Kp l env σ R
 | [],done,env,b,σ,_,_,_,_,_,_,T,h=>by
   have:b=env:=funext λt=>T t (λi hi=>by simp at hi)
   simp_all
 | i :: l, done,env,b,σ,c,ha,a8,q,r,U,T,h=>by
   obtain⟨a1,a2,a3⟩:=ha;obtain⟨o,E⟩:=r i (by simp);have V:i∉l:=(abK.1 q).1
   have s:∀t∈dI ops o,b t=env t:=λt u=>T t λj f L Q w hd=>by
    obtain⟨c1,_⟩:=jT K (c i (by simp)) (c j (by simp[f])) E w hd
    grind
   have F:∀x∈o.op.operands,an env x=an b x:=λx hx=>pM λt e=>(s t (mem_reads (by grind))).symm
   have G:∀j∈l,j∉i::done:=λj f hm=>by grind
   by_cases H:i∈S
   . have W:(i::l).filter (λi=>!S.contains i)=l.filter λi=>!S.contains i:=by simp[H]
     rw[W]at h;obtain⟨o',A,B,C⟩:=U i (by simp) H;rw[E]at A;cases A
     have next:∀a d,o.dst=some d->b d=a->cW P m ops n Kp l (bg env o.dst a) σ R:=λa d hd a9=>
      hoist K l (i::done) (bg env o.dst a) b σ (λj f=>c j (by simp[f])) a3 G (abK.1 q).2 (λj f=>r j (by simp[f])) (λj f=>U j (by simp[f])) (λt u=>by
       rw[kh,hd]
       grind) h
     rcases C with⟨C,d,hd,I,D⟩|⟨C,d,hd,f⟩
     . refine⟨o,E,B,.inl ⟨C.congr λt u=>(s t u).symm,.inr ⟨I,?_⟩⟩⟩
       have:=(show sG P o b σ (b d)from D.elim (λh=>h σ) (λh=>h.2)).congr F;intro kk O ρ X hr;refine jr _ (this kk O ρ X hr) (λ_ _ _ ⟨v,hv,k2,O2,g,Y,a,k,x,y,e1,e2⟩=>⟨v,hv,k2,O2,g,Y,a,k,x,y,?_⟩) (λ_ _ _ ⟨_,_,_,_,_,z⟩=>z.elim)
       grind
     . exact⟨o,E,B,.inr ⟨C.congr λt u=>(s t u).symm,next _ d hd f⟩⟩
   . have W : (i::l).filter (λi=>!S.contains i)=i::l.filter λi=>!S.contains i:=by simp[H]
     rw[W]at h;obtain⟨o',A,B,C⟩:=h;rw[E]at A;cases A
     have next:∀a k,cW P m ops n Kp (l.filter λi=>!S.contains i) (bg b o.dst a) k R->cW P m ops n Kp l (bg env o.dst a) k R:=λa k h'=>
      hoist K l (i::done) (bg env o.dst a) (bg b o.dst a) k (λj f=>c j (by simp[f])) a3 G (abK.1 q).2 (λj f=>r j (by simp[f]))
       (fun j f L=>by
         obtain⟨Q,w,M,Z⟩:=U j (by simp[f]) L;have ad:j≠i:=λe=>V (e ▸ f)
         have p:∀t∈dI ops Q,bg b o.dst a t=b t:=λt u=>by
          rw[kh];by_cases hd:o.dst=some t
          . obtain⟨c1,_⟩:=jT K (c j (by simp[f])) (c i (by simp)) w E hd
            grind
          grind
         have N:∀d,Q.dst=some d->bg b o.dst a d=b d:=λd hd=>by
          rw[kh];by_cases a7:o.dst=some d
          . obtain⟨_,c2⟩:=jT K (c j (by simp[f])) (c i (by simp)) w E a7
            grind
          grind
         refine⟨Q,w,M,?_⟩;rcases Z with⟨J,d,hd,I,D⟩|⟨J,d,hd,al⟩
         . refine .inl ⟨J.congr p,d,hd,I,.inl λσ=>?_⟩
           rw[N d hd];rcases D with D|⟨hl,_⟩
           . exact(D σ).congr λx hx=>pM λt e=>p t (mem_reads (by grind))
           . have:=aaL.1 hl i (c i (by simp))
             grind
         . exact .inr ⟨J.congr p,d,hd,by grind⟩)
       (fun t u=>by
         rw[kh,kh]
         grind) h'
     rcases C with⟨C,h⟩|⟨C,h⟩
     . exact⟨o,E,B,.inl ⟨C.congr λt u=>(s t u).symm,(h.congr F).mono λa k=>next a k⟩⟩
     . exact⟨o,E,B,.inr ⟨C.congr λt u=>(s t u).symm,next _ σ h⟩⟩
def jw.sub  p :∀  l done a ,jw ops done l->(∀i∈done,i∈a)->(∀i∈l,p i=false->i∈a)->(∀i∈l,p i=true->i∉a)->l.Nodup->jw ops a (l.filter p)
 |[],_,_,_,_,_,_,_=>trivial
 | i :: l,done,a,⟨h,o,f⟩,k,m,g,d=>by
   have n:i∉l:=(abK.1 d).1;by_cases e:p i=true
   . rw [List.filter_cons_of_pos e]
     refine⟨λj c=>k j (h j c),g i (by simp) e,?_⟩
     exact jw.sub p l (i::done) (i::a) f (λj c=>by
      grind) (λj c b=>by simp_all) (λj c b q=>by
      simp_all) (abK.1 d).2
   . rw[List.filter_cons_of_neg e]
     exact jw.sub p l (i::done) a f (λj c=>by grind) (λj c b=>m j (by simp[c]) b) (λj c b=>g j (by simp[c]) b) (abK.1 d).2
def Bt(g:∀i o,ops[i]?=some o->∀e∈o.after,Region.binds .any e=true->e.on<i):∀  fuel t   listed   done ,listed.size=ops.size->(∀i,i<ops.size->(listed.getD i true=true↔i∈done)) ->
 ((List.range ops.size).filter λi=>!listed.getD i true).length<=fuel ->
 jw ops done (Region.linearise.go .any ops fuel t listed [])/\(Region.linearise.go .any ops fuel t listed []).Nodup/\(∀i∈Region.linearise.go .any ops fuel t listed [],i∉done/\i<ops.size)/\∀i,i<ops.size->(i∈Region.linearise.go .any ops fuel t listed []\/i∈done):=by
 intro fuel;induction fuel with
 | zero=>
   intro t listed done k hd y;have l:(List.range ops.size).filter (λi=>!listed.getD i true)=[]:=List.eq_nil_of_length_eq_zero (by omega);unfold Region.linearise.go;refine⟨trivial,acK,λi a=>(by cases a),λi a=>.inr ((hd i a).1 ?_)⟩;have:=acU.1 l i (Rp.2 a)
   simp_all
 | succ fuel z=>
   intro t listed done k hd y;unfold Region.linearise.go;simp only[];generalize p:(List.range ops.size).filter (λi=>!listed.getD i true && ((ops[i]?).map (·.after.all λe=>!Region.binds .any e||listed.getD e.on false)).getD false)=rs
   have d:∀i,i∈rs↔i<ops.size/\listed.getD i true=false/\∃o,ops[i]?=some o/\∀e∈o.after,Region.binds .any e=true->listed.getD e.on false=true:=by
    intro i;rw[<-p,abv,Rp];refine and_congr_right λa=>?_
    rw[za,abZ];refine and_congr_right λ_=>?_
    have q:ops[i]?=some ops[i]:=aba a;rw[q];simp only[abj,abF,aaW,abX,abZ,kn,exists_eq_left']
    grind
   have A:∀j,j<ops.size->listed.getD j false=listed.getD j true:=λj c=>by grind
   cases a:rs[t % rs.length]? with
   | none=>
     simp only[]
     have w:rs=[]:=by
      cases rs with
      |nil=>rfl
      | cons x xs=>
        have B:=List.getElem?_eq_none_iff.1 a;have K:t % (x::xs).length<(x::xs).length:=Nat.mod_lt _ (by simp);omega
     refine⟨trivial,acK,λi a=>(by cases a),?_⟩;intro i;induction i using Nat.strongRecOn with
     | ind i C=>
       intro a;refine .inr ((hd i a).1 ?_);cases D:listed.getD i true with
       |true=>rfl
       | false=>
         have:i∈rs:=(d i).2 ⟨a,D,ops[i],aba a,λe l hb=>by
          have E:=g i ops[i] (aba a) e l hb
          grind⟩
         grind
   | some i=>
     simp only[];rw[linearise_go_acc,List.reverse_singleton,acY];have r:=List.mem_of_getElem? a;obtain⟨s,F,o,q,m⟩:=(d i).1 r;have n:i∉done:=λh=>by grind
     have f:∀j,j<ops.size->((listed.setIfInBounds i true).getD j true=if j=i then true else listed.getD j true):=λj c=>by
      by_cases b:j=i
      . subst b;rw[aaK rfl];simp[k,c]
      . rw[aaJ b];exact getD_set_ne true (zj b)
     obtain⟨G,H,u,I⟩:=z (t / rs.length) (listed.setIfInBounds i true) (i::done) (by grind) (λj c=>by
      rw[f j c];by_cases b:j=i
      . simp[b]
      grind) (by
      have J:(List.range ops.size).filter (λj=>!(listed.setIfInBounds i true).getD j true)=((List.range ops.size).filter (λj=>!listed.getD j true)).filter (· !=i):=by
       rw[List.filter_filter];refine aca λj c=>?_
       rw[f j (Rp.1 c)];by_cases b:j=i<;>simp[b]
      rw[J];have:(((List.range ops.size).filter (λj=>!listed.getD j true)).filter (· !=i)).length<((List.range ops.size).filter (λj=>!listed.getD j true)).length:=List.length_filter_lt_length_iff_exists.2 ⟨i,abv.2 ⟨Rp.2 s,by grind⟩,by simp⟩;omega)
     refine⟨⟨λj c=>?_,n,G⟩,abK.2 ⟨λh=>(u i h).1 (by simp),H⟩,λj c=>?_,λj c=>?_⟩
     . unfold jv at c
       rw[q]at c;obtain⟨e,l,hb⟩:=abb.1 c;simp only[za,abS]at hb;have v:e∈o.after:=by simpa using l
       have B:=m e v hb.1
       grind
     . rcases abf.1 c with e|e
       . grind
       . exact⟨λh=>(u j e).1 (by simp[h]),(u j e).2⟩
     . rcases I j c with h|h
       . exact .inl (by simp[h])
       . rcases abf.1 h with e|e
         . exact .inl (by simp[e])
         grind
def Bu(a:∀i o,ops[i]?=some o->∀e∈o.after,Region.binds .any e=true->e.on<i)  t :
 jw ops [] (Region.linearise .any ops t)/\(Region.linearise .any ops t).Nodup/\(∀i,i∈Region.linearise .any ops t↔i<ops.size):=by
 obtain⟨b,c,d,f⟩:=Bt a ops.size t (Array.replicate ops.size false) [] (by simp) (λi g=>by simp[g]) (by grind);refine⟨b,c,λi=>⟨λh=>(d i h).2,λh=>?_⟩⟩;rcases f i h with h|h
 . exact h
 . cases h
end
section
variable{P:adI}{m:Mo}{fid n:Nat}{ro:adt}{D:List zk}{rc:Rec}{K:adj}{k:adx}{ops:ads}{Kp:adl}
def Any(P:adI)(m:Mo)(ops:ads)(n:Nat)(Kp:adl)(done rest:adB)(env:Env)(σ:ab)(R:adk):Prop:=∀l,jw ops done l->l.Nodup->(∀i,i∈l↔i∈rest)->cW P m ops n Kp l env σ R
def Go.draw{id}(j:P.follows .mixedOrders=true)(l:qJ ops=true){env σ}
 (h:Any P m ops n (λv σ=>∀env,K (.panic v) ⟨env,σ,D,rc⟩) [] (List.range ops.size) env σ (λenv σ=>Go P m fid n ro k ⟨env,σ,D,rc⟩ K)):Go P m fid n ro (.code (.region id ops true)::k) ⟨env,σ,D,rc⟩ K:=by
 intro Q d O tmps defs kind cs o p q;refine .step (λr s g=>r=d/\s=O/\∃t,g=G ⟨fid,tmps,.inRegion ops (Region.linearise .any ops t)::k,defs,.run,kind,ro⟩ (fZ rc cs)) rfl ?_ ?_
 . rintro _ _ _ ⟨rfl,rfl,t,rfl⟩
   obtain⟨u,y,A⟩:=Bu (xc l) t;have:=h _ u y (λi=>by grind);exact Go.sF (D:=D) (rc:=rc) _ env σ (λv env σ z=>z env) this _ _ _ tmps defs kind cs o p q
 . intro w a
   refine⟨G ⟨fid,tmps,.inRegion ops (Region.linearise .any ops (w.tape w.drawn (.order fid id)))::k,defs,.run,kind,ro⟩ (fZ rc cs),{w with drawn:=w.drawn+1},#[],d,O,?_,?_,?_,rfl,rfl,_,rfl⟩
   . simp[G,stepG,stepG.exec,choose,Sem.run,Question.forced,Question.cut,Region.schedule,j]
   . exact{le:=.refl _,size:=aaP _,keep:=λ_ _ _=>rfl,tail:=λb n _ _ c e h=>⟨c,h,rfl,λ_ _=>rfl⟩,part:=λb n _ _ c e h=>⟨c,h,rfl,λ_ _=>rfl⟩,shape:=λ_ _=>rfl,own:=λb x h=>.inl ⟨x,h,.refl x⟩,cell:=λ_ _ _ h=>.inl h,sh:=λ_ _ h=>.inl h,evs:=λe h=>by simp at h,tape:=rfl,output:=rfl,os:=rfl,low:=λe h=>by simp at h,tok:=λ_ f h=>⟨f,h⟩}
   . exact⟨a.apart,a.cell,a.sh,a.obj,a.tail,a.part⟩
def jx(P:adI)(m:Mo)(ops:ads)(n:Nat)(Kp:adl)(i:Nat)(env:Env)(σ:ab)(R:adk):Prop:=
 ∃ o,ops[i]?=some o/\Oper.ok n o=true/\
   ((bZ ops n env o/\Pa P m o env σ (λa b=>R (bg env o.dst a) b) Kp)\/(lM ops n env o/\R (bg env o.dst (.lit (.tuple #[]))) σ))
section
variable(L:jo P)
instance(n:Int):Decidable (fits n):=by unfold fits;infer_instance
def xd(op:BinOp)(kd:IntKind)(a b:Int):adn:=
 match op,kd with
 |.add,.i64=>if fits (a+b)then some (.int .i64 (a+b))else none
 |.sub,.i64=>if fits (a-b)then some (.int .i64 (a-b))else none
 |.mul,.i64=>if fits (a*b)then some (.int .i64 (a*b))else none
 |.eql,_=>some (.bool (a==b))
 |.neq,_=>some (.bool (a !=b))
 |.lss,_=>some (.bool (decide (a<b)))
 |.leq,_=>some (.bool (decide (a<=b)))
 |.gtr,_=>some (.bool (decide (a>b)))
 |.geq,_=>some (.bool (decide (a>=b)))
 |.shl,_=>if 0<=b then some (.int kd (kd.wrap (a*2 ^ (min b.toNat kd.bits))))else none
 |.shr,_=>if 0<=b then some (.int kd (a.fdiv (2 ^ (min b.toNat kd.bits))))else none
 |op,kd=>pz op kd a b
def Bv{op kd a b v R}(h:xd op kd a b=some v)(c:R v):rR op kd a b R:=by
 unfold xd at h;unfold rR;split at h
 . grind
 . grind
 . grind
 . simp_all
 . simp_all
 . simp_all
 . simp_all
 . simp_all
 . simp_all
 . simp_all
 . simp_all
 simp_all
def vK(mu:adB)(o:Oper)(env:Env):ady:=
 match o.op with
 |.move x|.assign x=>some (an env x)
 | .pick c a b=>match an env c with
   |.lit (.bool x)=>some (if x then an env a else an env b)
   |_=>none
 |.box _ x=>if(match o.dst with|some d=>mu.contains d|none=>false)=true then none else if(an env x).cells.all AV.flat=true then some (.cp (an env x) 0)else none
 | .load t p=>match L.tt t,an env p with
   |some i,.cp v off=>cR v.cells off i.size i.agg
   |some i,.kp _ l hole off=>O8 l hole off i.size i.agg
   |_,_=>none
 | .fieldAddr s x j=>match L.tt s with
   | some ⟨.struct,_,_,_,jS⟩=>(match jS[j]? with
     |some f=>if f.2.1≠0 then su (an env x) f.1 else none
     |none=>none)
   |_=>none
 | .field s x j=>match L.tt s,an env x with
   | some ⟨.struct,_,_,_,jS⟩,.agg l=>(match jS[j]? with
     |some f=>(match L.tt f.2.2 with|some n=>cR l f.1 n.size n.agg|none=>none)
     |none=>none)
   |_,_=>none
 | .indexAddr t x h=>match L.tt t with
   | some ⟨.slice e,_,_,_,_⟩=>(match L.tt e,an env x,an env h with
     |some g,.sl q es _,.lit (.int _ z)=>if q=g.size/\0<=z then(es[z.toNat]?).map (λa=>.cp a 0)else none
     |some g,.gn b off len _,.lit (.int _ z)=>if 0<=z/\z<len then some (.ref b (off+z.toNat*g.size))else none
     |_,_,_=>none)
   | some ⟨.array k e,_,_,_,_⟩=>(match L.tt e,an env h with
     |some g,.lit (.int _ z)=>if 0<=z/\z<k then su (an env x) (z.toNat*g.size)else none
     |_,_=>none)
   |_=>none
 | .index t x h=>match L.tt t with
   | some ⟨.array k e,_,_,_,_⟩=>(match L.tt e,an env x,an env h with
     |some g,.agg l,.lit (.int _ z)=>if 0<=z/\z<k then cR l (z.toNat*g.size) g.size g.agg else none
     |_,_,_=>none)
   |_=>none
 | .binOp op t x y _=>match L.tt t with
   | some ⟨.int _,_,_,_,_⟩=>(match an env x,an env y with
     |.lit (.int kd a),.lit (.int m b)=>if kd=m\/op=.shl\/op=.shr then(xd op kd a b).map .lit else none
     |_,_=>none)
   |_=>none
 | .unOp .not _ x=>match an env x with
   |.lit (.bool b)=>some (.lit (.bool !b))
   |_=>none
 | .convert s t x=>match L.tt s,L.tt t,an env x with
   |some ⟨.int _,_,_,_,_⟩,some ⟨.int kd,_,_,_,_⟩,.lit (.int _ a)=>some (.lit (.int kd (kd.wrap a)))
   |_,_,_=>none
 | .makeInterface t x=>match L.tt t with
   |some i=>if i.kind≠.iface then some (.mr t (an env x))else none
   |none=>none
 |.makeFunc f fs cs=>some (.fn f (fs.toList.map (an env)) (cs.toList.map (an env)))
 | .extract x j=>match an env x with
   |.cA l=>l[j]?
   |_=>none
 | .nilCheck x=>match an env x with
   |.cp v off=>some (.cp v off)
   |.ref b off=>some (.ref b off)
   |.kp b l hole off=>some (.kp b l hole off)
   |_=>none
 | .call c=>match c.callee,c.args.toList with
   | .builtin .len,[x]=>(match c.argTypes[0]? with
     | some t=>(match L.tt t with
       | some ⟨.slice _,_,_,_,_⟩=>(match an env x with
         |.sl _ es _=>some (.lit (.int .i64 es.length))
         |.lit (.slice none 0 0)=>some (.lit (.int .i64 0))
         |.gn _ _ len _=>some (.lit (.int .i64 len))
         |_=>none)
       |_=>none)
     |none=>none)
   |_,_=>none
 |_=>none
def xe{mu o env a}(h:vK L mu o env=some a):(∀c,o.op≠.defer c)/\Fp P o env a:=by
 have key:sD L o=true/\∀(K:adl) σ,K a σ->TV L mu o env σ K (λ_ _=>False):=by
  unfold vK at h;unfold sD TV;split at h
  . simp_all
  . simp_all
  . next c x y b=>
    simp only[b]
    grind
  . next t x b=>
    simp only[b]
    grind
  . next t p b=>
    simp only[b];split at h
    . simp_all
    . simp_all
    . cases h
  . next s x j b=>
    simp only[b]
    grind
  . next s x j b=>
    simp only[b]
    grind
  . next t x n b=>
    simp only[b];split at h
    . next e g i l m d=>
      simp only[d]
      grind
    . next k e g i l m d=>
      simp only[d]
      grind
    . cases h
  . next t x n b=>
    simp only[b];split at h
    . grind
    . cases h
  . next op t x y E b=>
    simp only[b];split at h
    . next F g i l m d=>
      simp only[d];split at h
      . next kd u q v r w=>
        simp only[r,w];split at h
        . next z=>obtain⟨y,A,G⟩:=aaS.1 h;refine⟨by simp_all,λK σ H=>⟨z,Bv A (by simp_all)⟩⟩
        . cases h
      . cases h
    . cases h
  . next t x b=>
    simp only[b]
    grind
  . next s t x b=>
    simp only[b]
    grind
  . next t x b=>
    simp only[b]
    grind
  . simp_all
  . next x j b=>
    simp only[b]
    grind
  . next x b=>
    simp only[b]
    grind
  . next c b=>
    simp only[b];split at h
    . next x B C=>
      simp only[B,C]
      grind
    . cases h
  . cases h
 refine⟨λc e=>?_,λσ=>It L key.1 (key.2 (λD f=>D=a/\f=σ) σ ⟨rfl,rfl⟩)⟩
 simp_all
def xf(o:Oper)(env:Env)(σ:ab):ady:=
 match o.op with
 | .load t p=>match L.tt t with
   |some i=>rk i σ (an env p)
   |none=>none
 |_=>none
def u6{o env σ a}(h:xf L o env σ=some a):(∀c,o.op≠.defer c)/\sG P o env σ a:=by
 unfold xf at h;split at h
 . next t p b=>
   split at h
   . next i d=>exact⟨λc e=>(by simp_all),Bq L b d h ⟨rfl,rfl⟩⟩
   . cases h
 . cases h
def jK(mu:adB)(ops:ads)(n:Nat)(lt:Bool)(σ:ab):adB->Env->(Env->Prop)->Prop
 |[],env,K=>K env
 | i :: S,env,K=>match ops[i]? with
   | some o=>Oper.ok n o=true/\o.dst.isSome=true/\rS ops n env o (match vK L mu o env with
      |some a=>jK mu ops n lt σ S (bg env o.dst a) K
      | none=>lt=true/\(match xf L o env σ with
        |some a=>jK mu ops n lt σ S (bg env o.dst a) K
        |none=>False)) (jK mu ops n lt σ S (bg env o.dst (.lit (.tuple #[]))) K)
   |none=>False
def ascending:adB->Bool
 |i::j::l=>Nat.blt i j && ascending (j::l)
 |_=>true
def pN{i}:∀{l},ascending (i::l)=true->ascending l=true/\∀j∈l,i<j
 |[],_=>⟨rfl,λ_ h=>by cases h⟩
 | a::l,h=>by
   simp only[ascending,za,Nat.blt_eq]at h;obtain⟨c,b⟩:=h;have d:=pN b
   grind
def xg{mu rest σ lt}  m  (A:ly ops rest m=true) (l:lt=true->∀i∈m,late ops rest m i=true):∀  S   env   K ,ascending S=true->(∀i∈S,i∈m/\i∈rest)->jK L mu ops n lt σ S env K ->
 ∃f,K f/\(∀i∈S,Bs P ops n rest m f σ i)/\∀t,(∀i∈S,∀o,ops[i]?=some o->o.dst≠some t)->f t=env t
 |[],env,K,_,_,h=>⟨env,h,λ_ U=>(by cases U),λ_ _=>rfl⟩
 | i :: S, env,K,B,p,h=>by
   obtain⟨B,V⟩:=pN B;unfold jK at h;split at h
   . next o w=>
     obtain⟨C,D,h⟩:=h;obtain⟨d,hd⟩:=Option.isSome_iff_exists.1 D
     have main:∀a,jK L mu ops n lt σ S (bg env o.dst a) K->((bZ ops n env o/\(∀c,o.op≠.defer c)/\(Fp P o env a\/(late ops rest m i=true/\sG P o env σ a)))\/(lM ops n env o/\a=.lit (.tuple #[])))->∃f,K f/\(∀j∈i::S,Bs P ops n rest m f σ j)/\∀t,(∀j∈i::S,∀o,ops[j]?=some o->o.dst≠some t)->f t=env t:=by
      intro a W q;obtain⟨f,X,h2,E⟩:=xg m A l S _ K B (λj k=>p j (by simp[k])) W
      have g:∀t∈dI ops o,f t=env t:=λt F=>by
       have G:∀j∈S,∀y,ops[j]?=some y->y.dst≠some t:=λj k y s u=>by
        obtain⟨Y,_⟩:=jT A (p i (by simp)).2 (p j (by simp[k])).2 w s u
        grind
       rw[E t G,kh];by_cases H:o.dst=some t
       . obtain⟨Y,_⟩:=jT A (p i (by simp)).2 (p i (by simp)).2 w w H
         grind
       grind
      have r:f d=a:=by
       rw[E d (λj k y s u=>by
        obtain⟨_,c2⟩:=jT A (p i (by simp)).2 (p j (by simp[k])).2 w s u
        grind),kh,aaK hd]
      refine⟨f,X,λj k=>?_,λt F=>?_⟩
      . rcases abf.1 k with rfl|k
        . refine⟨o,w,C,?_⟩
          rcases q with⟨q,I,J⟩|⟨q,rfl⟩
          . refine .inl ⟨q.congr g,d,hd,I,?_⟩
            rw[r];have R:∀σ,aK P o env σ (λM v=>M=a/\v=σ) (λ_ _=>False)->aK P o f σ (λM v=>M=a/\v=σ) (λ_ _=>False):=λσ h=>h.congr λx T=>pM λt e=>g t (mem_reads (by grind))
            exact J.imp (λh σ=>R σ (h σ)) (λh=>⟨h.1,R σ h.2⟩)
          . exact .inr ⟨q.congr g,d,hd,r⟩
        grind
      . rw[E t (λj k=>F j (by simp[k])),kh,aaJ (F i (by simp) o w)]
     rcases sE h with⟨q,h⟩|⟨j,b,x,Z,y,hg,k,N,O,T,Q,h⟩
     . split at h
       . next a z=>exact main a h (.inl ⟨q,(xe L z).1,.inl (xe L z).2⟩)
       . obtain⟨hl,h⟩:=h
         split at h
         . next a z=>exact main a h (.inl ⟨q,(u6 L z).1,.inr ⟨l hl i (p i (by simp)).1,(u6 L z).2⟩⟩)
         grind
     . exact main (.lit (.tuple #[])) h (.inr ⟨⟨j,b,x,Z,y,hg,k,N,O,T,Q⟩,rfl⟩)
   simp_all
def Any.hoist  mu   S  {done rest env σ R}(hd:∀i∈rest,i∉done) (j:∀i∈S,i∈rest) (p:∀i∈rest,(ops[i]?).isSome=true) (q:ascending S=true) (k:ly ops rest S=true){lt}(c:lt=true->∀i∈S,late ops rest S i=true)
 (h:jK L mu ops n lt σ S env (λb=>Any P m ops n Kp (S++done) (rest.filter λi=>!S.contains i) b σ R)):Any P m ops n Kp done rest env σ R:=by
 intro l d f e;obtain⟨b,r,s,u⟩:=xg L S k c S env _ q (λi a=>⟨a,j i a⟩) h
 refine cz.hoist k l done env b σ (λi a=>(e i).1 a) d (λi a=>hd i ((e i).1 a)) f (λi a=>Option.isSome_iff_exists.1 (p i ((e i).1 a))) (λi _ g=>s i g)
  (λt v=>u t λi a o w=>v i ((e i).2 (j i a)) a o w) ?_
 refine r _ (jw.sub (λi=>!S.contains i) l done (S++done) d (λi a=>by simp[a]) (λi _ x=>by simp_all) (λi a x=>?_) f) (f.filter _) (λi=>by simp_all)
 simp_all
def Bw(ops:ads)(done rest S:adB):Bool:=(rest.all λi=>!done.contains i && (ops[i]?).isSome) && (S.all λi=>rest.contains i) && ascending S && ly ops rest S
def Any.take  mu   S  {done rest env σ R}  lt  (d:Bw ops done rest S=true) (a:lt=true->(S.all λi=>late ops rest S i)=true)
 (h:jK L mu ops n lt σ S env (λb=>Any P m ops n Kp (S++done) (rest.filter λi=>!S.contains i) b σ R)):Any P m ops n Kp done rest env σ R:=by
 simp only[Bw,za,aaL]at d;obtain⟨⟨⟨f,k⟩,g⟩,j⟩:=d;exact Any.hoist L mu S (λi c=>by simp_all) (λi c=>by simp_all) (λi c=>(f i c).2) g j (λe i c=>aaL.1 (a e) i c) h
end
end
attribute [simp] jK vK xf xd
section
variable{P:adI}{m:Mo}{n:Nat}{ops:ads}{Kp:adl}
def cW.mono{R c}(b:∀env σ,R env σ->c env σ):∀  l   env   σ ,cW P m ops n Kp l env σ R->cW P m ops n Kp l env σ c
 |[],env,σ,h=>b _ _ h
 |i::l,env,σ,⟨o,d,e,f⟩=>⟨o,d,e,f.imp (λh=>⟨h.1,h.2.mono λa g=>cW.mono b l _ _⟩) (λh=>⟨h.1,cW.mono b l _ _ h.2⟩)⟩
def jK.mono(L:jo P){mu lt σ K c}(b:∀env,K env->c env):∀{S env},jK L mu ops n lt σ S env K->jK L mu ops n lt σ S env c
 |[],env,h=>b _ h
 | i :: S,env,h=>by
   unfold jK at h ⊢;split at h
   . next o d=>
     try simp only[d]
     refine⟨h.1,h.2.1,?_⟩;have h:=h.2.2;unfold rS at h ⊢
     have main:∀{x:ady}{y:ady},(match x with|some a=>jK L mu ops n lt σ S (bg env o.dst a) K|none=>lt=true/\(match y with|some a=>jK L mu ops n lt σ S (bg env o.dst a) K|none=>False)) ->
      (match x with|some a=>jK L mu ops n lt σ S (bg env o.dst a) c|none=>lt=true/\(match y with|some a=>jK L mu ops n lt σ S (bg env o.dst a) c|none=>False)):=by
      intro x y h;cases x with
      |some a=>exact jK.mono L b h
      | none=>
        refine⟨h.1,?_⟩;cases y with
        |some a=>exact jK.mono L b h.2
        |none=>exact h.2
     split at h
     . exact main h
     . split at h
       . refine⟨h.1,?_⟩
         have h:=h.2;split at h
         . exact⟨λe=>main (h.1 e),λe=>jK.mono L b (h.2 e)⟩
         . exact jK.mono L b h
         . exact h
       . exact h
   . exact h
inductive oh where
 |done
 |take (S:adB) (lt:Bool) (p:oh)
 |one (i:Nat) (p:oh)
 |both (i:Nat) (p q:oh)
structure Entry where
 id:Nat
 Wx:oh
def fD(ops:ads):oh->adB->adB->adB->Bool
 |.done,_,_,rest=>rest.isEmpty
 |.take S lt p,ex,done,rest=>ex.isEmpty && Bw ops done rest S && (!lt||S.all λi=>late ops rest S i) && fD ops p [] (S++done) (rest.filter λi=>!S.contains i)
 |.one i p,ex,done,rest=>rest.contains i && (rest.all λj=>!done.contains j) && (rest.all λj=>j==i||ex.contains j||(rest.any λx=>jv ops x j)) && fD ops p [] (i::done) (rest.filter (· !=i))
 |.both i p q,ex,done,rest=>rest.contains i && fD ops p [] (i::done) (rest.filter (· !=i)) && fD ops q (i::ex) done rest
def sH(ops:ads)(e:Entry):Bool:=qJ ops && fD ops e.Wx [] [] (List.range ops.size)
def Wy(P:adI)(m:Mo)(ops:ads)(n:Nat)(Kp:adl)(ex done rest:adB)(env:Env)(σ:ab)(R:adk):Prop:=∀l,jw ops done l->l.Nodup->(∀i,i∈l↔i∈rest)->(∀i a,l=i::a->i∉ex)->cW P m ops n Kp l env σ R
def iW(P:adI)(m:Mo)(ops:ads)(n:Nat)(Kp:adl)(p:oh)(env:Env)(σ:ab)(R:adk):Prop:=∀ex done rest,fD ops p ex done rest=true->Wy P m ops n Kp ex done rest env σ R
def K0{i}{l rest:adB}(a:(i::l).Nodup)(b:∀j,j∈i::l↔j∈rest)  j :j∈l↔j∈rest.filter (· !=i):=by grind
def cW.K1{i}{l ex done rest:adB}{p env σ R}(c:jw ops done (i::l))(b:(i::l).Nodup)(d:∀j,j∈i::l↔j∈rest)
 (e:fD ops p [] (i::done) (rest.filter (· !=i))=true) (h:jx P m ops n Kp i env σ (λenv σ=>iW P m ops n Kp p env σ R)):cW P m ops n Kp (i::l) env σ R:=by
 have next:∀env σ,iW P m ops n Kp p env σ R->cW P m ops n Kp l env σ R:=λenv σ h=>h [] _ _ e l c.2.2 (abK.1 b).2 (K0 b d) (λ_ _ _ h=>by cases h)
 obtain⟨o,f,g,k⟩:=h;exact⟨o,f,g,k.imp (λh=>⟨h.1,h.2.mono λa q=>next _ _⟩) (λh=>⟨h.1,next _ _ h.2⟩)⟩
def iW.done{env σ R}(h:R env σ):iW P m ops n Kp .done env σ R:=λex done rest a l _ _ b _=>by
 simp only[fD,List.isEmpty_iff]at a;subst a;cases l with
 |nil=>exact h
 |cons i l=>exact absurd ((b i).1 (by simp)) (by simp)
def iW.take(L:jo P)  mu  {S lt p env σ R}(h:jK L mu ops n lt σ S env (λd=>iW P m ops n Kp p d σ R)):iW P m ops n Kp (.take S lt p) env σ R:=by
 intro ex done rest f;simp only[fD,za]at f;obtain⟨⟨⟨j,g⟩,k⟩,i⟩:=f;have:=Any.take (m:=m) (Kp:=Kp) (R:=R) L mu S lt g (λe=>by simp_all) (jK.mono L (λd h=>λl a b c=>h [] _ _ i l a b c (λ_ _ _ h=>by cases h)) h);exact λl a b c _=>this l a b c
def iW.one{i p env σ R}(h:jx P m ops n Kp i env σ (λenv σ=>iW P m ops n Kp p env σ R)):iW P m ops n Kp (.one i p) env σ R:=by
 intro ex done rest d l e g f r;simp only[fD,za,aaL,abX,abS,abb]at d;obtain⟨⟨⟨s,hd⟩,k⟩,o⟩:=d;have q:i∈rest:=by simp_all
 cases l with
 |nil=>simp_all
 | cons j l=>
   have a:j∈rest:=(f j).1 (by simp)
   have b:j=i:=by
    rcases k j a with(h|h)|⟨x,c,h⟩
    . exact h
    . simp_all
    . have:=hd x c
      exact absurd (e.1 x h) (by simp_all)
   subst b;exact cW.K1 (ex:=ex) e g f o h
def iW.both{i p q env σ R}(h:jx P m ops n Kp i env σ (λenv σ=>iW P m ops n Kp p env σ R))(g:iW P m ops n Kp q env σ R):iW P m ops n Kp (.both i p q) env σ R:=by
 intro ex done rest b l c d f s;simp only[fD,za]at b;obtain⟨⟨t,k⟩,o⟩:=b;have r:i∈rest:=by simp_all
 cases l with
 |nil=>simp_all
 | cons j l=>
   by_cases a:j=i
   . subst a
     exact cW.K1 (ex:=ex) c d f k h
   . exact g _ _ _ o _ c d f λx u e=>by simp_all
def rq{id}:∀{k k'},exitTo id k=some k'->∀x∈k',x∈k
 |[],k',h=>by simp_all
 | i::k,k',h=>by
   have again:exitTo id k=some k'->∀x∈k',x∈i::k:=λh x a=>abP _ (rq h x a)
   cases i<;>simp only[exitTo]at h<;>first|exact again h|skip
   grind
end
section
variable{P:adI}(L:jo P)
def oi(fn:Func)(k:Nat):Bool:=Nat.ble k fn.ntmps && fn.results.toList.all (ResultVar.ok fn.ntmps)
end
attribute [simp] List.find?
def ki{k O r c e x}(p:O r=some (.obj (.cells c e x))):kR k O (k.eP r (e,c.size)) O:=λw h=>by
 have t:=h.obj _ _ p;have g:w.shape? r=some (e,c.size):=by simp[World.shape?,t]
 refine⟨⟨h.apart,h.cell,λb s hb=>?_,h.obj,λb n hb=>?_,λb n hb=>?_⟩,⟨⟨λ_ _ _ h=>h,λb s d=>?_⟩,aaP _,λ_ _ _=>rfl,λ_ _ _ _ c _ h=>⟨c,h,rfl,λ_ _=>rfl⟩,λ_ _ _ _ c _ h=>⟨c,h,rfl,λ_ _=>rfl⟩,λ_ _=>rfl,λb x u=>.inl ⟨x,u,.refl x⟩,λb i v y=>.inl y,λb s d=>?_,by simp,rfl,rfl,rfl,by simp,λ_ f h=>⟨f,h⟩⟩⟩
 . by_cases a:b=r
   . subst a;simp[ar.eP]at hb;simp_all
   . exact h.sh b s (by simpa[ar.eP,a]using hb)
 . obtain⟨j,l,m,o⟩:=h.tail b n hb
   refine⟨j,l,m,?_⟩;have:b≠r:=λq=>by simp_all
   simpa[ar.eP,this]using o
 . obtain⟨j,l,m,o⟩:=h.part b n hb
   refine⟨j,l,m,?_⟩;have:b≠r:=λq=>by simp_all
   simpa[ar.eP,this]using o
 . by_cases a:b=r
   . subst a
     have:=h.sh _ _ d;rw[g]at this;cases this;simp[ar.eP]
   . simpa[ar.eP,a]using d
 . by_cases a:b=r
   . simp_all
   . exact .inl (by simpa[ar.eP,a]using d)
section
variable{P:adI}{m:Mo}{Q:acZ}{k:ar}{O:aj}{g:adz}
def T.freeze{r n c e}(d:O r=some (.obj (.cells c e (0,0))))(b:g.status=.running)
 (h:∀k' O',k.Le k'->k'.sh r=some (e,c.size)->(∀j v,j<n->c[j]?=some v->k'.cell r j=some v)->O'=O.set r (.tail n)->T P m Q k' O' g):T P m Q k O g:=by
 by_cases a:∃w,Sat k O w
 . obtain⟨w,f⟩:=a
   have i:∀j,k.cell r j=none:=λj=>by
    cases q:k.cell r j with
    |none=>rfl
    |some v=>exact(f.apart _ _ _ q (.inl ⟨_,d⟩)).elim
   have o:=(ki (k:=k) d w f).2.le;have l:(k.eP r (e,c.size)).Le ((k.eP r (e,c.size)).wQ r c n):=.wQ i;exact .ghost (ki d) (.ghost (oe (n:=n) d (by simp[ar.eP])) (h _ _ (o.trans l) (by simp[ar.wQ,ar.eP]) (λj v p s=>by simp[ar.wQ,p,s]) rfl))
 . exact .step (λ_ _ _=>False) b (λ_ _ _ h=>h.elim) λw f=>absurd ⟨w,f⟩ a
end
def dS:∀{es},(∀e∈es,e.cells=[e])->flatten es=es
 |[],_=>rfl
 | e::es,h=>by
   have c:=h e (by simp);have a:=dS (es:=es) λx b=>h x (by simp[b])
   simp only[flatten]at a ⊢
   simp_all
def V.C7{k v kk es sp}(h:V k v (.sl kk es sp)):(∃a,v=.slice a 0 0/\es=[]/\(sp=.any\/(sp=.exact/\a.isSome=true)))\/∃(b off cap N:Nat) (E:TypeId) (c:Nat->Value),v=.slice (some ⟨b,off,none⟩) es.length cap/\es.length<=cap/\k.sh b=some (E,N)/\off+cap*kk<=N/\(∀e∈es,e.cells.length=kk)/\
 (∀j,j<(flatten es).length->k.cell b (off+j)=some (c j)/\cz.flat (c j)=true)/\(∀  j  a,(flatten es)[j]?=some a->V k (c j) a)/\sp.fits b off es.length kk cap:=by
 cases h with
 |sl b off cap _ N E _ _ c d f g i l m n=>exact .inr ⟨b,off,cap,N,E,c,rfl,d,f,g,i,l,m,n⟩
 |slnil a _ _ h=>grind
inductive Fz(b:Nat)(l:adF):AV->AV->Prop
 |refl (a:AV):Fz b l a a
 | sl (off cap kk:Nat) (es:adF) (sp:nA):es.length<=cap->off+cap*kk<=l.length->(∀e∈es,e.cells.length=kk)->(∀(j:Nat) a,(flatten es)[j]?=some a->l[off+j]?=some a)->(sp=.any\/(sp=.exact/\cap=es.length)) ->
    Fz b l (.gn b off es.length cap) (.sl kk es sp)
 |fn (f:Fn) (a1 a2 c1 c2:adF):a1.length=a2.length->c1.length=c2.length->(∀(i:Nat) a a',a1[i]?=some a->a2[i]?=some a'->Fz b l a a')->(∀(i:Nat) a a',c1[i]?=some a->c2[i]?=some a'->Fz b l a a')->Fz b l (.fn f a1 c1) (.fn f a2 c2)
 |rows (es es':adF) (sp:nA):es.length=es'.length->(∀e∈es,e.cells=[e])->(∀e∈es',e.cells=[e])->(∀(i:Nat) a a',es[i]?=some a->es'[i]?=some a'->Fz b l a a')->Fz b l (.sl 1 es sp) (.sl 1 es' sp)
 |cp (base off:Nat) (v:AV):base+v.cells.length<=l.length->(∀(j:Nat) a,v.cells[j]?=some a->l[base+j]?=some a)->Fz b l (.ref b (base+off)) (.cp v off)
 |agg (l1 l2:adF):l1.length=l2.length->(∀(i:Nat) a a',l1[i]?=some a->l2[i]?=some a'->Fz b l a a')->Fz b l (.agg l1) (.agg l2)
 |cA (l1 l2:adF):l1.length=l2.length->(∀(i:Nat) a a',l1[i]?=some a->l2[i]?=some a'->Fz b l a a')->Fz b l (.cA l1) (.cA l2)
def Bx(k:ar)(b:Nat)(E:TypeId)(l:adF):Prop:=k.sh b=some (E,l.length)/\∀(j:Nat) a,l[j]?=some a->∃u,k.cell b j=some u/\V k u a/\cz.flat u=true
def Fz.sound{k b E l a a'}(h:Fz b l a a')(o:Bx k b E l):∀{v},V k v a->V k v a':=by
 induction h with
 |refl a=>simp_all
 | sl off cap T es sp g n p r s=>
   intro v d;cases d
   exact V.ofRow g o.1 n p (λj a q=>o.2 _ _ (r j a q)) (by
    rcases s with rfl|⟨rfl,s⟩
    . trivial
    . exact s)
 | rows es t sp g n p _ z=>
   intro v d;have f1:=dS n;have U:=dS p;rcases d.C7 with⟨W,rfl,rfl,F⟩|⟨G,off,cap,N,H,c,rfl,X,I,J,Y,A,K,Z⟩
   . grind
   . rw[f1]at A K
     rw[g];refine .sl G off cap 1 N H t sp c (by omega) I J (λe he=>by simp_all) (λj B=>A j (by simp_all)) (λj a q=>?_) (by simp_all)
     grind
 | cp base off x hlen g=>
   intro v d;cases d;refine .cp b base off _ _ x (λj=>(k.cell b (base+j)).getD undef) o.1 hlen (λj B=>?_) (λj a q=>?_)
   . obtain⟨u,n,p,r⟩:=o.2 _ _ (g j x.cells[j] (by simp[B]))
     simp_all
   . obtain⟨u,n,p,r⟩:=o.2 _ _ (g j a q)
     simp_all
 | fn f a1 L c1 M g n _ _ O P=>
   intro v d;cases d with
   | fn _ Q R _ _ C D g3 g4=>
     refine .fn f Q R L M (by omega) (λi u a' w m=>?_) (by omega) (λi u a' w m=>?_)
     . grind
     grind
 | agg S y g _ z=>
   intro v d;cases d with
   | agg c _ C D=>
     refine .agg c y (by omega) λi u a' w m=>?_
     grind
 | cA S y g _ z=>
   intro v d;cases d with
   | cA c _ C D=>
     refine .cA c y (by omega) λi u a' w m=>?_
     grind
def OU(b:Nat)(l:adF)(σ σ':ab):Prop:=∀c y,σ' c=some y->c≠b/\(σ c=some y\/∃d e,σ c=some (.cells d)/\y=.cells e/\d.length=e.length/\∀(i:Nat) a f,d[i]?=some a->e[i]?=some f->Fz b l a f)
def OU.del  b   l   σ :OU b l σ (σ.del b):=λc y h=>by
 unfold ab.del at h
 simp_all
def OU.sound{k O b E l σ σ'}(h:OU b l σ σ')(t:Bx k b E l)(f:Rel k O σ)  x :Rel k (O.set b x) σ':=⟨λc y g j=>by
 obtain⟨d,h⟩:=h c y g;rcases h with h|⟨m,q,n,rfl,r,u⟩
 . obtain⟨z,o,a⟩:=f.1 c y h j
   exact⟨z,by simp[aj.set,d,o],a⟩
 . obtain⟨z,o,a⟩:=f.1 c _ n (by simp)
   cases a with
   | cells w e _ F A B=>
     refine⟨_,by simp only[aj.set,d,aaH];exact o,.cells w e q (by omega) (λi v C D p=>?_) B⟩;have s:i<m.length:=by grind
     exact(u i m[i] C (by simp[s]) p).sound t (A i v _ D (by simp[s])),λc y g j=>by
 obtain⟨d,h⟩:=h c _ g;rcases h with h|⟨m,q,_,h,_⟩
 . obtain⟨n,r⟩:=f.2 c y h j
   exact⟨by simp[aj.set,d,n],r⟩
 simp_all⟩
section
variable{P:adI}{m:Mo}
def T.By{Q k O g σ b l}(q:Rel k O σ)(hb:σ b=some (.cells l))(f:g.status=.running)
 (h:∀k' O',k.Le k'->(∀v a a',V k v a->Fz b l a a'->V k' v a')->(∀σ',OU b l σ σ'->Rel k' O' σ')->T P m Q k' O' g):T P m Q k O g:=by
 obtain⟨y,s,t⟩:=q.1 b _ hb (by simp);cases t with
 | cells c e _ u w x=>
   refine T.freeze (n:=c.size) s f λk' O' d o z p=>?_
   have r:Bx k' b e l:=⟨by rw[o,u],λj a A=>by
    have i:j<c.size:=by grind
    exact⟨c[j],z j _ i (by simp[i]),(w j _ a (by simp[i]) A).mono d,x j _ (by simp[i])⟩⟩
   refine h k' O' d (λv a a' B C=>C.sound r (B.mono d)) λσ' D=>?_
   rw[p];exact D.sound r (q.mono d) _
def Go.freeze{fid n ro todo K env a σ σ' D rc}  b   l  (hb:σ b=some (.cells l)) (d:∀t,Fz b l (env t) (a t)) (g:OU b l σ σ')
 (h:Go P m fid n ro todo ⟨a,σ',D,rc⟩ K):Go P m fid n ro todo ⟨env,σ,D,rc⟩ K:=by
 intro Q k O tmps defs kind cs i e j;refine T.By e.rel hb rfl λo p c q f=>?_
 exact h Q o p tmps defs kind cs i ⟨e.size,λt r=>q _ _ _ (e.env t r) (d t),f σ' g,e.ds.mono c,e.rc.mono c⟩ (j.mono c)
def Fz.upd{b l}{env:Env}{t a'}(h:Fz b l (env t) a')  u :Fz b l (env u) (env.upd t a' u):=by
 unfold Env.upd;split
 . simp_all
 . exact .refl _
inductive nE(KF:adm):adm
 |done {r:lr}{σ:ab}:KF r σ->nE KF r σ
 |freeze {a a':AV}{σ σ':ab}(b:Nat) (l:adF):σ b=some (.cells l)->Fz b l a a'->OU b l σ σ'->nE KF (.val a') σ'->nE KF (.val a) σ
 |om {a a':AV}{σ:ab}:a.W a'->nE KF (.val a') σ->nE KF (.val a) σ
 |less {r:lr}{σ σ':ab}:σ'.Le σ->nE KF r σ'->nE KF r σ
def az.thaw{f args σ t}(h:az P m f args σ (nE t)):az P m f args σ t:=by
 intro Q k O o c rest kind y z A I J
 have key:∀r i,nE t r i->∀e j g,k.Le e->Rel e j i->(match r with
  |.val a=>V e g a->T P m Q e j (kg kind c rest g)
  |.panic a=>V e g a->T P m Q e j (G (c.raise [⟨g,false,false⟩]) rest)):=by
  intro r i B;induction B with
  |@done r σ K=>grind
  | freeze b l hb C u _ p=>
    intro e j g n q v;refine T.By q hb (by cases kind<;>rfl) λD E s w x=>?_
    exact p D E g (n.trans s) (x _ u) (w _ _ _ v C)
  |om F _ p=>intro e j g n q v;exact p e j g n q (F _ _ v)
  |@less r σ i u _ p=>intro e j g n q;exact p e j g n (q.le u)
 exact h Q k O o c rest kind y z A (λe j g H i a b c d=>key _ _ d e j g a c b) (λe j g H i a b c d=>key _ _ d e j g a c b)
end
def K2(σ:ab)(a:AV)(kk:Nat)(es:adF):Prop:=Fo a kk es\/∃b off cap l,a=.gn b off es.length cap/\σ b=some (.cells l)/\(∀e∈es,e.cells.length=kk)/\∀(j:Nat) x,(flatten es)[j]?=some x->l[off+j]?=some x
def cd(σ0 σ:ab)(a:AV)(kk:Nat)(es:adF):Prop:=σ0.Le σ/\((es=[]/\(a=.nil\/a=.sl kk [] .exact))\/∃b cap rest,a=.gn b 0 es.length cap/\σ0 b=none/\es.length<=cap/\(∀e∈es,e.cells.length=kk)/\σ b=some (.cells (flatten es++rest))/\rest.length=(cap-es.length)*kk)
def cd.rd{σ0 σ a kk es}(h:cd σ0 σ a kk es):K2 σ a kk es:=by
 rcases h.2 with⟨rfl,rfl|rfl⟩|⟨b,cap,rest,rfl,_,_,c,d,_⟩
 . exact .inl (.inl ⟨rfl,rfl⟩)
 . exact .inl (.inr ⟨_,rfl⟩)
 . refine .inr ⟨b,0,cap,_,rfl,d,c,λj x e=>?_⟩
   grind
def cd.empty  σ   kk :cd σ σ (.sl kk [] .exact) kk []:=⟨λ_ _ h=>h,.inl ⟨rfl,.inr rfl⟩⟩
def cd.thaw{σ0 σ a kk es e}(h:cd σ0 σ a kk es)(d:e (.val (.sl kk es .any)) σ0):nE e (.val a) σ:=by
 rcases h.2 with⟨rfl,rfl|rfl⟩|⟨b,cap,rest,rfl,l,g,f,i,m⟩
 . exact .less h.1 (.om (fK kk) (.done d))
 . exact .less h.1 (.om (fL kk _ _) (.done d))
 . have n:=bM f
   refine .freeze b _ i (.sl 0 cap kk es .any g ?_ f (λj x o=>?_) (.inl rfl)) (OU.del b _ σ) (.less (λc y k=>?_) (.done d))
   . have:cap*kk=es.length*kk+(cap-es.length)*kk:=by rw[<-Nat.add_mul];simp_all
     simp_all
   . grind
   . have:c≠b:=λq=>by simp_all
     simp only[ab.del,this,aaH];exact h.1 c y k
section
variable{P:adI}(L:jo P){k:ar}{O:aj}{Kp:ada}
def V.RF{v b off len cap}(h:V k v (.gn b off len cap)):v=.slice (some ⟨b,off,none⟩) len cap:=by cases h;rfl
def V.K3{v}(h:V k v .nil):v=.slice none 0 0:=by cases h;rfl
def K2.facts{σ v a kk es}(h:K2 σ a kk es)(c:V k v a):∃base cap,v=.slice base es.length cap/\∀e∈es,e.cells.length=kk:=by
 rcases h with(⟨rfl,rfl⟩|⟨sp,rfl⟩)|⟨b,off,cap,l,rfl,d,f,g⟩
 . cases c;simp_all
 . rcases c.kY with⟨i,rfl,rfl,_⟩|⟨b,off,cap,N,E,rfl,j,m,n,o,_⟩
   . simp_all
   simp_all
 . cases c;simp_all
def rU{K σ v a kk es}(g:V k v a)(i:Rel k O σ)(d:K2 σ a kk es)
 (m:∀c ,c.size=es.length*kk->(∀(j:Nat) u x,c[j]?=some u->(flatten es)[j]?=some x->V k u x)->(∀(j:Nat) u,c[j]?=some u->flat u=true)->K c k O):dL P (Builtin.firstCells kk es.length v) k O K Kp:=by
 rcases d with d|⟨b,off,cap,l,rfl,n,o,p⟩
 . exact qI g d (aaP _) m
 . cases g
   obtain⟨y,q,r⟩:=i.1 b _ n (by simp);cases r with
   | cells s e _ t w z=>
     unfold Builtin.firstCells loadCells;have A:=bM o;refine js (l:=flatten es) (base:=off) (off:=0) (λj x B=>?_) (es.length*kk) 0 #[] (by omega) λvs C D E=>?_
     . have f:=p j x B
       have F:off+j<s.size:=by grind
       exact pJ.own (k:=k) q t w z (off+j) x f|>.imp λv h=>by grind
     grind
end
section
variable{P:adI}(L:jo P){o:Oper}{env:Env}{σ:ab}{K:adl}{Kp:adl}
def oo{s x G t t2 e e2 it W g σ0 es xs}(ho:o.op=.call ⟨.builtin .append,#[s,x],G⟩)(h0:G[0]?=some t)(N:G[1]?=some t2)(ht:L.tt t=some it)(hk:it.kind=.slice e)
 (ay:L.tt t2=some W) (aC:W.kind=.slice e2) (H:L.tt e=some g) (hb:g.bytes<=1024) (hlen:es.length+xs.length<=1073741824) (hs:cd σ0 σ (an env s) g.size es) (hx:K2 σ (an env x) g.size xs)
 (hz:(lL g.zero).cells.all AV.flat=true) (hK:∀a' σ',cd σ0 σ' a' g.size (es++xs)->K a' σ'):aK P o env σ K Kp:=λk O ρ p J=>by
 have A:=p s (by simp_all)
 have Q:=p x (by simp_all)
 have:execOp ρ o=(do pure (Next.value (<-Builtin.append_ G o.type #[ρ s,ρ x]))):=by simp[execOp,ho,resolve,invoke,builtin]
 rw[this];refine af ?_;have aE:g.zero.cells.size=g.size:=by obtain⟨_,_,_,_,_,_,h⟩:=L.facts H;exact h
 obtain⟨base,cap,B,aL⟩:=hs.rd.facts A;obtain⟨aO,bB,M,b0⟩:=hx.facts Q;have w:=hs.1;unfold Builtin.append_;simp only[h0,N,acx,aco,acP];refine af (aF L ht λd _ hd=>?_)
 rw[bP hd hk,B];dsimp only;refine af (bJ L H ?_);refine af (aF L ay λd2 _ X=>?_)
 rw[bP X aC];refine af (ag ?_);dsimp only;simp only[LK,aaH,Bool.not_false,aaO];refine af (s:=Builtin.lenOf (ρ x)) ?_;rw[M];refine ag ?_;rw[<-M];have C:=bM aL;have b1:=bM b0
 by_cases n:es.length+xs.length<=cap
 ·
  rw[aaK n];refine af (rU Q J hx λc D b2 Y=>?_)
  rcases hs.2 with⟨rfl,m⟩|⟨b,Z,rest,m,b3,hc,_,I,E⟩
  . have c5:cap=0:=by
     rcases m with m|m
     . rw[m,B]at A;have:=A.K3;simp_all
     . rw[m,B]at A
       rcases A.kY with⟨_,q1,_,_⟩|⟨_,_,Z,_,_,q1,_,_,_,_,_,q7⟩
       . grind
       . cases q1;exact q7
    have a7:xs=[]:=by simp_all
    subst a7
    have b4:c.toList=[]:=by simp_all
    have c7:V k (.slice base 0 cap) (an env s):=by simp_all
    cases base with
    |none=>dsimp only;refine ag (ag ⟨_,.inl rfl,.here ⟨.refl k,an env s,σ,?_,J,hK _ _ ⟨w,.inl ⟨rfl,m⟩⟩⟩⟩);omega
    |some ad=>dsimp only;rw[b4];refine af (ag ?_);refine ag (ag ⟨_,.inl rfl,.here ⟨.refl k,an env s,σ,?_,J,hK _ _ ⟨w,.inl ⟨rfl,m⟩⟩⟩⟩);omega
  . rw [m, B] at A
    have hinv:=A.RF;simp only[Value.slice.injEq,true_and]at hinv;obtain⟨rfl,rfl⟩:=hinv;obtain⟨y,hO,hy⟩:=J.1 b _ I (by simp)
    cases hy with
    | cells cc et _ g1 g2 g3=>
      dsimp only;rw[iG]
      have R:cc.size=cap*g.size:=by rw[g1,aaV,C,E,<-Nat.add_mul];grind
      have hmul:(es.length+xs.length)*g.size<=cc.size:=by rw[R];exact abB _ n
      rw[acB]at hmul;refine af (pK c.toList 0 cc O hO (by grind) (λu hu=>?_) λO' c' b5 b6 b7=>?_)
      . obtain⟨j,hj,rfl⟩:=abm.1 hu
        exact Y j _ (by grind)
      . have c9:xs.length*g.size<=rest.length:=by grind
        refine ag (ag ⟨_,.inl rfl,.here ⟨.refl k,.gn b 0 (es++xs).length cap,σ.set b (.cells (flatten (es++xs)++rest.drop (xs.length*g.size))),?_,?_,hK _ _ ⟨?_,.inr ⟨b,cap,rest.drop (xs.length*g.size),rfl,b3,by grind,λz hz=>?_,by simp[ab.set],?_⟩⟩⟩⟩)
        . rw[show es.length+xs.length=(es++xs).length by simp]
          exact .gn ..
        . rw [b5]
          refine J.set (.cells c' et _ ?_ (λi v a p m=>?_) (λi v p=>?_))
          . rw[b6,g1,flatten_append];grind
          . rw [b7]at p
            simp only[abU,Array.length_toList,D,Nat.add_zero]at p;rw[flatten_append,abT]at m
            by_cases N:i<es.length*g.size
            . grind
            . rw[abe (by omega),C]at m
              by_cases h2:i<es.length*g.size+xs.length*g.size
              . grind
              . rw[aaJ (by omega)]at p
                rw[abe (by omega),List.getElem?_drop]at m
                refine g2 i v a p ?_;rw[abe (by omega),C,<-m]
                congr 1;omega
          grind
        . intro b' y hy
          have:b'≠b:=λq=>by grind
          simp[ab.set,this,w b' y hy]
        . grind
        . rw[List.length_drop,E,aaV,<-Nat.sub_mul];grind
 ·
  rw[aaJ n]
  have a8:¬((es.length+xs.length:Nat):Int)>IntKind.i64.max:=by have:IntKind.i64.max=9223372036854775807:=rfl;omega
  refine af (cV L H λinfo _ _ ca _=>?_)
  rw[aaJ (λq=>a8 q.1)]
  refine af (cV L H λS _ _ a9 _=>?_)
  have T:=nextslicecap_le (Nat.lt_of_not_le n)
  have U:¬(Builtin.nextslicecap (es.length+xs.length) cap*S.bytes>2 ^ 48):=by rw[a9];have N:Builtin.nextslicecap (es.length+xs.length) cap*g.bytes<=(4*(es.length+xs.length)+2000)*1024:=Nat.mul_le_mul T hb;omega
  rw[aaJ U];refine af (s:=choose _) (λt=>?_)
  have F:(Question.appendCap (es.length+xs.length) cap e).forced=false:=rfl;rw[F];simp only[LK,aaH];have b8:∃f,(Question.appendCap (es.length+xs.length) cap e).cut t=f/\es.length+xs.length<=f:=⟨_,rfl,by simp only[Question.cut];omega⟩
  obtain⟨f,al,c6⟩:=b8;rw[al];refine ag ?_;refine af (cV L H λb9 _ _ _ _=>?_)
  refine af (pL ?_);refine af (rU (a:=an env s) (by simp_all) J hs.rd λc D b2 Y=>?_)
  refine af (rU Q J hx λd bm X cb=>?_)
  refine af (cU L H ?_);have bq:=wY (k:=k) hz
  have bw:(Builtin.zeroCells g.zero.cells (f-(es.length+xs.length))).size=(f-(es.length+xs.length))*g.size:=by simp[Builtin.zeroCells,aE]
  have cg:∀(i:Nat) v,(Builtin.zeroCells g.zero.cells (f-(es.length+xs.length)))[i]?=some v->flat v=true:=by
   intro i v p;have hi:=(zA.1 p).1;simp only[Builtin.zeroCells]at p;obtain⟨cm,H⟩:=zA.1 p;simp at H;subst H
   have av:0<g.zero.cells.size:=by grind
   have hm:i % g.zero.cells.size<g.zero.cells.size:=Nat.mod_lt _ av;rw[getElem!_pos g.zero.cells _ hm];exact bq.2.2 (i % g.zero.cells.size) _ (by simp[hm])
  refine af (ju (l:=flatten (es++xs)++List.replicate ((f-(es.length+xs.length))*g.size) .cJ) J ?_ (λi v a p m=>?_) (λi v p=>?_) λr k' O' hn bA ax=>ag (ag ⟨_,.inl rfl,.here ⟨bA,.gn r 0 (es++xs).length f,_,?_,ax,hK _ _ ⟨λb' y hy=>?_,.inr ⟨r,f,List.replicate ((f-(es.length+xs.length))*g.size) .cJ,rfl,?_,by grind,λz hz=>?_,by simp[ab.set],?_⟩⟩⟩⟩))
  . simp only[Array.size_append,D,bm,bw,flatten_append,aaV,C,b1,List.length_replicate]
  . rw [flatten_append,abT]at m
    rw[Array.append_assoc]at p
    by_cases N:i<es.length*g.size
    . rw[abx (by omega)]at m
      grind
    . rw[abe (by omega),C]at m
      rw[abY (by omega),D]at p
      by_cases h2:i-es.length*g.size<xs.length*g.size
      . grind
      . rw[abe (by omega)]at m
        have:=List.mem_of_getElem? m;rw[List.mem_replicate]at this;rw[this.2];exact .cJ _
  . rw[Array.append_assoc]at p
    by_cases N:i<es.length*g.size
    . grind
    . rw[abY (by omega),D]at p
      grind
  . rw[show es.length+xs.length=(es++xs).length by simp];exact .gn ..
  . have N:=w b' y hy
    have:b'≠r:=λq=>by grind
    simp[ab.set,this,N]
  . cases q:σ0 r with
    |none=>rfl
    |some y=>have:=w r y q;grind
  . grind
  . simp
end
def C8(env:Env)(len cap:Nat)(lo hi mx:Option adJ)(l h m:Nat):Prop:=
 (match mx with|none=>m=cap|some o=>(∃kd,an env o=.lit (.int kd (m:Int)))/\m<=cap)/\
 (match hi with|none=>mx=none/\h=len|some o=>(∃kd,an env o=.lit (.int kd (h:Int)))/\h<=m)/\
 (match lo with|none=>l=0|some o=>(∃kd,an env o=.lit (.int kd (l:Int)))/\l<=h)
def C8.le{env len cap lo hi mx l h m}(hb:C8 env len cap lo hi mx l h m)(a:len<=cap):l<=h/\h<=m/\m<=cap:=by
 obtain⟨b,c,d⟩:=hb
 grind
section
variable{P:adI}(L:jo P){k:ar}{O:aj}{Kp:ada}
def qK{K v kd}{z y:Nat}{c}(a:V k v (.lit (.int kd (z:Int))))(b:z<=y)(d:K z k O):dL P (Instr.sliceBound v y c) k O K Kp:=by
 rw[dk a];unfold Instr.sliceBound;refine af (ag ?_);dsimp only;rw[aaK ⟨by omega,by omega⟩];exact ag (by simp_all)
def lN{K env ρ isSlice len cap lo hi mx l h m}(hb:C8 env len cap lo hi mx l h m)
 (e:∀o,(lo=some o\/hi=some o\/mx=some o)->V k (ρ o) (an env o)) (j:K (l,h,m) k O):dL P (Instr.sliceBounds isSlice len cap (lo.map ρ) (hi.map ρ) (mx.map ρ)) k O K Kp:=by
 obtain⟨f,g,i⟩:=hb;unfold Instr.sliceBounds
 have a:∀c,dL P (do
  let l <-match lo.map ρ with
   |some v=>Instr.sliceBound v h c
   |none=>pure 0
  pure (l,h,m):Sem (Nat × Nat × Nat)) k O K Kp:=by
  intro c;cases lo with
  |none=>simp only at i;subst i;exact af (ag (ag j))
  |some o=>obtain⟨⟨kd,b⟩,d⟩:=i;have:=e o (.inl rfl);rw[b]at this;exact af (qK this d (ag j))
 cases mx with
 | none=>
   simp only at f;subst f;refine af (ag ?_);cases hi with
   |none=>obtain⟨_,rfl⟩:=g;exact af (ag (a _))
   |some o=>obtain⟨⟨kd,b⟩,d⟩:=g;have:=e o (.inr (.inl rfl));rw[b]at this;exact af (qK this d (a _))
 | some p=>
   obtain⟨⟨s,q⟩,r⟩:=f;have n:=e p (.inr (.inr rfl));rw[q]at n;refine af (qK n r ?_);cases hi with
   |none=>simp_all
   |some o=>obtain⟨⟨kd,b⟩,d⟩:=g;have:=e o (.inr (.inl rfl));rw[b]at this;exact af (qK this d (a _))
end
def sI{kk}:∀{es}(_:∀e∈es,e.cells.length=kk)  l ,flatten (es.drop l)=(flatten es).drop (l*kk)
 |[],_,l=>by simp[flatten]
 |a::es,h,0=>by simp
 |a::es,h,l+1=>by rw[List.drop_succ_cons,sI (λe b=>h e (by simp[b])) l,flatten_cons,acB,Nat.one_mul,Nat.add_comm,<-List.drop_drop,<-h a (by simp),List.drop_left]
def sJ{kk}:∀{es}(_:∀e∈es,e.cells.length=kk)  l ,flatten (es.take l)=(flatten es).take (l*kk)
 |[],_,l=>by simp[flatten]
 |a::es,h,0=>by simp[flatten]
 | a::es,h,l+1=>by
   have c:=h a (by simp);have d:(l+1)*kk=l*kk+kk:=by grind
   rw[List.take_succ_cons,flatten_cons,sJ (λe b=>h e (by simp[b])) l,flatten_cons,acR,abM (l:=a.cells) (by omega)]
   simp_all
section
variable{P:adI}(L:jo P){o:Oper}{env:Env}{σ:ab}{K:adl}{Kp:adl}
def nF{t x lo hi mx}(a:o.op=.slice t x lo hi mx):x∈o.op.operands/\∀y,(lo=some y\/hi=some y\/mx=some y)->y∈o.op.operands:=by simp_all
def V.K4{k:ar}{b off cap kk N E l h m:Nat}{es sp}(p:k.sh b=some (E,N))(s:off+cap*kk<=N)(g:∀e∈es,e.cells.length=kk)
 (t:∀  j  a,(flatten es)[j]?=some a->∃v,k.cell b (off+j)=some v/\V k v a/\cz.flat v=true) (u:l<=h) (w:h<=m) (x:m<=cap) (q:h<=es.length) (c:sp=.any\/(sp=.exact/\m=h)):
 V k (.slice (if m=l then some ⟨b,off,none⟩else(some (⟨b,off,none⟩:Addr)).map (·.add (l*kk))) (h-l) (m-l)) (.sl kk ((es.drop l).take (h-l)) sp):=by
 have hlen:((es.drop l).take (h-l)).length=h-l:=by simp;omega
 have d:∀e∈(es.drop l).take (h-l),e.cells.length=kk:=λe i=>g e (List.mem_of_mem_drop (acA i))
 by_cases f:m=l
 . rw[aaK f]
   have r:h-l=0:=by omega
   have n:m-l=0:=by omega
   rw[r,n];have:(es.drop l).take 0=[]:=by simp
   rw[this];refine V.ofRow (kk:=kk) (es:=[]) (cap:=0) (by simp) p (by omega) (by simp) (λj a o=>by simp[flatten]at o) (by rcases c with rfl|⟨rfl,_⟩<;>simp[nA.fits])
 . rw[aaJ f,abj,iG]
   conv=>lhs;rw[<-hlen]
   refine V.ofRow (by omega) p ?_ d (λj a o=>?_) ?_
   . have:=abB kk (show l+(m-l)<=cap by omega)
     grind
   . rw[sJ (λe i=>g e (List.mem_of_mem_drop i)),sI g]at o
     grind
   . rcases c with rfl|⟨rfl,rfl⟩
     . trivial
     . show m-l=_;rw[hlen]
def xh{t e:Nat}{x lo hi it g es sp l h}(r:o.op=.slice t x lo hi none)(u:L.tt t=some it)(v:it.kind=.slice e)(w:L.tt e=some g)
 (D:an env x=.sl g.size es sp) (hb:∀cap,es.length<=cap->C8 env es.length cap lo hi none l h cap) (i:h<=es.length) (y:K (.sl g.size ((es.drop l).take (h-l)) .any) σ):aK P o env σ K Kp:=
 aK.val (s:=λc=>Instr.sliceAt t (c x) (lo.map c) (hi.map c) none) (λc=>by simp[execOp,r]) λk O c j z=>by
  obtain⟨F,A⟩:=nF r;have B:=j x F;rw[D]at B;unfold Instr.sliceAt;refine af (aF L u λT _ m=>?_);rw[bP m v];dsimp only;unfold Instr.slice;refine af (aF L u λd _ hd=>?_);rw[bP hd v];rcases B.kY with⟨G,n,rfl,_⟩|⟨b,off,cap,N,E,n,C,H,I,J,M,U⟩
  . rw[n]
    have a:=hb 0 (by simp);have:=a.le (by simp);have p:l=0:=by omega
    have q:h=0:=by omega
    cases G<;>(
     dsimp only;refine af (lN (mx:=none) a (λo f=>j o (A o (by simpa using f))) ?_);dsimp only;refine af (bJ L w (ag (.here ⟨.refl k,_,σ,?_,z,y⟩)));subst p;subst q;simp only[aaO,Nat.sub_zero,List.drop_zero,List.take_nil];exact .slnil _ _ _ (.inl rfl))
  . rw[n]
    dsimp only;have a:=hb cap C;obtain⟨Q,R,S⟩:=a.le C;refine af (lN (mx:=none) a (λo f=>j o (A o (by omega))) ?_);dsimp only;refine af (bJ L w (ag (.here ⟨.refl k,_,σ,?_,z,y⟩)));exact V.K4 H I J M Q R S i (.inl rfl)
def u'{t e:Nat}{x lo hi mx it n es sp l h}(z:o.op=.slice t x lo hi (some mx))(A:L.tt t=some it)(B:it.kind=.slice e)(p:L.tt e=some n)
 (G:an env x=.sl n.size es sp) (hb:∀cap,es.length<=cap->C8 env es.length cap lo hi (some mx) l h h) (q:h<=es.length) (r:∀a,(a=.sl n.size ((es.drop l).take (h-l)) .exact\/(es=[]/\a=.nil))->K a σ):aK P o env σ K Kp:=
 aK.val (s:=λg=>Instr.sliceAt t (g x) (lo.map g) (hi.map g) (some (g mx))) (λg=>by simp[execOp,z]) λk O g m u=>by
  obtain⟨H,v⟩:=nF z;have C:=m x H;rw[G]at C;unfold Instr.sliceAt;refine af (aF L A λU _ w=>?_);rw[bP w B];dsimp only;unfold Instr.slice;refine af (aF L A λd _ hd=>?_);rw[bP hd B];rcases C.kY with⟨D,y,rfl,_⟩|⟨b,off,cap,N,E,y,F,I,J,M,Q,W⟩
  . rw[y]
    have c:=hb 0 (by simp);have:=c.le (by simp);have i:l=0:=by omega
    have j:h=0:=by omega
    cases D with
    | none=>
      dsimp only;refine af (lN (mx:=some mx) c (λo f=>m o (v o f)) ?_);dsimp only;refine af (bJ L p (ag (.here ⟨.refl k,.nil,σ,?_,u,r _ (.inr ⟨rfl,rfl⟩)⟩)));subst i;subst j;simp only[aaO,Nat.sub_zero];exact .lit _
    | some D=>
      dsimp only;refine af (lN (mx:=some mx) c (λo f=>m o (v o f)) ?_);dsimp only;refine af (bJ L p (ag (.here ⟨.refl k,_,σ,?_,u,r _ (.inl rfl)⟩)));subst i;subst j;simp only[aaO,Nat.sub_zero,List.drop_zero,List.take_nil];exact .slnil _ _ _ (.inr ⟨rfl,rfl⟩)
  . rw[y]
    dsimp only;have c:=hb cap F;obtain⟨R,S,T⟩:=c.le F;refine af (lN (mx:=some mx) c (λo f=>m o (v o f)) ?_);dsimp only;refine af (bJ L p (ag (.here ⟨.refl k,_,σ,?_,u,r _ (.inl rfl)⟩)));exact V.K4 I J M Q R S T q (.inr ⟨rfl,rfl⟩)
end
section
variable{P:adI}(L:jo P){o:Oper}{env:Env}{σ:ab}{K:adl}{Kp:adl}
def Bz{op}{t C e:Nat}{x y i kk es sp}(D:o.op=.binOp op t x y C)(F:L.tt t=some i)(G:i.kind=.slice e)(H:an env y=.nil)
 (I:an env x=.sl kk es sp) (j:op=.eql\/op=.neq) (J:es=[]->K (.lit (.bool (op==.eql))) σ) (r:K (.lit (.bool (op==.neq))) σ):aK P o env σ K Kp:=
 aK.val (s:=λg=>do eqGuard op t x y (g x) (g y);binOp op t (g x) (g y)) (λg=>by simp[execOp,D]) λk O g l M=>by
  have A:=l x (by simp_all)
  have B:=l y (by simp_all)
  rw[H]at B;rw[I]at A;have Q:g y=.slice none 0 0:=B.K3
  have m:∃a n c,g x=.slice a n c/\(a.isNone=true->es=[]):=by
   rcases A.kY with⟨W,m,h,_⟩|⟨b,off,cap,N,E,m,_⟩
   . simp_all
   simp_all
  obtain⟨a,n,c,m,X⟩:=m;rw[m,Q];have S:eqGuard op t x y (.slice a n c) (.slice none 0 0)=pure ():=by rcases j with rfl|rfl<;>simp[eqGuard]
  rw[S];refine af (ag ?_)
  have p:∀(R:Bool->ar->aj->Prop) (u:ada),R a.isNone k O->dL P (Op.equal t (.slice a n c) (.slice none 0 0)) k O R u:=λR u T=>by
   show dL P (Op.equalIn (9999+1) t (.slice a n c) (.slice none 0 0)) k O R u;rw[Op.equalIn];refine af (aF L F λd _ hd=>?_)
   rw[bP hd G];cases a<;>exact ag T
  have fin:∀b:Bool,K (.lit (.bool b)) σ->dL P (do pure (.bool b)) k O (λv q w=>mG q w λz U=>k.Le z/\∃a f,V z v a/\Rel z U f/\K a f) (λv q w=>k.Le q/\∃a f,V q v a/\Rel q w f/\Kp a f):=λb hb=>ag (.here ⟨.refl k,_,σ,.lit _,M,hb⟩)
  rcases j with rfl|rfl
  . refine af (s:=Op.equal t (.slice a n c) (.slice none 0 0)) (p _ _ (fin _ ?_))
    cases Y:a.isNone with
    |true=>simp_all
    |false=>exact r
  . refine af (s:=Op.equal t (.slice a n c) (.slice none 0 0)) (p _ _ (fin (!a.isNone) ?_))
    grind
def Iu{i d}(h:dH P i d=true)(a:i.kind=.bool):d=.bool:=by cases d<;>simp_all [dH]
def zZ{op}{t n:Nat}{x y i p q}(r:o.op=.binOp op t x y n)(u:L.tt t=some i)(v:i.kind=.bool)(w:an env x=.lit (.bool p))(z:an env y=.lit (.bool q)){b}(c:(op=.eql/\b=(p==q))\/(op=.neq/\b=!(p==q)))(h:K (.lit (.bool b)) σ):aK P o env σ K Kp:=
 aK.val (s:=λa=>do eqGuard op t x y (a x) (a y);binOp op t (a x) (a y)) (λa=>by simp[execOp,r]) λk O a e j=>by
  have l:=e x (by simp_all)
  have m:=e y (by simp_all)
  rw[w]at l;rw[z]at m;rw[rQ l,rQ m];have A:eqGuard op t x y (.bool p) (.bool q)=pure ():=by rcases c with⟨rfl,_⟩|⟨rfl,_⟩<;>simp[eqGuard]
  rw[A];refine af (ag ?_)
  have f:∀(R:Bool->ar->aj->Prop) (g:ada),R (p==q) k O->dL P (Op.equal t (.bool p) (.bool q)) k O R g:=λR g B=>by
   show dL P (Op.equalIn (9999+1) t (.bool p) (.bool q)) k O R g;rw[Op.equalIn];refine af (aF L u λd _ hd=>?_)
   rw[Iu hd v];exact ag B
  rcases c with⟨rfl,rfl⟩|⟨rfl,rfl⟩
  . exact af (s:=Op.equal t (.bool p) (.bool q)) (f _ _ (ag (.here ⟨.refl k,_,σ,.lit _,j,h⟩)))
  . exact af (s:=Op.equal t (.bool p) (.bool q)) (f _ _ (ag (.here ⟨.refl k,_,σ,.lit _,j,h⟩)))
end
inductive vL{α:Sort _}(a:α):Type
 |mk
def zp{α:Type}(x:Option α)(K:α->Prop)(u:vL K:=.mk):Prop:=∃a,x=some a/\K a
@[simp] theorem Iv{α a}{K:α->Prop}{u}:zp (some a) K u=K a:=by simp[zp]
@[simp] theorem Iw{α K u}:zp (none:Option α) K u=False:=by simp[zp]
@[simp] theorem sK{α β f}{x:Option α}{K:β->Prop}{u}:zp (x.map f) K u=zp x (λa=>K (f a)):=by cases x<;>simp
def va(x:Bool)(A B:Prop)(u:vL A:=.mk)(v:vL B:=.mk):Prop:=(x=true->A)/\(x=false->B)
@[simp] theorem oq{A B u v}:va true A B u v=A:=by simp[va]
@[simp] theorem mJ{A B u v}:va false A B u v=B:=by simp[va]
def Wz(σ:ab)(F:adw)(u:vL F:=.mk):Prop:=∀b,σ b=none->F b
section
variable{P:adI}(L:jo P){o:Oper}{env:Env}{σ:ab}{K:adl}{Kp:adl}
def ua{x}{q t:Nat}{i}(z:o.op=.typeAssert x q t true)(r:L.tt t=some i)(A:i.kind≠.iface)(B:an env x=.lit .nilIface)
 (C:K (.cA [lL i.zero,.lit (.bool false)]) σ):aK P o env σ K Kp:=
 aK.val (s:=λl=>Instr.typeAssert (l x) q t true) (λl=>by simp[execOp,z]) λk O l m D=>by
  have f:=m x (by simp_all);rw[B]at f;generalize l x=v at f;cases f;unfold Instr.typeAssert;refine af (aF L r λdd _ hd=>?_);have E:∀ms,dd≠.interface ms:=λms e=>by subst e;simp[dH]at hd;exact A hd
  have pair:∀{u:Value}{b:Bool}{a:AV},V k u a->V k (.tuple #[u,.bool b]) (.cA [a,.lit (.bool b)]):=λ{u b a} h=>.cA _ _ rfl λj w c f y=>by
   match j with
   |0=>simp_all
   |1=>simp at f y;subst f;subst y;exact .lit _
   |j+2=>simp at f
  have fin:dL P ((do pure (.tuple #[<-zeroValue t,.bool false]):Sem Value)) k O (λv g n=>mG g n λp F=>k.Le p/\∃a d,V p v a/\Rel p F d/\K a d) (λv g n=>k.Le g/\∃a d,V g v a/\Rel g n d/\Kp a d):=af (cU L r (ag (.here ⟨.refl k,_,σ,pair (.lL k _),D,C⟩)))
  simp_all
end
def Pb(a:TI)(len:Nat)(parts:List (Nat × AV)):Bool:=decide (len*a.size<=16777216) && (lL a.zero).cells.all AV.flat && (decide (len*a.size=0)||decide ((lL a.zero).cells.length=a.size)) && (parts.map (·.1)==List.range len) && parts.all λp=>decide (p.2.cells.length=a.size) && p.2.cells.all AV.flat
def vb{size}:∀  parts   l   s ,(parts.map (·.1)=List.range' s parts.length)->(∀p∈parts,p.2.cells.length=size/\p.2.cells.all AV.flat=true)->(s+parts.length)*size=l.length ->
 kS (λj=>some (j*size,size)) l parts=some (l.take (s*size)++flatten (parts.map (·.2)))
 |[],l,s,_,_,c=>by simp[kS,flatten]at c ⊢;simp_all
 | (i,a)::parts,l,s,d,g,c=>by
   simp only[acO,abl,List.range'_succ,List.cons.injEq]at d;obtain⟨rfl,d⟩:=d;obtain⟨h,k⟩:=g (i,a) (by simp);simp only[abl]at c;have e:i*size+size<=l.length:=by grind
   have b:i*size+a.cells.length<=l.length:=by simp_all
   simp only[kS];rw[aaK ⟨h,e,k⟩];rw[vb parts (aM l (i*size) a.cells) (i+1) d (λp f=>g p (by simp[f])) (by rw[m5 b,<-c];grind)];congr 1;rw[acO,flatten_cons,<-List.append_assoc];congr 1;have:(i+1)*size=i*size+a.cells.length:=by grind
   rw[this];unfold aM;rw[abT,acR,acR];have m:(List.take (i*size) l).length=i*size:=by grind
   rw[m,abM (by omega)];congr 1;have n:i*size+a.cells.length-i*size=a.cells.length:=by omega
   grind
section
variable{P:adI}(L:jo P)
def Fq{o env σ K Kp t len e parts it a}(f:o.op=.buildSlice t len parts)(g:L.tt t=some it)(i:it.kind=.slice e)(j:L.tt e=some a)
 (h:Pb a len (parts.toList.map λp=>(p.1,an env p.2))=true) (k:K (.sl a.size (parts.toList.map λp=>an env p.2) .exact) σ):aK P o env σ K Kp:=by
 simp only[Pb,za,abX,aaL,acV,abS,aaG]at h;obtain⟨⟨⟨⟨l,r⟩,m⟩,d⟩,n⟩:=h;have hlen:parts.toList.length=len:=by have:=congrArg List.length d;grind
 have b:∀p∈(parts.toList.map λp=>(p.1,an env p.2)),p.2.cells.length=a.size/\p.2.cells.all AV.flat=true:=λp c=>⟨(n p c).1,by grind⟩
 refine zo L f g i j l (by grind) m (es:=parts.toList.map λp=>an env p.2) ⟨by grind,λx q=>?_⟩ ?_ k
 . obtain⟨p,c,rfl⟩:=aaU.1 q
   exact(b (p.1,an env p.2) (aaU.2 ⟨p,c,rfl⟩)).1
 . rw[vb (size:=a.size) _ _ 0 (by rw[acV,d,abi,hlen,List.range_eq_range']) b (by grind)]
   simp[Function.comp_def]
inductive Out where
 |ok (a:AV) (σ:ab)
 |no
 |iH (p:Prop) (x:Out)
 |new (σ:ab) (c:adF)
 |panic (v:AV) (σ:ab)
def Out.opt(x:ady)(σ:ab):Out:=match x with|some a=>.ok a σ|none=>.no
def rV(x:Out)(K Kp:adl)(u:vL K:=.mk)(v:vL Kp:=.mk):Prop:=
 match x with
 |.ok a σ=>K a σ
 |.no=>False
 |.iH p x=>p/\rV x K Kp u v
 |.new σ c=>Wz σ λb=>K (.ref b 0) (σ.set b (.cells c))
 |.panic v σ=>Kp v σ
section
variable{K Kp:adl}{u:vL K}{v:vL Kp}
@[simp] theorem Wm{a σ}:rV (.ok a σ) K Kp u v=K a σ:=propext abc
@[simp] theorem Wn:rV .no K Kp u v=False:=propext abc
@[simp] theorem nG{p x}:rV (.iH p x) K Kp u v=(p/\rV x K Kp):=propext abc
@[simp] theorem iI{x σ}:rV (.opt x σ) K Kp u v=zp x (λa=>K a σ):=by cases x<;>simp[Out.opt]
end
def Fs(op:BinOp)(kd:IntKind)(a b:Int)(σ:ab):Out:=
 match op,kd with
 |.add,.i64=>.iH (fits (a+b)) (.ok (.lit (.int .i64 (a+b))) σ)
 |.sub,.i64=>.iH (fits (a-b)) (.ok (.lit (.int .i64 (a-b))) σ)
 |.mul,.i64=>.iH (fits (a*b)) (.ok (.lit (.int .i64 (a*b))) σ)
 |.eql,_=>.ok (.lit (.bool (a==b))) σ
 |.neq,_=>.ok (.lit (.bool (a !=b))) σ
 |.lss,_=>.ok (.lit (.bool (decide (a<b)))) σ
 |.leq,_=>.ok (.lit (.bool (decide (a<=b)))) σ
 |.gtr,_=>.ok (.lit (.bool (decide (a>b)))) σ
 |.geq,_=>.ok (.lit (.bool (decide (a>=b)))) σ
 |.shl,_=>.iH (0<=b) (.ok (.lit (.int kd (kd.wrap (a*2 ^ (min b.toNat kd.bits))))) σ)
 |.shr,_=>.iH (0<=b) (.ok (.lit (.int kd (a.fdiv (2 ^ (min b.toNat kd.bits))))) σ)
 |op,kd=>.opt ((pz op kd a b).map .lit) σ
def K5{op kd a b σ K Kp}(h:rV (Fs op kd a b σ) K Kp):rR op kd a b λv=>K (.lit v) σ:=by
 have key:∀x:adn,rV (.opt (x.map .lit) σ) K Kp->∃v,x=some v/\K (.lit v) σ:=λx h=>by rw[iI,sK]at h;exact h
 cases op<;>first|exact key _ h|exact h|(cases kd<;>first|exact h|exact key _ h)
def BA(mu:adB)(o:Oper)(env:Env)(σ:ab):Out:=
 match o.op with
 |.move x=>.ok (an env x) σ
 |.assign x=>.ok (an env x) σ
 | .pick c a b=>match an env c with
   |.lit (.bool x)=>.ok (if x then an env a else an env b) σ
   |_=>.no
 | .alloc t=>match L.tt t with
   |some i=>.iH ((lL i.zero).cells.all AV.flat=true) (.new σ (lL i.zero).cells)
   |none=>.no
 |.box _ x=>.iH ((an env x).cells.all AV.flat=true) (if(match o.dst with|some d=>mu.contains d|none=>false)=true then .new σ (an env x).cells else .ok (.cp (an env x) 0) σ)
 | .load t p=>match L.tt t with
   |some i=>.opt (rk i σ (an env p)) σ
   |none=>.no
 | .store t p x=>match L.tt t with
   |some i=>(match rP i σ (an env p) (an env x)with|some n=>.ok (.lit undef) n|none=>.no)
   |none=>.no
 | .fieldAddr s x j=>match L.tt s with
   | some ⟨.struct,_,_,_,jS⟩=>(match jS[j]? with
     |some f=>.iH (f.2.1≠0) (.opt (su (an env x) f.1) σ)
     |none=>.no)
   |_=>.no
 | .field s x j=>match L.tt s,an env x with
   | some ⟨.struct,_,_,_,jS⟩,.agg l=>(match jS[j]? with
     |some f=>(match L.tt f.2.2 with|some q=>.opt (cR l f.1 q.size q.agg) σ|none=>.no)
     |none=>.no)
   |_,_=>.no
 | .indexAddr t x m=>match L.tt t with
   | some ⟨.slice e,_,_,_,_⟩=>(match L.tt e,an env x,an env m with
     |some g,.sl u es _,.lit (.int _ z)=>.iH (u=g.size/\0<=z) (.opt ((es[z.toNat]?).map λa=>.cp a 0) σ)
     |some g,.gn b off len _,.lit (.int _ z)=>.iH (0<=z/\z<len) (.ok (.ref b (off+z.toNat*g.size)) σ)
     |_,_,_=>.no)
   | some ⟨.array k e,_,_,_,_⟩=>(match L.tt e,an env m with
     |some g,.lit (.int _ z)=>.iH (0<=z/\z<k) (.opt (su (an env x) (z.toNat*g.size)) σ)
     |_,_=>.no)
   |_=>.no
 | .index t x m=>match L.tt t with
   | some ⟨.array k e,_,_,_,_⟩=>(match L.tt e,an env x,an env m with
     |some g,.agg l,.lit (.int _ z)=>.iH (0<=z/\z<k) (.opt (cR l (z.toNat*g.size) g.size g.agg) σ)
     |_,_,_=>.no)
   |_=>.no
 | .binOp op t x y _=>match an env x,an env y with
   | .lit (.bool a),.lit (.bool b)=>(match L.tt t with
     | some ⟨.bool,_,_,_,_⟩=>(match op with
       |.eql=>.ok (.lit (.bool (a==b))) σ
       |.neq=>.ok (.lit (.bool (!(a==b)))) σ
       |_=>.no)
     |_=>.no)
   |.lit (.int kd a),.lit (.int h b)=>.iH (kd=h\/op=.shl\/op=.shr) (if(match o.dst with|some d=>mu.contains d|none=>false)=true then .opt ((pz op kd a b).map .lit) σ else Fs op kd a b σ)
   |_,_=>.no
 | .unOp .not _ x=>match an env x with
   |.lit (.bool b)=>.ok (.lit (.bool !b)) σ
   |_=>.no
 | .convert _ t x=>match L.tt t,an env x with
   |some ⟨.int kd,_,_,_,_⟩,.lit (.int _ a)=>.ok (.lit (.int kd (kd.wrap a))) σ
   |_,_=>.no
 | .makeInterface t x=>match L.tt t with
   |some i=>.iH (i.kind≠.iface) (.ok (.mr t (an env x)) σ)
   |none=>.no
 |.makeFunc f fs cs=>.ok (.fn f (fs.toList.map (an env)) (cs.toList.map (an env))) σ
 | .extract x j=>match an env x with
   |.cA l=>.opt (l[j]?) σ
   |_=>.no
 | .typeAssert x _ t true=>match L.tt t,an env x with
   |some i,.mr d y=>.iH (i.kind≠.iface) (.ok (if d=t then .cA [y,.lit (.bool true)]else .cA [lL i.zero,.lit (.bool false)]) σ)
   |some i,.lit .nilIface=>.iH (i.kind≠.iface) (.ok (.cA [lL i.zero,.lit (.bool false)]) σ)
   |_,_=>.no
 |.nilCheck x=>match an env x with|.cp v off=>.ok (.cp v off) σ|.ref b off=>.ok (.ref b off) σ|.kp b l hole off=>.ok (.kp b l hole off) σ|.fn (.func f) l r=>.ok (.fn (.func f) l r) σ|_=>.no
 | .panic x=>match an env x with
   |.mr t y=>.panic (.mr t y) σ
   |_=>.no
 | .build t parts=>match L.tt t with
   |some i=>.iH (i.kind=.struct/\(lL i.zero).cells.all AV.flat=true) (.opt ((kS (λj=>(i.jS[j]?).map λx=>(x.1,x.2.1)) (lL i.zero).cells (parts.toList.map λp=>(p.1,an env p.2))).map .agg) σ)
   |none=>.no
 | .buildSlice t len parts=>match L.tt t with
   | some ⟨.slice e,_,_,_,_⟩=>(match L.tt e with
     |some g=>.iH (Pb g len (parts.toList.map λp=>(p.1,an env p.2))=true) (.ok (.sl g.size (parts.toList.map λp=>an env p.2) .exact) σ)
     |none=>.no)
   |_=>.no
 | .call c=>match c.callee,c.args.toList with
   | .builtin .len,[x]=>(match an env x with
     |.sl _ es _=>.ok (.lit (.int .i64 es.length)) σ
     |.lit (.slice none 0 0)=>.ok (.lit (.int .i64 0)) σ
     |.gn _ _ len _=>.ok (.lit (.int .i64 len)) σ
     |_=>.no)
   | .builtin .min,[x,y]=>(match an env x,an env y with
     |.lit (.int kd a),.lit (.int h b)=>.iH (kd=h) (.ok (.lit (.int kd (if b<a then b else a))) σ)
     |_,_=>.no)
   | .builtin .max,[x,y]=>(match an env x,an env y with
     |.lit (.int kd a),.lit (.int h b)=>.iH (kd=h) (.ok (.lit (.int kd (if b>a then b else a))) σ)
     |_,_=>.no)
   |_,_=>.no
 |_=>.no
def pP(o:Oper):Bool:=
 match o.op with
 |.buildSlice t _ _=>match L.tt t with|some ⟨.slice _,_,_,_,_⟩=>true|_=>false
 |.binOp _ t _ _ _=>match L.tt t with|some ⟨.int _,_,_,_,_⟩=>true|some ⟨.bool,_,_,_,_⟩=>true|_=>false
 |_=>sD L o
def xi{mu o env σ K Kp}(A:pP L o=true)(h:rV (BA L mu o env σ) K Kp):aK P o env σ K Kp:=by
 unfold BA at h;unfold pP sD at A;split at h
 . next x g=>exact vV (.inl g) h
 . next x g=>exact vV (.inr g) h
 . next c a b g=>
   split at h
   . next x m=>exact Hf g m h
   . exact h.elim
 . next t g=>
   split at h
   . next i w=>exact CV L g w h.1 h.2
   . exact h.elim
 . next t x g=>
   obtain⟨B,C⟩:=h;generalize (match o.dst with|some d=>mu.contains d|none=>false)=q at C;cases q
   . exact KU g B C
   . exact wT g B C
 . next t p g=>
   split at h
   . next i w=>rw[iI]at h;obtain⟨a,B,C⟩:=h;exact Bq L g w B C
   . exact h.elim
 . next t p x g=>
   split at h
   . next i w=>
     split at h
     . next Z B=>exact CU L g w B h
     . exact h.elim
   . exact h.elim
 . next s x j g=>
   split at h
   . next I J M jS w=>
     split at h
     . next f U=>rw[nG,iI]at h;obtain⟨B,a,C,S⟩:=h;exact sx L g w rfl U B C S
     . exact h.elim
   . exact h.elim
 . next s x j g=>
   split at h
   . next I J M jS l w m=>
     split at h
     . next f U=>
       split at h
       . next fi V=>rw[iI]at h;obtain⟨a,B,C⟩:=h;exact CX L g w rfl U V m B C
       . exact h.elim
     . exact h.elim
   . exact h.elim
 . next t x ix g=>
   split at h
   . next e I J M N w=>
     split at h
     . next T kk es sp kd z F m D=>rw[nG,iI,sK]at h;obtain⟨⟨rfl,G⟩,a,B,C⟩:=h;exact wU L g w rfl F m D G B C
     . next T b off len cap kd z F m D=>exact uY L g w rfl F m D h.1 h.2
     . exact h.elim
   . next k e I J M N w=>
     split at h
     . next T kd z F D=>rw[nG,iI]at h;obtain⟨G,a,B,C⟩:=h;exact uX L g w rfl F D G B C
     . exact h.elim
   . exact h.elim
 . next t x ix g=>
   split at h
   . next k e I J M N w=>
     split at h
     . next T l kd z F m D=>rw[nG,iI]at h;obtain⟨G,a,B,C⟩:=h;exact CY L g w rfl F m D G B C
     . exact h.elim
   . exact h.elim
 . next op t x y t2 g=>
   split at h
   . next a b m u=>
     split at h
     . next I J M N E=>
       split at h
       . exact zZ L g E rfl m u (.inl ⟨rfl,rfl⟩) h
       . exact zZ L g E rfl m u (.inr ⟨rfl,rfl⟩) h
       . exact h.elim
     . exact h.elim
   . next kd a H b m u=>
     obtain⟨a7,h⟩:=h;have n:(op≠.shl/\op≠.shr)->H=kd:=λhh=>by simp_all
     generalize (match o.dst with|some d=>mu.contains d|none=>false)=q at h;cases q with
     | true=>
       simp only[aaO,iI,sK]at h;obtain⟨v,R,W⟩:=h;rw[n ⟨(λe=>by subst e;cases R),(λe=>by subst e;cases R)⟩]at u;exact c8 g m u R W
     |false=>
     simp only[LK,aaH]at h;have h:=K5 h;unfold rR at h;split at h
     . rw[n (by simp)]at u;exact nC g m u (.inl ⟨rfl,rfl⟩) h.1 h.2
     . rw[n (by simp)]at u;exact nC g m u (.inr (.inl ⟨rfl,rfl⟩)) h.1 h.2
     . rw[n (by simp)]at u;exact nC g m u (.inr (.inr ⟨rfl,rfl⟩)) h.1 h.2
     . rw[n (by simp)]at u;exact c8 g m u rfl h
     . rw[n (by simp)]at u;exact c8 g m u rfl h
     . rw[n (by simp)]at u;exact c8 g m u rfl h
     . rw[n (by simp)]at u;exact c8 g m u rfl h
     . rw[n (by simp)]at u;exact c8 g m u rfl h
     . rw[n (by simp)]at u;exact c8 g m u rfl h
     . exact sz g m u h.1 (.inl ⟨rfl,rfl⟩) h.2
     . exact sz g m u h.1 (.inr ⟨rfl,rfl⟩) h.2
     . next B C S Y h5 h6 h7 h8 h9 a8 a9=>
       obtain⟨v,R,W⟩:=h;rw[n ⟨λe=>by simp_all,λe=>by simp_all⟩]at u;exact c8 g m u R W
   . exact h.elim
 . next t x g=>
   split at h
   . next b m=>exact KX g m h
   . exact h.elim
 . next s t x g=>
   simp only[g]at A;split at h
   . next kd I J M N H a E m=>
     split at A
     . next ks b1 b2 b3 b4 kt c1 c2 c3 c4 hs X=>rw[E]at X;exact wV L g hs E rfl rfl m h
     . cases A
   . exact h.elim
 . next t x g=>
   split at h
   . next i w=>exact nD L g w h.1 h.2
   . exact h.elim
 . next f fs cs g=>exact uZ g h
 . next x j g=>
   split at h
   . next l m=>rw[iI]at h;obtain⟨a,B,C⟩:=h;exact wW g m B C
   . exact h.elim
 . next x xt t g=>
   split at h
   . next i d y w m=>exact rl L g w h.1 m h.2
   . next i w m=>exact ua L g w h.1 m h.2
   . exact h.elim
 . next x g=>
   split at h
   . next v off m=>exact fM g (.inl ⟨_,_,m⟩) (by simp_all)
   . next b off m=>exact fM g (.inr (.inl ⟨_,_,m⟩)) (by simp_all)
   . next b l hole off m=>exact fM g (.inr (.inr (.inr ⟨_,_,_,_,m⟩))) (by simp_all)
   . next f l r m=>exact fM g (.inr (.inr (.inl ⟨_,_,_,m⟩))) (by simp_all)
   . exact h.elim
 . next x g=>
   split at h
   . next t y m=>exact CZ g m h
   . exact h.elim
 . next t parts g=>
   split at h
   . next i w=>rw[nG,iI,sK]at h;obtain⟨⟨B,C⟩,l,S,Y⟩:=h;exact C1 L g w B C S Y
   . exact h.elim
 . next t len parts g=>
   split at h
   . next e I J M N E=>
     split at h
     . next T F=>exact Fq L g E rfl F h.1 h.2
     . exact h.elim
   . exact h.elim
 . next c g=>
   simp only[g]at A;split at h
   . next x O Q=>
     simp only[O,Q]at A;have e:=lx O Q;split at A
     . next t G=>
       split at A
       . next e' I J M N E=>
         rw[e]at g;split at h
         . next kk es sp m=>exact Br L g G E rfl (.inl m) h
         . next m=>exact Br L (kk:=0) (sp:=.any) (es:=[]) g G E rfl (.inr ⟨m,rfl⟩) h
         . next b off len cap m=>exact zW L g G E rfl m h
         . exact h.elim
       . cases A
     . cases A
   . next x y O Q=>
     rw[lx O Q]at g;split at h
     . next kd a H b m u=>obtain⟨rfl,h⟩:=h;exact qH g m u (.inl ⟨rfl,rfl⟩) h
     . exact h.elim
   . next x y O Q=>
     rw[lx O Q]at g;split at h
     . next kd a H b m u=>obtain⟨rfl,h⟩:=h;exact qH g m u (.inr ⟨rfl,rfl⟩) h
     . exact h.elim
   . exact h.elim
 . exact h.elim
end
def kZ(pl:List Entry):Code->Bool
 |.seq a b=>kZ pl a && kZ pl b
 |.block _ c=>kZ pl c
 |.scope c=>kZ pl c
 |.cond _ a b=>kZ pl a && kZ pl b
 |.loop c=>kZ pl c
 |.rangeFunc _ _ a c=>kZ pl a && kZ pl c
 |.region id ops true=>match pl.find? λe=>e.id==id with|some e=>sH ops e|none=>true
 |_=>true
def jO(pl:List Entry)(todo:adx):Bool:=todo.all fun|.code c=>kZ pl c|_=>true
def K6{pl id k k'}(h:exitTo id k=some k')(a:jO pl k=true):jO pl k'=true:=by unfold jO at a ⊢;rw[aaL]at a ⊢;exact λx b=>a x (rq h x b)
def aa(P:adI)(m:Mo)(fid n:Nat)(ro:adt)(hold:List Entry)(todo:adx)(s:St)(K:adj):Prop:=jO hold todo=true->Go P m fid n ro todo s K
def xj(ops:ads)(n:Nat)(env:Env)(o:Oper):Option Bool:=
 match o.guard with
 |none=>some true
 | some (j,b)=>match (ops[j]?).bind (·.dst)with
   | some d=>if d<n then(match env d with
     |.lit (.bool x)=>some (if b then x else !x)
     |.lit (.tuple _)=>some false
     |_=>none)else none
   |none=>none
def Ix(x:Option Bool)(A B:Prop)(u:vL A:=.mk)(v:vL B:=.mk):Prop:=match x with|some b=>va b A B u v|none=>False
@[simp] theorem nH{b A B u v}:Ix (some b) A B u v=va b A B:=propext abc
@[simp] theorem T7{A B u v}:Ix none A B u v=False:=propext abc
def xk{ops n env o go no go' a u v}(f:go->go')(g:no->a)(h:Ix (xj ops n env o) go no u v):rS ops n env o go' a:=by
 unfold xj at h;unfold rS;cases i:o.guard with
 |none=>simp_all
 | some p=>
   obtain⟨j,b⟩:=p;rw[i]at h;simp only at h ⊢;cases hd:(ops[j]?).bind (·.dst)with
   |none=>simp_all
   | some d=>
     rw[hd]at h;simp only at h ⊢;by_cases c:d<n
     . rw [aaK c]at h
       refine⟨c,?_⟩;split at h
       . next x k=>
         simp only[k];refine⟨λe=>?_,λe=>?_⟩
         . simp_all
         . cases x<;>cases b<;>simp at e
           . simp_all
           simp_all
       . simp_all
       simp_all
     simp_all
def z5{ops n env o go no u v}(h:Ix (xj ops n env o) go no u v):
 (bZ ops n env o/\go)\/∃j b x d a,o.guard=some (j,b)/\ops[j]?=some a/\a.dst=some d/\d<n/\env d=.lit x/\TU x b/\no:=
 sE (xk id id h)
section
variable{P:adI}{m:Mo}{fid n:Nat}{ro:adt}{D:List zk}{rc:Rec}{K:adj}{k:adx}{ops:ads}
def Go.T8{Kp i is env σ}(A:∀v env σ,Kp v σ->K (.panic v) ⟨env,σ,D,rc⟩)
 (h:cW P m ops n Kp [i] env σ (λenv σ=>Go P m fid n ro (.inRegion ops is::k) ⟨env,σ,D,rc⟩ K)):Go P m fid n ro (.inRegion ops (i::is)::k) ⟨env,σ,D,rc⟩ K:=by
 obtain⟨o,l,f,h⟩:=h;rcases h with⟨w,h⟩|⟨⟨j,b,x,d,Q,B,C,hd,p,E,q⟩,h⟩
 . rcases h with⟨fo,args,F,s,t⟩|⟨s,t⟩
   . refine .call l s w f (t.mono λr c G=>?_)
     cases r with
     |val a=>exact G
     |panic v=>simp_all
   . refine .op l w f s ?_
     intro H O I u J;refine jr _ (t H O I u J) (λ_ _ _ ⟨v,L,M,N,g,e,a,c,x,y,z⟩=>⟨v,L,M,N,g,e,a,c,x,y,z⟩) (λ_ _ _ ⟨e,a,c,x,y,z⟩=>⟨e,a,c,x,y,A _ _ _ z⟩)
 . exact .unwanted l B C hd p E q h
end
section
variable{P:adI}(L:jo P)
def Ft(mu:adB)(lt:Bool)(o:Oper)(env:Env)(σ:ab):ady:=
 match o.op with
 |.load t p=>if lt then(match L.tt t with|some i=>rk i σ (an env p)|none=>none)else vK L mu o env
 |_=>vK L mu o env
def BB(mu:adB)(ops:ads)(n:Nat)(lt:Bool)(σ:ab)(K:Env->Prop)(u:vL K:=.mk):adB->Env->Prop
 |[],env=>K env
 | i::S,env=>match ops[i]? with
   |some o=>(Oper.ok n o && o.dst.isSome)=true/\Ix (xj ops n env o) (zp (Ft L mu lt o env σ) λa=>BB mu ops n lt σ K u S (bg env o.dst a)) (BB mu ops n lt σ K u S (bg env o.dst (.lit (.tuple #[]))))
   |none=>False
def Fu{mu lt o env σ a}(h:Ft L mu lt o env σ=some a):vK L mu o env=some a\/(vK L mu o env=none/\lt=true/\xf L o env σ=some a):=by
 unfold Ft at h;split at h
 . next t p d=>
   cases lt
   . grind
   . simp only[aaO]at h
     split at h
     . next i e=>
       have f:xf L o env σ=some a:=by simp_all
       cases b:vK L mu o env with
       |none=>grind
       | some g=>
         left;unfold vK at b;simp only[d,e]at b;split at b
         . next j v off c k=>
           cases c
           simp_all
         . simp_all
         . cases b
     . cases h
 grind
def nI{mu ops n lt σ K u}:∀{S env},BB L mu ops n lt σ K u S env->jK L mu ops n lt σ S env K
 |[],env,h=>h
 | i :: S,env,h=>by
   unfold BB at h;unfold jK;split at h
   . next o e=>
     try simp only[e]
     obtain⟨b,f⟩:=h;rw[za]at b;refine⟨b.1,b.2,?_⟩
     have main:(zp (Ft L mu lt o env σ) λa=>BB L mu ops n lt σ K u S (bg env o.dst a))->(match vK L mu o env with
      |some a=>jK L mu ops n lt σ S (bg env o.dst a) K
      | none=>lt=true/\(match xf L o env σ with
        |some a=>jK L mu ops n lt σ S (bg env o.dst a) K
        |none=>False)):=by
      rintro⟨a,g,d⟩;rcases Fu L g with h|⟨h,j,c⟩
      . simp only[h];exact nI d
      . simp only[h,c];exact⟨j,nI d⟩
     exact xk main nI f
   simp_all
def vd:Op->Bool
 |.defer _|.go _|.send _ _|.recv _ _ _|.select _ _=>false
 |.call c=>match c.callee with|.builtin .recover=>false|.builtin .close=>false|.invoke _ _=>false|_=>true
 |_=>true
def Pd(m:Mo)(o:Oper)(env:Env)(σ:ab)(R:adl)(Kp:adl):Prop:=
 match o.op with
 |.call ⟨.value fo,args,_⟩=>cr P m (an env fo) (args.toList.map (an env)) σ λr b=>match r with|.val a=>R a b|.panic v=>Kp v b
 |_=>aK P o env σ R Kp
def Hg{m o env σ R Kp}(b:vd o.op=true)(h:Pd (P:=P) m o env σ R Kp):Pa P m o env σ R Kp:=by
 unfold Pd at h;split at h
 . next fo args a d=>exact .inl ⟨fo,args,a,d,h⟩
 . exact .inr ⟨(λc e=>by rw[e]at b;cases b),h⟩
def aN(P:adI)(m:Mo)(ops:ads)(n:Nat)(Kp:adl)(p:oh)(env:Env)(σ:ab)(R:adk):Prop:=iW P m ops n Kp p env σ R
def Pe(m:Mo)(mu:adB)(ops:ads)(n:Nat)(Kp:adl)(i:Nat)(p:oh)(env:Env)(σ:ab)(go:adk)(R:adk)(u:vL go:=.mk):Prop:=
 match ops[i]? with
 | some o=>Oper.ok n o=true/\Ix (xj ops n env o) (if pP L o=true then rV (BA L mu o env σ) (λa b=>go (bg env o.dst a) b) Kp else
    if vd o.op=true then Pd (P:=P) m o env σ (λa b=>aN P m ops n Kp p (bg env o.dst a) b R) Kp else jx P m ops n Kp i env σ (λenv σ=>aN P m ops n Kp p env σ R)) (go (bg env o.dst (.lit (.tuple #[]))) σ)
 |none=>False
def iz(m:Mo)(mu:adB)(ops:ads)(n:Nat)(Kp:adl):oh->Env->ab->adk->Prop
 |.done,env,σ,R=>R env σ
 |.take S lt p,env,σ,R=>BB L mu ops n lt σ (λa=>iz m mu ops n Kp p a σ R) .mk S env
 |.one i p,env,σ,R=>Pe L m mu ops n Kp i p env σ (λenv σ=>iz m mu ops n Kp p env σ R) R
 |.both i p q,env,σ,R=>Pe L m mu ops n Kp i p env σ (λenv σ=>iz m mu ops n Kp p env σ R) R/\iz m mu ops n Kp q env σ R
def ub{m mu ops n Kp p R}(r:∀{env σ},iz L m mu ops n Kp p env σ R->iW P m ops n Kp p env σ R){i env σ}
 (h:Pe L m mu ops n Kp i p env σ (λenv σ=>iz L m mu ops n Kp p env σ R) R):jx P m ops n Kp i env σ (λenv σ=>iW P m ops n Kp p env σ R):=by
 unfold Pe at h;split at h
 . next o g=>
   obtain⟨d,h⟩:=h;rcases z5 h with⟨s,h⟩|⟨j,b,x,t,u,v,w,k,l,y,q,h⟩
   . split at h
     . next f=>
       refine⟨o,g,d,.inl ⟨s,.inr ⟨λc e=>?_,(xi L f h).mono λa z=>r⟩⟩⟩;unfold pP sD at f;simp_all
     . split at h
       . next A=>exact⟨o,g,d,.inl ⟨s,Hg A h⟩⟩
       . exact h
   . exact⟨o,g,d,.inr ⟨⟨j,b,x,t,u,v,w,k,l,y,q⟩,r h⟩⟩
 . exact h.elim
def iW.iz{m:Mo}(mu:adB){ops:ads}{n:Nat}{Kp:adl}{R:adk}:∀{p:oh}{env:Env}{σ:ab},iz L m mu ops n Kp p env σ R->iW P m ops n Kp p env σ R
 |.done,_,_,h=>.done h
 |.take S lt p,_,_,h=>iW.take L mu (jK.mono L (λa h=>iW.iz mu h) (nI L h))
 |.one i p,_,_,h=>iW.one (ub L (iW.iz mu) h)
 |.both i p q,_,_,h=>iW.both (ub L (iW.iz mu) h.1) (iW.iz mu h.2)
def aN.go{m}  mu  {ops n Kp R p env σ}(h:iz L m mu ops n Kp p env σ R):aN P m ops n Kp p env σ R:=iW.iz L mu h
def bz(m:Mo)(fid n:Nat)(ro:adt)(mu:adB)(hold:List Entry):Nat->adx->St->adj->Prop
 |0,todo,s,K=>aa P m fid n ro hold todo s K
 | f + 1,todo,s,K=>match todo with
   |[]=>K (.leave none) s
   |.code .ret::_=>K (.leave (some .ret)) s
   |.code .skip::k=>bz m fid n ro mu hold f k s K
   |.code (.label _)::k=>bz m fid n ro mu hold f k s K
   |.inBlock _::k=>bz m fid n ro mu hold f k s K
   |.inScope _::k=>bz m fid n ro mu hold f k s K
   |.code (.seq a b)::k=>bz m fid n ro mu hold f (.code a::.code b::k) s K
   |.code (.block id c)::k=>bz m fid n ro mu hold f (.code c::.inBlock id::k) s K
   |.code (.scope c)::k=>bz m fid n ro mu hold f (.code c::.inScope c::k) s K
   | .code (.exit id)::k=>match exitTo id k with
     |some g=>bz m fid n ro mu hold f g s K
     |none=>K (.leave (some (.exit id))) s
   | .code (.cond c a b)::k=>Operand.ok n c=true/\(match an s.env c with
     |.lit (.bool x)=>va x (bz m fid n ro mu hold f (.code a::k) s K) (bz m fid n ro mu hold f (.code b::k) s K)
     |_=>False)
   |.code (.region _ ops false)::k=>bz m fid n ro mu hold f (.inRegion ops (List.range ops.size)::k) s K
   | .code (.region id ops true)::k=>match hold.find? λe=>e.id==id with
     |some ⟨_,p⟩=>iz L m mu ops n (λv σ=>∀env,K (.panic v) {s with env,σ}) p s.env s.σ (λenv σ=>aa P m fid n ro hold k {s with env,σ} K)
     |none=>aa P m fid n ro hold (.code (.region id ops true)::k) s K
   |.inRegion _ []::k=>bz m fid n ro mu hold f k s K
   | .inRegion ops (i::is)::k=>match ops[i]? with
     | some o=>Oper.ok n o=true/\
       Ix (xj ops n s.env o) (if pP L o=true then rV (BA L mu o s.env s.σ) (λa d=>bz m fid n ro mu hold f (.inRegion ops is::k) {s with env:=bg s.env o.dst a,σ:=d} K) (λa d=>K (.panic a) {s with σ:=d})
        else if vd o.op=true then Pd (P:=P) m o s.env s.σ (λa d=>aa P m fid n ro hold (.inRegion ops is::k) {s with env:=bg s.env o.dst a,σ:=d} K) (λa d=>∀env,K (.panic a) {s with env,σ:=d})
        else aa P m fid n ro hold (.inRegion ops (i::is)::k) s K) (bz m fid n ro mu hold f (.inRegion ops is::k) {s with env:=bg s.env o.dst (.lit (.tuple #[]))} K)
     |none=>aa P m fid n ro hold (.inRegion ops (i::is)::k) s K
   |todo=>aa P m fid n ro hold todo s K
def Go.bz{m:Mo}{fid n:Nat}{ro:adt}(mu:adB)(hold:List Entry):∀(f:Nat){todo:adx}{s:St}{K:adj},jO hold todo=true->bz L m fid n ro mu hold f todo s K->Go P m fid n ro todo s K
 |0,_,_,_,g,h=>h g
 | f + 1,todo,s,K,g,h=>by
   unfold cz.bz at h;split at h
   . exact .leave (.inl ⟨rfl,rfl⟩) h
   . exact .leave (.inr (.inl ⟨_,rfl,rfl⟩)) h
   . exact .skip (Go.bz mu hold f (by simpa[jO,kZ]using g) h)
   . exact .label (Go.bz mu hold f (by simpa[jO,kZ]using g) h)
   . exact .inBlock (Go.bz mu hold f (by simpa[jO,kZ]using g) h)
   . exact .inScope (Go.bz mu hold f (by simpa[jO,kZ]using g) h)
   . exact .seq (Go.bz mu hold f (by simpa[jO,kZ,and_assoc]using g) h)
   . exact .block (Go.bz mu hold f (by simpa[jO,kZ]using g) h)
   . exact .scope (Go.bz mu hold f (by simpa[jO,kZ]using g) h)
   . split at h
     . next S A=>exact .exit A (Go.bz mu hold f (K6 A (by simp only[jO,abr,za]at g ⊢;exact g.2)) h)
     . next A=>exact .leave (.inr (.inr ⟨_,_,rfl,A,rfl⟩)) h
   . next c a b k=>
     obtain⟨B,u⟩:=h;split at u
     . next x C=>
       refine .cond C B ?_;cases x
       . exact Go.bz mu hold f (by simp only[jO,abr,za,kZ]at g ⊢;simp_all) (u.2 rfl)
       . exact Go.bz mu hold f (by simp only[jO,abr,za,kZ]at g ⊢;simp_all) (u.1 rfl)
     simp_all
   . exact .region (Go.bz mu hold f (by simpa[jO,kZ]using g) h)
   . next id ops k=>
     split at h
     . next E p N=>
       have F:sH ops ⟨E,p⟩=true:=by simp only[jO,abr,kZ,N,za]at g;exact g.1
       simp only[sH,za]at F;obtain⟨env,σ,D,rc⟩:=s;refine Go.draw L.mixed F.1 λl B u O=>?_
       exact cW.mono (λenv σ h=>h (by simp only[jO,abr,za]at g ⊢;exact g.2)) _ _ _ (iW.iz L mu h _ _ _ F.2 l B u O (λ_ _ _ h=>by cases h))
     . exact h g
   . exact .zT (Go.bz mu hold f (by simpa[jO,kZ]using g) h)
   . next ops i is k=>
     split at h
     . next o G=>
       obtain⟨w,h⟩:=h;have q:jO hold (.inRegion ops is::k)=true:=by simpa[jO,kZ]using g
       rcases z5 h with⟨M,t⟩|⟨j,b,x,d,T,t,Q,hd,H,C,I,h⟩
       . split at t
         . next y=>
           refine .op G M w (λc e=>?_) ?_
           . unfold pP sD at y;simp_all
           . exact(xi L y t).mono λa r J=>Go.bz mu hold f q J
         . split at t
           . next R=>
             have z:cW P m ops n (λa r=>∀env,K (.panic a) {s with env,σ:=r}) [i] s.env s.σ (λenv r=>Go P m fid n ro (.inRegion ops is::k) {s with env,σ:=r} K):=⟨o,G,w,.inl ⟨M,(Hg R t).mono λa r J=>J q⟩⟩
             exact Go.T8 (λv env σ h=>h env) z
           . exact t g
       . exact .unwanted G t Q hd H C I (Go.bz mu hold f q h)
     . exact h g
   . exact h g
end

import Derived.Orders
import Derived.Test.YtebcbkhnlnkolaaGreatDoorC3
set_option linter.all false
namespace Go.cE
open Go.Conc
def aJ.congr{P o env a σ K Kp}(h:aJ P o env σ K Kp)(d:∀x∈o.op.operands,an a x=an env x):aJ P o a σ K Kp:=λk O b e c=>h k O b (λx f=>by grind) c
def OW(P:adh)(m:Mo)(o:Oper)(env:Env)(σ:af)(R:acI)(Kp:acI):Prop:=
 (∃fo args d,o.op=.call ⟨.value fo,args,d⟩/\bK P m (an env fo) (args.toList.map (an env)) σ (λr b=>match r with|.val a=>R a b|.panic v=>Kp v b))\/
 ((∀c,o.op≠.defer c)/\aJ P o env σ R Kp)
def OW.mono{P m o env σ R e Kp}(h:OW P m o env σ R Kp)(f:∀a σ,R a σ->e a σ):OW P m o env σ e Kp:=by
 rcases h with⟨fo,args,b,c,d⟩|⟨c,d⟩
 . refine .inl ⟨fo,args,b,c,d.mono λr g i=>?_⟩
   grind
 . exact .inr ⟨c,d.mono f⟩
def OW.congr{P m o env a σ R Kp}(h:OW P m o env σ R Kp)(b:∀x∈o.op.operands,an a x=an env x):OW P m o a σ R Kp:=by
 rcases h with⟨fo,args,c,d,e⟩|⟨d,e⟩
 . refine .inl ⟨fo,args,c,d,?_⟩
   have f:an a fo=an env fo:=b fo (by simp_all);have g:args.toList.map (an a)=args.toList.map (an env):=acb λx i=>b x (by simp_all)
   grind
 . exact .inr ⟨d,e.congr b⟩
def lH(ops:acP)(n:Nat)(env:Env)(o:Oper):Prop:=∃j b x d a,o.guard=some (j,b)/\ops[j]?=some a/\a.dst=some d/\d<n/\env d=.lit x/\TD x b
def cT(P:adh)(m:Mo)(ops:acP)(n:Nat)(Kp:acI):acY->Env->af->acH->Prop
 |[],env,σ,R=>R env σ
 | i::l,env,σ,R=>∃o,ops[i]?=some o/\Oper.ok n o=true/\
   ((bY ops n env o/\OW P m o env σ (λa b=>cT P m ops n Kp l (bg env o.dst a) b R) Kp)\/(lH ops n env o/\cT P m ops n Kp l (bg env o.dst (.lit (.tuple #[]))) σ R))
section
variable{P:adh}{m:Mo}{fid n:Nat}{ro:acQ}{D:List zd}{rc:Rec}{K:acG}{k:acU}{ops:acP}
def Go.sI{Kp}:∀  l   env   σ ,(∀v env σ,Kp v σ->K (.panic v) ⟨env,σ,D,rc⟩) ->
 cT P m ops n Kp l env σ (λenv σ=>Go P m fid n ro k ⟨env,σ,D,rc⟩ K)->Go P m fid n ro (.inRegion ops l::k) ⟨env,σ,D,rc⟩ K
 |[],env,σ,_,h=>.zM h
 | i :: l,env,σ,p,⟨o,q,f,h⟩=>by
   rcases h with⟨B,h⟩|⟨⟨j,b,x,d,R,C,E,hd,s,F,t⟩,h⟩
   . rcases h with⟨fo,args,G,u,w⟩|⟨u,w⟩
     . refine .call q u B f (w.mono λr c H=>?_)
       cases r with
       |val a=>exact Go.sI l _ c p H
       |panic v=>simp_all
     . refine .op q B f u ?_
       intro I O J A L;refine jm _ (w I O J A L) (λ_ _ _ ⟨v,M,N,Q,g,e,a,c,x,y,z⟩=>⟨v,M,N,Q,g,e,a,c,x,y,Go.sI l _ c p z⟩) (λ_ _ _ ⟨e,a,c,x,y,z⟩=>⟨e,a,c,x,y,p _ _ _ z⟩)
   . exact .unwanted q C E hd s F t (Go.sI l _ σ p h)
def Fe(P:adh)(o:Oper)(env:Env)(a:AV):Prop:=∀σ,aJ P o env σ (λc b=>c=a/\b=σ) (λ_ _=>False)
def sJ(P:adh)(o:Oper)(env:Env)(σ:af)(a:AV):Prop:=aJ P o env σ (λc b=>c=a/\b=σ) (λ_ _=>False)
def jr(ops:acP)(j i:Nat):Bool:=match ops[i]? with|some o=>o.after.toList.any λe=>Region.binds .any e && e.on==j|none=>false
def dH(ops:acP)(o:Oper):acY:=(o.op.operands.toList.filterMap fun|.tmp t=>some t|_=>none)++(match o.guard with|some (j,_)=>(match (ops[j]?).bind (·.dst)with|some d=>[d]|none=>[])|none=>[])
def lh(ops:acP)(rest S:acY):Bool:=
 rest.all fun i=>match ops[i]? with
  |none=>false
  | some o=>
    rest.all λj=>match ops[j]? with
     |none=>false
     | some a=>match a.dst with
       |none=>true
       | some d=>
         (if (dH ops o).contains d then
           (if S.contains i then(if S.contains j then jr ops j i && Nat.blt j i else jr ops i j)
            else(if S.contains j then jr ops j i else true))else true) &&
         (if S.contains i && i !=j && o.dst==some d then false else true)
def qI(ops:acP):Bool:=(List.range ops.size).all λi=>match ops[i]? with|none=>false|some o=>o.after.toList.all λe=>!Region.binds .any e||Nat.blt e.on i
def xh{ops}(h:qI ops=true):∀i o,ops[i]?=some o->∀e∈o.after,Region.binds .any e=true->e.on<i:=by
 intro i o b e d hb;have a:i<ops.size:=(zA.1 b).1;have c:=aap.1 h i (aai.2 a);simp only[b]at c;have f:=aap.1 c e (by simp_all)
 simp_all
def js(ops:acP):acY->acY->Prop
 |_,[]=>True
 |done,i::l=>(∀j,jr ops j i=true->j∈done)/\i∉done/\js ops (i::done) l
def pN{env a x}(h:∀t,x=.tmp t->a t=env t):an a x=an env x:=by cases x<;>first|rfl|exact h _ rfl
def mem_reads{o}{t:Nat}(h:Operand.tmp t∈o.op.operands):t∈dH ops o:=by unfold dH;refine aaq.2 (.inl (List.mem_filterMap.2 ⟨.tmp t,by grind,rfl⟩))
def zQ{o a}{j:Nat}{b}{d:Nat}(c:o.guard=some (j,b))(hj:ops[j]?=some a)(hd:a.dst=some d):d∈dH ops o:=by
 unfold dH
 simp_all
def bY.congr{env a o}(h:bY ops n env o)(g:∀t∈dH ops o,a t=env t):bY ops n a o:=by
 unfold bY at h ⊢;cases c:o.guard with
 |none=>trivial
 |some p=>obtain⟨j,b⟩:=p;simp only[c]at h ⊢;obtain⟨i,d,e,f,k,l⟩:=h;exact⟨i,d,e,f,k,by rw[g d (zQ c e f)];exact l⟩
def lH.congr{env a o}(h:lH ops n env o)(i:∀t∈dH ops o,a t=env t):lH ops n a o:=by obtain⟨j,b,x,d,k,f,g,hd,c,l,e⟩:=h;exact⟨j,b,x,d,k,f,g,hd,c,by rw[i d (zQ f g hd)];exact l,e⟩
def j7  env   dst   a   t :bg env dst a t=if dst=some t then a else env t:=by
 cases dst with
 |none=>simp[bg]
 | some d=>
   by_cases h:t=d
   . simp_all
   . simp[bg,Env.upd,h,za h]
def late(ops:acP)(rest S:acY)(i:Nat):Bool:=rest.all λj=>S.contains j||jr ops i j
def Bh(P:adh)(ops:acP)(n:Nat)(rest S:acY)(a:Env)(σ:af)(i:Nat):Prop:=∃o,ops[i]?=some o/\Oper.ok n o=true/\((bY ops n a o/\∃d,o.dst=some d/\(∀c,o.op≠.defer c)/\(Fe P o a (a d)\/(late ops rest S i=true/\sJ P o a σ (a d))))\/(lH ops n a o/\∃d,o.dst=some d/\a d=.lit (.tuple #[])))
def jP{rest S}(a:lh ops rest S=true){i j o f}{d:Nat}(b:i∈rest)(c:j∈rest)(hi:ops[i]?=some o)(hj:ops[j]?=some f)(hd:f.dst=some d):
 (d∈dH ops o->(i∈S->(j∈S->jr ops j i=true/\j<i)/\(j∉S->jr ops i j=true))/\(i∉S->j∈S->jr ops j i=true))/\(i∈S->i≠j->o.dst≠some d):=by
 unfold lh at a;rw[aap]at a;have g:=a i b;simp only[hi]at g;have h:=aap.1 g j c;simp only[hj,hd,zj]at h;obtain⟨l,n⟩:=h;refine⟨λp=>?_,λk m q=>?_⟩
 . have e:(dH ops o).contains d=true:=by grind
   rw[aal e]at l;refine⟨λk=>⟨λhj=>?_,λhj=>?_⟩,λk hj=>?_⟩
   . simp_all
   . simp_all
   simp_all
 simp_all
def hoist{rest S Kp R}(K:lh ops rest S=true):
 ∀  l done   env b   σ ,(∀i∈l,i∈rest)->js ops done l->(∀i∈l,i∉done)->l.Nodup->(∀i∈l,∃o,ops[i]?=some o) ->
  (∀i∈l,i∈S->Bh P ops n rest S b σ i)->(∀t,(∀i∈l,i∈S->∀o,ops[i]?=some o->o.dst≠some t)->b t=env t) ->
  cT P m ops n Kp (l.filter λi=>!S.contains i) b σ R->cT P m ops n Kp l env σ R
 | [],done,env,b,σ,_,_,_,_,_,_,T,h=>by
   have:b=env:=funext λt=>T t (λi hi=>by simp at hi)
   simp_all
 | i :: l, done,env,b,σ,c,ha,a8,q,r,U,T,h=>by
   obtain⟨a1,a2,a3⟩:=ha;obtain⟨o,E⟩:=r i (by simp);have V:i∉l:=(abj.1 q).1
   have s:∀t∈dH ops o,b t=env t:=λt u=>T t λj f L Q w hd=>by
    obtain⟨c1,_⟩:=jP K (c i (by simp)) (c j (by simp[f])) E w hd
    grind
   have F:∀x∈o.op.operands,an env x=an b x:=λx hx=>pN λt e=>(s t (mem_reads (by grind))).symm
   have G:∀j∈l,j∉i::done:=λj f hm=>by grind
   by_cases H:i∈S
   . have W:(i::l).filter (λi=>!S.contains i)=l.filter λi=>!S.contains i:=by simp[H]
     rw[W]at h;obtain⟨o',A,B,C⟩:=U i (by simp) H;rw[E]at A;cases A
     have next:∀a d,o.dst=some d->b d=a->cT P m ops n Kp l (bg env o.dst a) σ R:=λa d hd a9=>
      hoist K l (i::done) (bg env o.dst a) b σ (λj f=>c j (by simp[f])) a3 G (abj.1 q).2 (λj f=>r j (by simp[f])) (λj f=>U j (by simp[f])) (λt u=>by
       rw[j7,hd]
       grind) h
     rcases C with⟨C,d,hd,I,D⟩|⟨C,d,hd,f⟩
     . refine⟨o,E,B,.inl ⟨C.congr λt u=>(s t u).symm,.inr ⟨I,?_⟩⟩⟩
       have:=(show sJ P o b σ (b d)from D.elim (λh=>h σ) (λh=>h.2)).congr F;intro kk O ρ X hr;refine jm _ (this kk O ρ X hr) (λ_ _ _ ⟨v,hv,k2,O2,g,Y,a,k,x,y,e1,e2⟩=>⟨v,hv,k2,O2,g,Y,a,k,x,y,?_⟩) (λ_ _ _ ⟨_,_,_,_,_,z⟩=>z.elim)
       grind
     . exact⟨o,E,B,.inr ⟨C.congr λt u=>(s t u).symm,next _ d hd f⟩⟩
   . have W : (i::l).filter (λi=>!S.contains i)=i::l.filter λi=>!S.contains i:=by simp[H]
     rw[W]at h;obtain⟨o',A,B,C⟩:=h;rw[E]at A;cases A
     have next:∀a k,cT P m ops n Kp (l.filter λi=>!S.contains i) (bg b o.dst a) k R->cT P m ops n Kp l (bg env o.dst a) k R:=λa k h'=>
      hoist K l (i::done) (bg env o.dst a) (bg b o.dst a) k (λj f=>c j (by simp[f])) a3 G (abj.1 q).2 (λj f=>r j (by simp[f]))
       (fun j f L=>by
         obtain⟨Q,w,M,Z⟩:=U j (by simp[f]) L;have ab:j≠i:=λe=>V (e ▸ f)
         have p:∀t∈dH ops Q,bg b o.dst a t=b t:=λt u=>by
          rw[j7];by_cases hd:o.dst=some t
          . obtain⟨c1,_⟩:=jP K (c j (by simp[f])) (c i (by simp)) w E hd
            grind
          grind
         have N:∀d,Q.dst=some d->bg b o.dst a d=b d:=λd hd=>by
          rw[j7];by_cases a7:o.dst=some d
          . obtain⟨_,c2⟩:=jP K (c j (by simp[f])) (c i (by simp)) w E a7
            grind
          grind
         refine⟨Q,w,M,?_⟩;rcases Z with⟨J,d,hd,I,D⟩|⟨J,d,hd,ad⟩
         . refine .inl ⟨J.congr p,d,hd,I,.inl λσ=>?_⟩
           rw[N d hd];rcases D with D|⟨hl,_⟩
           . exact(D σ).congr λx hx=>pN λt e=>p t (mem_reads (by grind))
           . have:=aap.1 hl i (c i (by simp))
             grind
         . exact .inr ⟨J.congr p,d,hd,by grind⟩)
       (fun t u=>by
         rw[j7,j7]
         grind) h'
     rcases C with⟨C,h⟩|⟨C,h⟩
     . exact⟨o,E,B,.inl ⟨C.congr λt u=>(s t u).symm,(h.congr F).mono λa k=>next a k⟩⟩
     . exact⟨o,E,B,.inr ⟨C.congr λt u=>(s t u).symm,next _ σ h⟩⟩
def js.sub  p :∀  l done a ,js ops done l->(∀i∈done,i∈a)->(∀i∈l,p i=false->i∈a)->(∀i∈l,p i=true->i∉a)->l.Nodup->js ops a (l.filter p)
 |[],_,_,_,_,_,_,_=>trivial
 | i :: l,done,a,⟨h,o,f⟩,k,m,g,d=>by
   have n:i∉l:=(abj.1 d).1;by_cases e:p i=true
   . rw [List.filter_cons_of_pos e]
     refine⟨λj c=>k j (h j c),g i (by simp) e,?_⟩
     exact js.sub p l (i::done) (i::a) f (λj c=>by
      grind) (λj c b=>by simp_all) (λj c b q=>by
      simp_all) (abj.1 d).2
   . rw[List.filter_cons_of_neg e]
     exact js.sub p l (i::done) a f (λj c=>by grind) (λj c b=>m j (by simp[c]) b) (λj c b=>g j (by simp[c]) b) (abj.1 d).2
def Bi(g:∀i o,ops[i]?=some o->∀e∈o.after,Region.binds .any e=true->e.on<i):∀  fuel t   listed   done ,listed.size=ops.size->(∀i,i<ops.size->(listed.getD i true=true↔i∈done)) ->
 ((List.range ops.size).filter λi=>!listed.getD i true).length<=fuel ->
 js ops done (Region.linearise.go .any ops fuel t listed [])/\(Region.linearise.go .any ops fuel t listed []).Nodup/\(∀i∈Region.linearise.go .any ops fuel t listed [],i∉done/\i<ops.size)/\∀i,i<ops.size->(i∈Region.linearise.go .any ops fuel t listed []\/i∈done):=by
 intro fuel;induction fuel with
 | zero=>
   intro t listed done k hd y;have l:(List.range ops.size).filter (λi=>!listed.getD i true)=[]:=List.eq_nil_of_length_eq_zero (by omega);unfold Region.linearise.go;refine⟨trivial,aci,λi a=>(by cases a),λi a=>.inr ((hd i a).1 ?_)⟩;have:=acr.1 l i (aai.2 a)
   simp_all
 | succ fuel z=>
   intro t listed done k hd y;unfold Region.linearise.go;simp only[];generalize p:(List.range ops.size).filter (λi=>!listed.getD i true && ((ops[i]?).map (·.after.all λe=>!Region.binds .any e||listed.getD e.on false)).getD false)=rs
   have d:∀i,i∈rs↔i<ops.size/\listed.getD i true=false/\∃o,ops[i]?=some o/\∀e∈o.after,Region.binds .any e=true->listed.getD e.on false=true:=by
    intro i;rw[<-p,aaR,aai];refine and_congr_right λa=>?_
    rw[zj,abP];refine and_congr_right λ_=>?_
    have q:ops[i]?=some ops[i]:=aay a;rw[q];simp only[aaJ,aba,aaw,abZ,abP,kn,exists_eq_left']
    grind
   have A:∀j,j<ops.size->listed.getD j false=listed.getD j true:=λj c=>by grind
   cases a:rs[t % rs.length]? with
   | none=>
     simp only[]
     have w:rs=[]:=by
      cases rs with
      |nil=>rfl
      | cons x xs=>
        have B:=List.getElem?_eq_none_iff.1 a;have K:t % (x::xs).length<(x::xs).length:=Nat.mod_lt _ (by simp);omega
     refine⟨trivial,aci,λi a=>(by cases a),?_⟩;intro i;induction i using Nat.strongRecOn with
     | ind i C=>
       intro a;refine .inr ((hd i a).1 ?_);cases D:listed.getD i true with
       |true=>rfl
       | false=>
         have:i∈rs:=(d i).2 ⟨a,D,ops[i],aay a,λe l hb=>by
          have E:=g i ops[i] (aay a) e l hb
          grind⟩
         grind
   | some i=>
     simp only[];rw[linearise_go_acc,List.reverse_singleton,acx];have r:=List.mem_of_getElem? a;obtain⟨s,F,o,q,m⟩:=(d i).1 r;have n:i∉done:=λh=>by grind
     have f:∀j,j<ops.size->((listed.setIfInBounds i true).getD j true=if j=i then true else listed.getD j true):=λj c=>by
      by_cases b:j=i
      . subst b;rw[aal rfl];simp[k,c]
      . rw[aaj b];exact getD_set_ne true (za b)
     obtain⟨G,H,u,I⟩:=z (t / rs.length) (listed.setIfInBounds i true) (i::done) (by grind) (λj c=>by
      rw[f j c];by_cases b:j=i
      . simp[b]
      grind) (by
      have J:(List.range ops.size).filter (λj=>!(listed.setIfInBounds i true).getD j true)=((List.range ops.size).filter (λj=>!listed.getD j true)).filter (· !=i):=by
       rw[List.filter_filter];refine abw λj c=>?_
       rw[f j (aai.1 c)];by_cases b:j=i<;>simp[b]
      rw[J];have:(((List.range ops.size).filter (λj=>!listed.getD j true)).filter (· !=i)).length<((List.range ops.size).filter (λj=>!listed.getD j true)).length:=List.length_filter_lt_length_iff_exists.2 ⟨i,aaR.2 ⟨aai.2 s,by grind⟩,by simp⟩;omega)
     refine⟨⟨λj c=>?_,n,G⟩,abj.2 ⟨λh=>(u i h).1 (by simp),H⟩,λj c=>?_,λj c=>?_⟩
     . unfold jr at c
       rw[q]at c;obtain⟨e,l,hb⟩:=aaN.1 c;simp only[zj,abu]at hb;have v:e∈o.after:=by simpa using l
       have B:=m e v hb.1
       grind
     . rcases aaD.1 c with e|e
       . grind
       . exact⟨λh=>(u j e).1 (by simp[h]),(u j e).2⟩
     . rcases I j c with h|h
       . exact .inl (by simp[h])
       . rcases aaD.1 h with e|e
         . exact .inl (by simp[e])
         grind
def Bj(a:∀i o,ops[i]?=some o->∀e∈o.after,Region.binds .any e=true->e.on<i)  t :
 js ops [] (Region.linearise .any ops t)/\(Region.linearise .any ops t).Nodup/\(∀i,i∈Region.linearise .any ops t↔i<ops.size):=by
 obtain⟨b,c,d,f⟩:=Bi a ops.size t (Array.replicate ops.size false) [] (by simp) (λi g=>by simp[g]) (by grind);refine⟨b,c,λi=>⟨λh=>(d i h).2,λh=>?_⟩⟩;rcases f i h with h|h
 . exact h
 . cases h
end
section
variable{P:adh}{m:Mo}{fid n:Nat}{ro:acQ}{D:List zd}{rc:Rec}{K:acG}{k:acU}{ops:acP}{Kp:acI}
def Any(P:adh)(m:Mo)(ops:acP)(n:Nat)(Kp:acI)(done rest:acY)(env:Env)(σ:af)(R:acH):Prop:=∀l,js ops done l->l.Nodup->(∀i,i∈l↔i∈rest)->cT P m ops n Kp l env σ R
def Go.draw{id}(j:P.follows .mixedOrders=true)(l:qI ops=true){env σ}
 (h:Any P m ops n (λv σ=>∀env,K (.panic v) ⟨env,σ,D,rc⟩) [] (List.range ops.size) env σ (λenv σ=>Go P m fid n ro k ⟨env,σ,D,rc⟩ K)):Go P m fid n ro (.code (.region id ops true)::k) ⟨env,σ,D,rc⟩ K:=by
 intro Q d O tmps defs kind cs o p q;refine .step (λr s g=>r=d/\s=O/\∃t,g=G ⟨fid,tmps,.inRegion ops (Region.linearise .any ops t)::k,defs,.run,kind,ro⟩ (fR rc cs)) rfl ?_ ?_
 . rintro _ _ _ ⟨rfl,rfl,t,rfl⟩
   obtain⟨u,y,A⟩:=Bj (xh l) t;have:=h _ u y (λi=>by grind);exact Go.sI (D:=D) (rc:=rc) _ env σ (λv env σ z=>z env) this _ _ _ tmps defs kind cs o p q
 . intro w a
   refine⟨G ⟨fid,tmps,.inRegion ops (Region.linearise .any ops (w.tape w.drawn (.order fid id)))::k,defs,.run,kind,ro⟩ (fR rc cs),{w with drawn:=w.drawn+1},#[],d,O,?_,?_,?_,rfl,rfl,_,rfl⟩
   . simp[G,stepG,stepG.exec,choose,Sem.run,Question.forced,Question.cut,Region.schedule,j]
   . exact{le:=.refl _,size:=aao _,keep:=λ_ _ _=>rfl,tail:=λb n _ _ c e h=>⟨c,h,rfl,λ_ _=>rfl⟩,part:=λb n _ _ c e h=>⟨c,h,rfl,λ_ _=>rfl⟩,shape:=λ_ _=>rfl,own:=λb x h=>.inl ⟨x,h,.refl x⟩,cell:=λ_ _ _ h=>.inl h,sh:=λ_ _ h=>.inl h,evs:=λe h=>by simp at h,tape:=rfl,output:=rfl,os:=rfl,low:=λe h=>by simp at h,tok:=λ_ f h=>⟨f,h⟩}
   . exact⟨a.apart,a.cell,a.sh,a.obj,a.tail,a.part⟩
def ju(P:adh)(m:Mo)(ops:acP)(n:Nat)(Kp:acI)(i:Nat)(env:Env)(σ:af)(R:acH):Prop:=
 ∃ o,ops[i]?=some o/\Oper.ok n o=true/\
   ((bY ops n env o/\OW P m o env σ (λa b=>R (bg env o.dst a) b) Kp)\/(lH ops n env o/\R (bg env o.dst (.lit (.tuple #[]))) σ))
section
variable(L:jj P)
instance(n:Int):Decidable (fits n):=by unfold fits;infer_instance
def xi(op:BinOp)(kd:IntKind)(a b:Int):acK:=
 match op,kd with
 |.add,.i64=>if fits (a+b)then some (.int .i64 (a+b))else none
 |.sub,.i64=>if fits (a-b)then some (.int .i64 (a-b))else none
 |.mul,.i64=>if fits (a*b)then some (.int .i64 (a*b))else none
 |.eql,_=>some (.bool (a==b))
 |.neq,_=>some (.bool (a !=b))
 |.lss,_=>some (.bool (decide (a<b)))
 |.leq,_=>some (.bool (decide (a<=b)))
 |.gtr,_=>some (.bool (decide (a>b)))
 |.geq,_=>some (.bool (decide (a>=b)))
 |.shl,_=>if 0<=b then some (.int kd (kd.wrap (a*2 ^ (min b.toNat kd.bits))))else none
 |.shr,_=>if 0<=b then some (.int kd (a.fdiv (2 ^ (min b.toNat kd.bits))))else none
 |op,kd=>pz op kd a b
def Bl{op kd a b v R}(h:xi op kd a b=some v)(c:R v):rU op kd a b R:=by
 unfold xi at h;unfold rU;split at h
 . grind
 . grind
 . grind
 . simp_all
 . simp_all
 . simp_all
 . simp_all
 . simp_all
 . simp_all
 . simp_all
 . simp_all
 simp_all
def vV(mu:acY)(o:Oper)(env:Env):acV:=
 match o.op with
 |.move x|.assign x=>some (an env x)
 | .pick c a b=>match an env c with
   |.lit (.bool x)=>some (if x then an env a else an env b)
   |_=>none
 |.box _ x=>if(match o.dst with|some d=>mu.contains d|none=>false)=true then none else if(an env x).cells.all AV.flat=true then some (.cp (an env x) 0)else none
 | .load t p=>match L.tt t,an env p with
   |some i,.cp v off=>cN v.cells off i.size i.agg
   |some i,.kp _ l hole off=>OU l hole off i.size i.agg
   |_,_=>none
 | .fieldAddr s x j=>match L.tt s with
   | some ⟨.struct,_,_,_,jO⟩=>(match jO[j]? with
     |some f=>if f.2.1≠0 then sA (an env x) f.1 else none
     |none=>none)
   |_=>none
 | .field s x j=>match L.tt s,an env x with
   | some ⟨.struct,_,_,_,jO⟩,.agg l=>(match jO[j]? with
     |some f=>(match L.tt f.2.2 with|some n=>cN l f.1 n.size n.agg|none=>none)
     |none=>none)
   |_,_=>none
 | .indexAddr t x h=>match L.tt t with
   | some ⟨.slice e,_,_,_,_⟩=>(match L.tt e,an env x,an env h with
     |some g,.sl q es _,.lit (.int _ z)=>if q=g.size/\0<=z then(es[z.toNat]?).map (λa=>.cp a 0)else none
     |some g,.gS b off len _,.lit (.int _ z)=>if 0<=z/\z<len then some (.ref b (off+z.toNat*g.size))else none
     |_,_,_=>none)
   | some ⟨.array k e,_,_,_,_⟩=>(match L.tt e,an env h with
     |some g,.lit (.int _ z)=>if 0<=z/\z<k then sA (an env x) (z.toNat*g.size)else none
     |_,_=>none)
   |_=>none
 | .index t x h=>match L.tt t with
   | some ⟨.array k e,_,_,_,_⟩=>(match L.tt e,an env x,an env h with
     |some g,.agg l,.lit (.int _ z)=>if 0<=z/\z<k then cN l (z.toNat*g.size) g.size g.agg else none
     |_,_,_=>none)
   |_=>none
 | .binOp op t x y _=>match L.tt t with
   | some ⟨.int _,_,_,_,_⟩=>(match an env x,an env y with
     |.lit (.int kd a),.lit (.int m b)=>if kd=m\/op=.shl\/op=.shr then(xi op kd a b).map .lit else none
     |_,_=>none)
   |_=>none
 | .unOp .not _ x=>match an env x with
   |.lit (.bool b)=>some (.lit (.bool !b))
   |_=>none
 | .convert s t x=>match L.tt s,L.tt t,an env x with
   |some ⟨.int _,_,_,_,_⟩,some ⟨.int kd,_,_,_,_⟩,.lit (.int _ a)=>some (.lit (.int kd (kd.wrap a)))
   |_,_,_=>none
 | .makeInterface t x=>match L.tt t with
   |some i=>if i.kind≠.iface then some (.lE t (an env x))else none
   |none=>none
 |.makeFunc f fs cs=>some (.fn f (fs.toList.map (an env)) (cs.toList.map (an env)))
 | .extract x j=>match an env x with
   |.cq l=>l[j]?
   |_=>none
 | .nilCheck x=>match an env x with
   |.cp v off=>some (.cp v off)
   |.ref b off=>some (.ref b off)
   |.kp b l hole off=>some (.kp b l hole off)
   |_=>none
 | .call c=>match c.callee,c.args.toList with
   | .builtin .len,[x]=>(match c.argTypes[0]? with
     | some t=>(match L.tt t with
       | some ⟨.slice _,_,_,_,_⟩=>(match an env x with
         |.sl _ es _=>some (.lit (.int .i64 es.length))
         |.lit (.slice none 0 0)=>some (.lit (.int .i64 0))
         |.gS _ _ len _=>some (.lit (.int .i64 len))
         |_=>none)
       |_=>none)
     |none=>none)
   |_,_=>none
 |_=>none
def xj{mu o env a}(h:vV L mu o env=some a):(∀c,o.op≠.defer c)/\Fe P o env a:=by
 have key:sG L o=true/\∀(K:acI) σ,K a σ->TE L mu o env σ K (λ_ _=>False):=by
  unfold vV at h;unfold sG TE;split at h
  . simp_all
  . simp_all
  . next c x y b=>
    simp only[b]
    grind
  . next t x b=>
    simp only[b]
    grind
  . next t p b=>
    simp only[b];split at h
    . simp_all
    . simp_all
    . cases h
  . next s x j b=>
    simp only[b]
    grind
  . next s x j b=>
    simp only[b]
    grind
  . next t x n b=>
    simp only[b];split at h
    . next e g i l m d=>
      simp only[d]
      grind
    . next k e g i l m d=>
      simp only[d]
      grind
    . cases h
  . next t x n b=>
    simp only[b];split at h
    . grind
    . cases h
  . next op t x y E b=>
    simp only[b];split at h
    . next F g i l m d=>
      simp only[d];split at h
      . next kd u q v r w=>
        simp only[r,w];split at h
        . next z=>obtain⟨y,A,G⟩:=aat.1 h;refine⟨by simp_all,λK σ H=>⟨z,Bl A (by simp_all)⟩⟩
        . cases h
      . cases h
    . cases h
  . next t x b=>
    simp only[b]
    grind
  . next s t x b=>
    simp only[b]
    grind
  . next t x b=>
    simp only[b]
    grind
  . simp_all
  . next x j b=>
    simp only[b]
    grind
  . next x b=>
    simp only[b]
    grind
  . next c b=>
    simp only[b];split at h
    . next x B C=>
      simp only[B,C]
      grind
    . cases h
  . cases h
 refine⟨λc e=>?_,λσ=>Ih L key.1 (key.2 (λD f=>D=a/\f=σ) σ ⟨rfl,rfl⟩)⟩
 simp_all
def xk(o:Oper)(env:Env)(σ:af):acV:=
 match o.op with
 | .load t p=>match L.tt t with
   |some i=>rq i σ (an env p)
   |none=>none
 |_=>none
def vq{o env σ a}(h:xk L o env σ=some a):(∀c,o.op≠.defer c)/\sJ P o env σ a:=by
 unfold xk at h;split at h
 . next t p b=>
   split at h
   . next i d=>exact⟨λc e=>(by simp_all),Bf L b d h ⟨rfl,rfl⟩⟩
   . cases h
 . cases h
def jH(mu:acY)(ops:acP)(n:Nat)(lt:Bool)(σ:af):acY->Env->(Env->Prop)->Prop
 |[],env,K=>K env
 | i :: S,env,K=>match ops[i]? with
   | some o=>Oper.ok n o=true/\o.dst.isSome=true/\rV ops n env o (match vV L mu o env with
      |some a=>jH mu ops n lt σ S (bg env o.dst a) K
      | none=>lt=true/\(match xk L o env σ with
        |some a=>jH mu ops n lt σ S (bg env o.dst a) K
        |none=>False)) (jH mu ops n lt σ S (bg env o.dst (.lit (.tuple #[]))) K)
   |none=>False
def ascending:acY->Bool
 |i::j::l=>Nat.blt i j && ascending (j::l)
 |_=>true
def pP{i}:∀{l},ascending (i::l)=true->ascending l=true/\∀j∈l,i<j
 |[],_=>⟨rfl,λ_ h=>by cases h⟩
 | a::l,h=>by
   simp only[ascending,zj,Nat.blt_eq]at h;obtain⟨c,b⟩:=h;have d:=pP b
   grind
def xl{mu rest σ lt}  m  (A:lh ops rest m=true) (l:lt=true->∀i∈m,late ops rest m i=true):∀  S   env   K ,ascending S=true->(∀i∈S,i∈m/\i∈rest)->jH L mu ops n lt σ S env K ->
 ∃f,K f/\(∀i∈S,Bh P ops n rest m f σ i)/\∀t,(∀i∈S,∀o,ops[i]?=some o->o.dst≠some t)->f t=env t
 |[],env,K,_,_,h=>⟨env,h,λ_ U=>(by cases U),λ_ _=>rfl⟩
 | i :: S, env,K,B,p,h=>by
   obtain⟨B,V⟩:=pP B;unfold jH at h;split at h
   . next o w=>
     obtain⟨C,D,h⟩:=h;obtain⟨d,hd⟩:=Option.isSome_iff_exists.1 D
     have main:∀a,jH L mu ops n lt σ S (bg env o.dst a) K->((bY ops n env o/\(∀c,o.op≠.defer c)/\(Fe P o env a\/(late ops rest m i=true/\sJ P o env σ a)))\/(lH ops n env o/\a=.lit (.tuple #[])))->∃f,K f/\(∀j∈i::S,Bh P ops n rest m f σ j)/\∀t,(∀j∈i::S,∀o,ops[j]?=some o->o.dst≠some t)->f t=env t:=by
      intro a W q;obtain⟨f,X,h2,E⟩:=xl m A l S _ K B (λj k=>p j (by simp[k])) W
      have g:∀t∈dH ops o,f t=env t:=λt F=>by
       have G:∀j∈S,∀y,ops[j]?=some y->y.dst≠some t:=λj k y s u=>by
        obtain⟨Y,_⟩:=jP A (p i (by simp)).2 (p j (by simp[k])).2 w s u
        grind
       rw[E t G,j7];by_cases H:o.dst=some t
       . obtain⟨Y,_⟩:=jP A (p i (by simp)).2 (p i (by simp)).2 w w H
         grind
       grind
      have r:f d=a:=by
       rw[E d (λj k y s u=>by
        obtain⟨_,c2⟩:=jP A (p i (by simp)).2 (p j (by simp[k])).2 w s u
        grind),j7,aal hd]
      refine⟨f,X,λj k=>?_,λt F=>?_⟩
      . rcases aaD.1 k with rfl|k
        . refine⟨o,w,C,?_⟩
          rcases q with⟨q,I,J⟩|⟨q,rfl⟩
          . refine .inl ⟨q.congr g,d,hd,I,?_⟩
            rw[r];have R:∀σ,aJ P o env σ (λM v=>M=a/\v=σ) (λ_ _=>False)->aJ P o f σ (λM v=>M=a/\v=σ) (λ_ _=>False):=λσ h=>h.congr λx T=>pN λt e=>g t (mem_reads (by grind))
            exact J.imp (λh σ=>R σ (h σ)) (λh=>⟨h.1,R σ h.2⟩)
          . exact .inr ⟨q.congr g,d,hd,r⟩
        grind
      . rw[E t (λj k=>F j (by simp[k])),j7,aaj (F i (by simp) o w)]
     rcases sH h with⟨q,h⟩|⟨j,b,x,Z,y,hg,k,N,O,T,Q,h⟩
     . split at h
       . next a z=>exact main a h (.inl ⟨q,(xj L z).1,.inl (xj L z).2⟩)
       . obtain⟨hl,h⟩:=h
         split at h
         . next a z=>exact main a h (.inl ⟨q,(vq L z).1,.inr ⟨l hl i (p i (by simp)).1,(vq L z).2⟩⟩)
         grind
     . exact main (.lit (.tuple #[])) h (.inr ⟨⟨j,b,x,Z,y,hg,k,N,O,T,Q⟩,rfl⟩)
   simp_all
def Any.hoist  mu   S  {done rest env σ R}(hd:∀i∈rest,i∉done) (j:∀i∈S,i∈rest) (p:∀i∈rest,(ops[i]?).isSome=true) (q:ascending S=true) (k:lh ops rest S=true){lt}(c:lt=true->∀i∈S,late ops rest S i=true)
 (h:jH L mu ops n lt σ S env (λb=>Any P m ops n Kp (S++done) (rest.filter λi=>!S.contains i) b σ R)):Any P m ops n Kp done rest env σ R:=by
 intro l d f e;obtain⟨b,r,s,u⟩:=xl L S k c S env _ q (λi a=>⟨a,j i a⟩) h
 refine cE.hoist k l done env b σ (λi a=>(e i).1 a) d (λi a=>hd i ((e i).1 a)) f (λi a=>Option.isSome_iff_exists.1 (p i ((e i).1 a))) (λi _ g=>s i g)
  (λt v=>u t λi a o w=>v i ((e i).2 (j i a)) a o w) ?_
 refine r _ (js.sub (λi=>!S.contains i) l done (S++done) d (λi a=>by simp[a]) (λi _ x=>by simp_all) (λi a x=>?_) f) (f.filter _) (λi=>by simp_all)
 simp_all
def Bm(ops:acP)(done rest S:acY):Bool:=(rest.all λi=>!done.contains i && (ops[i]?).isSome) && (S.all λi=>rest.contains i) && ascending S && lh ops rest S
def Any.take  mu   S  {done rest env σ R}  lt  (d:Bm ops done rest S=true) (a:lt=true->(S.all λi=>late ops rest S i)=true)
 (h:jH L mu ops n lt σ S env (λb=>Any P m ops n Kp (S++done) (rest.filter λi=>!S.contains i) b σ R)):Any P m ops n Kp done rest env σ R:=by
 simp only[Bm,zj,aap]at d;obtain⟨⟨⟨f,k⟩,g⟩,j⟩:=d;exact Any.hoist L mu S (λi c=>by simp_all) (λi c=>by simp_all) (λi c=>(f i c).2) g j (λe i c=>aap.1 (a e) i c) h
end
end
attribute [simp] jH vV xk xi
section
variable{P:adh}{m:Mo}{n:Nat}{ops:acP}{Kp:acI}
def cT.mono{R c}(b:∀env σ,R env σ->c env σ):∀  l   env   σ ,cT P m ops n Kp l env σ R->cT P m ops n Kp l env σ c
 |[],env,σ,h=>b _ _ h
 |i::l,env,σ,⟨o,d,e,f⟩=>⟨o,d,e,f.imp (λh=>⟨h.1,h.2.mono λa g=>cT.mono b l _ _⟩) (λh=>⟨h.1,cT.mono b l _ _ h.2⟩)⟩
def jH.mono(L:jj P){mu lt σ K c}(b:∀env,K env->c env):∀{S env},jH L mu ops n lt σ S env K->jH L mu ops n lt σ S env c
 |[],env,h=>b _ h
 | i :: S,env,h=>by
   unfold jH at h ⊢;split at h
   . next o d=>
     try simp only[d]
     refine⟨h.1,h.2.1,?_⟩;have h:=h.2.2;unfold rV at h ⊢
     have main:∀{x:acV}{y:acV},(match x with|some a=>jH L mu ops n lt σ S (bg env o.dst a) K|none=>lt=true/\(match y with|some a=>jH L mu ops n lt σ S (bg env o.dst a) K|none=>False)) ->
      (match x with|some a=>jH L mu ops n lt σ S (bg env o.dst a) c|none=>lt=true/\(match y with|some a=>jH L mu ops n lt σ S (bg env o.dst a) c|none=>False)):=by
      intro x y h;cases x with
      |some a=>exact jH.mono L b h
      | none=>
        refine⟨h.1,?_⟩;cases y with
        |some a=>exact jH.mono L b h.2
        |none=>exact h.2
     split at h
     . exact main h
     . split at h
       . refine⟨h.1,?_⟩
         have h:=h.2;split at h
         . exact⟨λe=>main (h.1 e),λe=>jH.mono L b (h.2 e)⟩
         . exact jH.mono L b h
         . exact h
       . exact h
   . exact h
inductive ot where
 |done
 |take (S:acY) (lt:Bool) (p:ot)
 |one (i:Nat) (p:ot)
 |both (i:Nat) (p q:ot)
structure Entry where
 id:Nat
 Wb:ot
def fh(ops:acP):ot->acY->acY->acY->Bool
 |.done,_,_,rest=>rest.isEmpty
 |.take S lt p,ex,done,rest=>ex.isEmpty && Bm ops done rest S && (!lt||S.all λi=>late ops rest S i) && fh ops p [] (S++done) (rest.filter λi=>!S.contains i)
 |.one i p,ex,done,rest=>rest.contains i && (rest.all λj=>!done.contains j) && (rest.all λj=>j==i||ex.contains j||(rest.any λx=>jr ops x j)) && fh ops p [] (i::done) (rest.filter (· !=i))
 |.both i p q,ex,done,rest=>rest.contains i && fh ops p [] (i::done) (rest.filter (· !=i)) && fh ops q (i::ex) done rest
def sK(ops:acP)(e:Entry):Bool:=qI ops && fh ops e.Wb [] [] (List.range ops.size)
def Wc(P:adh)(m:Mo)(ops:acP)(n:Nat)(Kp:acI)(ex done rest:acY)(env:Env)(σ:af)(R:acH):Prop:=∀l,js ops done l->l.Nodup->(∀i,i∈l↔i∈rest)->(∀i a,l=i::a->i∉ex)->cT P m ops n Kp l env σ R
def iR(P:adh)(m:Mo)(ops:acP)(n:Nat)(Kp:acI)(p:ot)(env:Env)(σ:af)(R:acH):Prop:=∀ex done rest,fh ops p ex done rest=true->Wc P m ops n Kp ex done rest env σ R
def KM{i}{l rest:acY}(a:(i::l).Nodup)(b:∀j,j∈i::l↔j∈rest)  j :j∈l↔j∈rest.filter (· !=i):=by grind
def cT.KN{i}{l ex done rest:acY}{p env σ R}(c:js ops done (i::l))(b:(i::l).Nodup)(d:∀j,j∈i::l↔j∈rest)
 (e:fh ops p [] (i::done) (rest.filter (· !=i))=true) (h:ju P m ops n Kp i env σ (λenv σ=>iR P m ops n Kp p env σ R)):cT P m ops n Kp (i::l) env σ R:=by
 have next:∀env σ,iR P m ops n Kp p env σ R->cT P m ops n Kp l env σ R:=λenv σ h=>h [] _ _ e l c.2.2 (abj.1 b).2 (KM b d) (λ_ _ _ h=>by cases h)
 obtain⟨o,f,g,k⟩:=h;exact⟨o,f,g,k.imp (λh=>⟨h.1,h.2.mono λa q=>next _ _⟩) (λh=>⟨h.1,next _ _ h.2⟩)⟩
def iR.done{env σ R}(h:R env σ):iR P m ops n Kp .done env σ R:=λex done rest a l _ _ b _=>by
 simp only[fh,List.isEmpty_iff]at a;subst a;cases l with
 |nil=>exact h
 |cons i l=>exact absurd ((b i).1 (by simp)) (by simp)
def iR.take(L:jj P)  mu  {S lt p env σ R}(h:jH L mu ops n lt σ S env (λd=>iR P m ops n Kp p d σ R)):iR P m ops n Kp (.take S lt p) env σ R:=by
 intro ex done rest f;simp only[fh,zj]at f;obtain⟨⟨⟨j,g⟩,k⟩,i⟩:=f;have:=Any.take (m:=m) (Kp:=Kp) (R:=R) L mu S lt g (λe=>by simp_all) (jH.mono L (λd h=>λl a b c=>h [] _ _ i l a b c (λ_ _ _ h=>by cases h)) h);exact λl a b c _=>this l a b c
def iR.one{i p env σ R}(h:ju P m ops n Kp i env σ (λenv σ=>iR P m ops n Kp p env σ R)):iR P m ops n Kp (.one i p) env σ R:=by
 intro ex done rest d l e g f r;simp only[fh,zj,aap,abZ,abu,aaN]at d;obtain⟨⟨⟨s,hd⟩,k⟩,o⟩:=d;have q:i∈rest:=by simp_all
 cases l with
 |nil=>simp_all
 | cons j l=>
   have a:j∈rest:=(f j).1 (by simp)
   have b:j=i:=by
    rcases k j a with(h|h)|⟨x,c,h⟩
    . exact h
    . simp_all
    . have:=hd x c
      exact absurd (e.1 x h) (by simp_all)
   subst b;exact cT.KN (ex:=ex) e g f o h
def iR.both{i p q env σ R}(h:ju P m ops n Kp i env σ (λenv σ=>iR P m ops n Kp p env σ R))(g:iR P m ops n Kp q env σ R):iR P m ops n Kp (.both i p q) env σ R:=by
 intro ex done rest b l c d f s;simp only[fh,zj]at b;obtain⟨⟨t,k⟩,o⟩:=b;have r:i∈rest:=by simp_all
 cases l with
 |nil=>simp_all
 | cons j l=>
   by_cases a:j=i
   . subst a
     exact cT.KN (ex:=ex) c d f k h
   . exact g _ _ _ o _ c d f λx u e=>by simp_all
def ry{id}:∀{k k'},exitTo id k=some k'->∀x∈k',x∈k
 |[],k',h=>by simp_all
 | i::k,k',h=>by
   have again:exitTo id k=some k'->∀x∈k',x∈i::k:=λh x a=>abo _ (ry h x a)
   cases i<;>simp only[exitTo]at h<;>first|exact again h|skip
   grind
end
section
variable{P:adh}(L:jj P)
def ou(fn:Func)(k:Nat):Bool:=Nat.ble k fn.ntmps && fn.results.toList.all (ResultVar.ok fn.ntmps)
end
attribute [simp] List.find?
def j8{k O r c e x}(p:O r=some (.obj (.cells c e x))):kM k O (k.eG r (e,c.size)) O:=λw h=>by
 have t:=h.obj _ _ p;have g:w.shape? r=some (e,c.size):=by simp[World.shape?,t]
 refine⟨⟨h.apart,h.cell,λb s hb=>?_,h.obj,λb n hb=>?_,λb n hb=>?_⟩,⟨⟨λ_ _ _ h=>h,λb s d=>?_⟩,aao _,λ_ _ _=>rfl,λ_ _ _ _ c _ h=>⟨c,h,rfl,λ_ _=>rfl⟩,λ_ _ _ _ c _ h=>⟨c,h,rfl,λ_ _=>rfl⟩,λ_ _=>rfl,λb x u=>.inl ⟨x,u,.refl x⟩,λb i v y=>.inl y,λb s d=>?_,by simp,rfl,rfl,rfl,by simp,λ_ f h=>⟨f,h⟩⟩⟩
 . by_cases a:b=r
   . subst a;simp[au.eG]at hb;simp_all
   . exact h.sh b s (by simpa[au.eG,a]using hb)
 . obtain⟨j,l,m,o⟩:=h.tail b n hb
   refine⟨j,l,m,?_⟩;have:b≠r:=λq=>by simp_all
   simpa[au.eG,this]using o
 . obtain⟨j,l,m,o⟩:=h.part b n hb
   refine⟨j,l,m,?_⟩;have:b≠r:=λq=>by simp_all
   simpa[au.eG,this]using o
 . by_cases a:b=r
   . subst a
     have:=h.sh _ _ d;rw[g]at this;cases this;simp[au.eG]
   . simpa[au.eG,a]using d
 . by_cases a:b=r
   . simp_all
   . exact .inl (by simpa[au.eG,a]using d)
section
variable{P:adh}{m:Mo}{Q:acy}{k:au}{O:ak}{g:acW}
def T.freeze{r n c e}(d:O r=some (.obj (.cells c e (0,0))))(b:g.status=.running)
 (h:∀k' O',k.Le k'->k'.sh r=some (e,c.size)->(∀j v,j<n->c[j]?=some v->k'.cell r j=some v)->O'=O.set r (.tail n)->T P m Q k' O' g):T P m Q k O g:=by
 by_cases a:∃w,Sat k O w
 . obtain⟨w,f⟩:=a
   have i:∀j,k.cell r j=none:=λj=>by
    cases q:k.cell r j with
    |none=>rfl
    |some v=>exact(f.apart _ _ _ q (.inl ⟨_,d⟩)).elim
   have o:=(j8 (k:=k) d w f).2.le;have l:(k.eG r (e,c.size)).Le ((k.eG r (e,c.size)).wW r c n):=.wW i;exact .ghost (j8 d) (.ghost (oo (n:=n) d (by simp[au.eG])) (h _ _ (o.trans l) (by simp[au.wW,au.eG]) (λj v p s=>by simp[au.wW,p,s]) rfl))
 . exact .step (λ_ _ _=>False) b (λ_ _ _ h=>h.elim) λw f=>absurd ⟨w,f⟩ a
end
def fH:∀{es},(∀e∈es,e.cells=[e])->flatten es=es
 |[],_=>rfl
 | e::es,h=>by
   have c:=h e (by simp);have a:=fH (es:=es) λx b=>h x (by simp[b])
   simp only[flatten]at a ⊢
   simp_all
def V.CS{k v kk es sp}(h:V k v (.sl kk es sp)):(∃a,v=.slice a 0 0/\es=[]/\(sp=.any\/(sp=.exact/\a.isSome=true)))\/∃(b off cap N:Nat) (E:TypeId) (c:Nat->Value),v=.slice (some ⟨b,off,none⟩) es.length cap/\es.length<=cap/\k.sh b=some (E,N)/\off+cap*kk<=N/\(∀e∈es,e.cells.length=kk)/\
 (∀j,j<(flatten es).length->k.cell b (off+j)=some (c j)/\cE.flat (c j)=true)/\(∀  j  a,(flatten es)[j]?=some a->V k (c j) a)/\sp.fits b off es.length kk cap:=by
 cases h with
 |sl b off cap _ N E _ _ c d f g i l m n=>exact .inr ⟨b,off,cap,N,E,c,rfl,d,f,g,i,l,m,n⟩
 |slnil a _ _ h=>grind
inductive Fz(b:Nat)(l:ade):AV->AV->Prop
 |refl (a:AV):Fz b l a a
 | sl (off cap kk:Nat) (es:ade) (sp:nz):es.length<=cap->off+cap*kk<=l.length->(∀e∈es,e.cells.length=kk)->(∀(j:Nat) a,(flatten es)[j]?=some a->l[off+j]?=some a)->(sp=.any\/(sp=.exact/\cap=es.length)) ->
    Fz b l (.gS b off es.length cap) (.sl kk es sp)
 |fn (f:Fn) (a1 a2 c1 c2:ade):a1.length=a2.length->c1.length=c2.length->(∀(i:Nat) a a',a1[i]?=some a->a2[i]?=some a'->Fz b l a a')->(∀(i:Nat) a a',c1[i]?=some a->c2[i]?=some a'->Fz b l a a')->Fz b l (.fn f a1 c1) (.fn f a2 c2)
 |rows (es es':ade) (sp:nz):es.length=es'.length->(∀e∈es,e.cells=[e])->(∀e∈es',e.cells=[e])->(∀(i:Nat) a a',es[i]?=some a->es'[i]?=some a'->Fz b l a a')->Fz b l (.sl 1 es sp) (.sl 1 es' sp)
 |cp (base off:Nat) (v:AV):base+v.cells.length<=l.length->(∀(j:Nat) a,v.cells[j]?=some a->l[base+j]?=some a)->Fz b l (.ref b (base+off)) (.cp v off)
 |agg (l1 l2:ade):l1.length=l2.length->(∀(i:Nat) a a',l1[i]?=some a->l2[i]?=some a'->Fz b l a a')->Fz b l (.agg l1) (.agg l2)
 |cq (l1 l2:ade):l1.length=l2.length->(∀(i:Nat) a a',l1[i]?=some a->l2[i]?=some a'->Fz b l a a')->Fz b l (.cq l1) (.cq l2)
def Bn(k:au)(b:Nat)(E:TypeId)(l:ade):Prop:=k.sh b=some (E,l.length)/\∀(j:Nat) a,l[j]?=some a->∃u,k.cell b j=some u/\V k u a/\cE.flat u=true
def Fz.sound{k b E l a a'}(h:Fz b l a a')(o:Bn k b E l):∀{v},V k v a->V k v a':=by
 induction h with
 |refl a=>simp_all
 | sl off cap T es sp g n p r s=>
   intro v d;cases d
   exact V.ofRow g o.1 n p (λj a q=>o.2 _ _ (r j a q)) (by
    rcases s with rfl|⟨rfl,s⟩
    . trivial
    . exact s)
 | rows es t sp g n p _ z=>
   intro v d;have f1:=fH n;have U:=fH p;rcases d.CS with⟨W,rfl,rfl,F⟩|⟨G,off,cap,N,H,c,rfl,X,I,J,Y,A,K,Z⟩
   . grind
   . rw[f1]at A K
     rw[g];refine .sl G off cap 1 N H t sp c (by omega) I J (λe he=>by simp_all) (λj B=>A j (by simp_all)) (λj a q=>?_) (by simp_all)
     grind
 | cp base off x hlen g=>
   intro v d;cases d;refine .cp b base off _ _ x (λj=>(k.cell b (base+j)).getD undef) o.1 hlen (λj B=>?_) (λj a q=>?_)
   . obtain⟨u,n,p,r⟩:=o.2 _ _ (g j x.cells[j] (by simp[B]))
     simp_all
   . obtain⟨u,n,p,r⟩:=o.2 _ _ (g j a q)
     simp_all
 | fn f a1 L c1 M g n _ _ O P=>
   intro v d;cases d with
   | fn _ Q R _ _ C D g3 g4=>
     refine .fn f Q R L M (by omega) (λi u a' w m=>?_) (by omega) (λi u a' w m=>?_)
     . grind
     grind
 | agg S y g _ z=>
   intro v d;cases d with
   | agg c _ C D=>
     refine .agg c y (by omega) λi u a' w m=>?_
     grind
 | cq S y g _ z=>
   intro v d;cases d with
   | cq c _ C D=>
     refine .cq c y (by omega) λi u a' w m=>?_
     grind
def OH(b:Nat)(l:ade)(σ σ':af):Prop:=∀c y,σ' c=some y->c≠b/\(σ c=some y\/∃d e,σ c=some (.cells d)/\y=.cells e/\d.length=e.length/\∀(i:Nat) a f,d[i]?=some a->e[i]?=some f->Fz b l a f)
def OH.del  b   l   σ :OH b l σ (σ.del b):=λc y h=>by
 unfold af.del at h
 simp_all
def OH.sound{k O b E l σ σ'}(h:OH b l σ σ')(t:Bn k b E l)(f:Rel k O σ)  x :Rel k (O.set b x) σ':=⟨λc y g j=>by
 obtain⟨d,h⟩:=h c y g;rcases h with h|⟨m,q,n,rfl,r,u⟩
 . obtain⟨z,o,a⟩:=f.1 c y h j
   exact⟨z,by simp[ak.set,d,o],a⟩
 . obtain⟨z,o,a⟩:=f.1 c _ n (by simp)
   cases a with
   | cells w e _ F A B=>
     refine⟨_,by simp only[ak.set,d,Rp];exact o,.cells w e q (by omega) (λi v C D p=>?_) B⟩;have s:i<m.length:=by grind
     exact(u i m[i] C (by simp[s]) p).sound t (A i v _ D (by simp[s])),λc y g j=>by
 obtain⟨d,h⟩:=h c _ g;rcases h with h|⟨m,q,_,h,_⟩
 . obtain⟨n,r⟩:=f.2 c y h j
   exact⟨by simp[ak.set,d,n],r⟩
 simp_all⟩
section
variable{P:adh}{m:Mo}
def T.Bo{Q k O g σ b l}(q:Rel k O σ)(hb:σ b=some (.cells l))(f:g.status=.running)
 (h:∀k' O',k.Le k'->(∀v a a',V k v a->Fz b l a a'->V k' v a')->(∀σ',OH b l σ σ'->Rel k' O' σ')->T P m Q k' O' g):T P m Q k O g:=by
 obtain⟨y,s,t⟩:=q.1 b _ hb (by simp);cases t with
 | cells c e _ u w x=>
   refine T.freeze (n:=c.size) s f λk' O' d o z p=>?_
   have r:Bn k' b e l:=⟨by rw[o,u],λj a A=>by
    have i:j<c.size:=by grind
    exact⟨c[j],z j _ i (by simp[i]),(w j _ a (by simp[i]) A).mono d,x j _ (by simp[i])⟩⟩
   refine h k' O' d (λv a a' B C=>C.sound r (B.mono d)) λσ' D=>?_
   rw[p];exact D.sound r (q.mono d) _
def Go.freeze{fid n ro todo K env a σ σ' D rc}  b   l  (hb:σ b=some (.cells l)) (d:∀t,Fz b l (env t) (a t)) (g:OH b l σ σ')
 (h:Go P m fid n ro todo ⟨a,σ',D,rc⟩ K):Go P m fid n ro todo ⟨env,σ,D,rc⟩ K:=by
 intro Q k O tmps defs kind cs i e j;refine T.Bo e.rel hb rfl λo p c q f=>?_
 exact h Q o p tmps defs kind cs i ⟨e.size,λt r=>q _ _ _ (e.env t r) (d t),f σ' g,e.ds.mono c,e.rc.mono c⟩ (j.mono c)
def Fz.upd{b l}{env:Env}{t a'}(h:Fz b l (env t) a')  u :Fz b l (env u) (env.upd t a' u):=by
 unfold Env.upd;split
 . simp_all
 . exact .refl _
inductive nD(KF:acJ):acJ
 |done {r:ny}{σ:af}:KF r σ->nD KF r σ
 |freeze {a a':AV}{σ σ':af}(b:Nat) (l:ade):σ b=some (.cells l)->Fz b l a a'->OH b l σ σ'->nD KF (.val a') σ'->nD KF (.val a) σ
 |pD {a a':AV}{σ:af}:a.W a'->nD KF (.val a') σ->nD KF (.val a) σ
 |less {r:ny}{σ σ':af}:σ'.Le σ->nD KF r σ'->nD KF r σ
def aA.thaw{f args σ t}(h:aA P m f args σ (nD t)):aA P m f args σ t:=by
 intro Q k O o c rest kind y z A I J
 have key:∀r i,nD t r i->∀e j g,k.Le e->Rel e j i->(match r with
  |.val a=>V e g a->T P m Q e j (jZ kind c rest g)
  |.panic a=>V e g a->T P m Q e j (G (c.raise [⟨g,false,false⟩]) rest)):=by
  intro r i B;induction B with
  |@done r σ K=>grind
  | freeze b l hb C u _ p=>
    intro e j g n q v;refine T.Bo q hb (by cases kind<;>rfl) λD E s w x=>?_
    exact p D E g (n.trans s) (x _ u) (w _ _ _ v C)
  |pD F _ p=>intro e j g n q v;exact p e j g n q (F _ _ v)
  |@less r σ i u _ p=>intro e j g n q;exact p e j g n (q.le u)
 exact h Q k O o c rest kind y z A (λe j g H i a b c d=>key _ _ d e j g a c b) (λe j g H i a b c d=>key _ _ d e j g a c b)
end
def KO(σ:af)(a:AV)(kk:Nat)(es:ade):Prop:=Fc a kk es\/∃b off cap l,a=.gS b off es.length cap/\σ b=some (.cells l)/\(∀e∈es,e.cells.length=kk)/\∀(j:Nat) x,(flatten es)[j]?=some x->l[off+j]?=some x
def cJ(σ0 σ:af)(a:AV)(kk:Nat)(es:ade):Prop:=σ0.Le σ/\((es=[]/\(a=.nil\/a=.sl kk [] .exact))\/∃b cap rest,a=.gS b 0 es.length cap/\σ0 b=none/\es.length<=cap/\(∀e∈es,e.cells.length=kk)/\σ b=some (.cells (flatten es++rest))/\rest.length=(cap-es.length)*kk)
def cJ.rd{σ0 σ a kk es}(h:cJ σ0 σ a kk es):KO σ a kk es:=by
 rcases h.2 with⟨rfl,rfl|rfl⟩|⟨b,cap,rest,rfl,_,_,c,d,_⟩
 . exact .inl (.inl ⟨rfl,rfl⟩)
 . exact .inl (.inr ⟨_,rfl⟩)
 . refine .inr ⟨b,0,cap,_,rfl,d,c,λj x e=>?_⟩
   grind
def cJ.empty  σ   kk :cJ σ σ (.sl kk [] .exact) kk []:=⟨λ_ _ h=>h,.inl ⟨rfl,.inr rfl⟩⟩
def cJ.thaw{σ0 σ a kk es e}(h:cJ σ0 σ a kk es)(d:e (.val (.sl kk es .any)) σ0):nD e (.val a) σ:=by
 rcases h.2 with⟨rfl,rfl|rfl⟩|⟨b,cap,rest,rfl,l,g,f,i,m⟩
 . exact .less h.1 (.pD (eU kk) (.done d))
 . exact .less h.1 (.pD (fS kk _ _) (.done d))
 . have n:=bL f
   refine .freeze b _ i (.sl 0 cap kk es .any g ?_ f (λj x o=>?_) (.inl rfl)) (OH.del b _ σ) (.less (λc y k=>?_) (.done d))
   . have:cap*kk=es.length*kk+(cap-es.length)*kk:=by rw[<-Nat.add_mul];simp_all
     simp_all
   . grind
   . have:c≠b:=λq=>by simp_all
     simp only[af.del,this,Rp];exact h.1 c y k
section
variable{P:adh}(L:jj P){k:au}{O:ak}{Kp:acz}
def V.Rq{v b off len cap}(h:V k v (.gS b off len cap)):v=.slice (some ⟨b,off,none⟩) len cap:=by cases h;rfl
def V.KP{v}(h:V k v .nil):v=.slice none 0 0:=by cases h;rfl
def KO.facts{σ v a kk es}(h:KO σ a kk es)(c:V k v a):∃base cap,v=.slice base es.length cap/\∀e∈es,e.cells.length=kk:=by
 rcases h with(⟨rfl,rfl⟩|⟨sp,rfl⟩)|⟨b,off,cap,l,rfl,d,f,g⟩
 . cases c;simp_all
 . rcases c.kT with⟨i,rfl,rfl,_⟩|⟨b,off,cap,N,E,rfl,j,m,n,o,_⟩
   . simp_all
   simp_all
 . cases c;simp_all
def rW{K σ v a kk es}(g:V k v a)(i:Rel k O σ)(d:KO σ a kk es)
 (m:∀c ,c.size=es.length*kk->(∀(j:Nat) u x,c[j]?=some u->(flatten es)[j]?=some x->V k u x)->(∀(j:Nat) u,c[j]?=some u->flat u=true)->K c k O):dJ P (Builtin.firstCells kk es.length v) k O K Kp:=by
 rcases d with d|⟨b,off,cap,l,rfl,n,o,p⟩
 . exact qH g d (aao _) m
 . cases g
   obtain⟨y,q,r⟩:=i.1 b _ n (by simp);cases r with
   | cells s e _ t w z=>
     unfold Builtin.firstCells loadCells;have A:=bL o;refine jo (l:=flatten es) (base:=off) (off:=0) (λj x B=>?_) (es.length*kk) 0 #[] (by omega) λvs C D E=>?_
     . have f:=p j x B
       have F:off+j<s.size:=by grind
       exact pK.own (k:=k) q t w z (off+j) x f|>.imp λv h=>by grind
     grind
end
section
variable{P:adh}(L:jj P){o:Oper}{env:Env}{σ:af}{K:acI}{Kp:acI}
def sL{s x G t t2 e e2 it W g σ0 es xs}(ho:o.op=.call ⟨.builtin .append,#[s,x],G⟩)(h0:G[0]?=some t)(N:G[1]?=some t2)(ht:L.tt t=some it)(hk:it.kind=.slice e)
 (ax:L.tt t2=some W) (ay:W.kind=.slice e2) (H:L.tt e=some g) (hb:g.bytes<=1024) (hlen:es.length+xs.length<=1073741824) (hs:cJ σ0 σ (an env s) g.size es) (hx:KO σ (an env x) g.size xs)
 (hz:(lF g.zero).cells.all AV.flat=true) (hK:∀a' σ',cJ σ0 σ' a' g.size (es++xs)->K a' σ'):aJ P o env σ K Kp:=λk O ρ p J=>by
 have A:=p s (by simp_all)
 have Q:=p x (by simp_all)
 have:execOp ρ o=(do pure (Next.value (<-Builtin.append_ G o.type #[ρ s,ρ x]))):=by simp[execOp,ho,resolve,invoke,builtin]
 rw[this];refine ag ?_;have aC:g.zero.cells.size=g.size:=by obtain⟨_,_,_,_,_,_,h⟩:=L.facts H;exact h
 obtain⟨base,cap,B,aE⟩:=hs.rd.facts A;obtain⟨aL,bB,M,aO⟩:=hx.facts Q;have w:=hs.1;unfold Builtin.append_;simp only[h0,N,abU,abM,acm];refine ag (aG L ht λd _ hd=>?_)
 rw[bQ hd hk,B];dsimp only;refine ag (bJ L H ?_);refine ag (aG L ax λd2 _ X=>?_)
 rw[bQ X ay];refine ag (ah ?_);dsimp only;simp only[LK,Rp,Bool.not_false,aan];refine ag (s:=Builtin.lenOf (ρ x)) ?_;rw[M];refine ah ?_;rw[<-M];have C:=bL aE;have b0:=bL aO
 by_cases n:es.length+xs.length<=cap
 ·
  rw[aal n];refine ag (rW Q J hx λc D b1 Y=>?_)
  rcases hs.2 with⟨rfl,m⟩|⟨b,Z,rest,m,b2,hc,_,I,E⟩
  . have c5:cap=0:=by
     rcases m with m|m
     . rw[m,B]at A;have:=A.KP;simp_all
     . rw[m,B]at A
       rcases A.kT with⟨_,q1,_,_⟩|⟨_,_,Z,_,_,q1,_,_,_,_,_,q7⟩
       . grind
       . cases q1;exact q7
    have a7:xs=[]:=by simp_all
    subst a7
    have b3:c.toList=[]:=by simp_all
    have c7:V k (.slice base 0 cap) (an env s):=by simp_all
    cases base with
    |none=>dsimp only;refine ah (ah ⟨_,.inl rfl,.here ⟨.refl k,an env s,σ,?_,J,hK _ _ ⟨w,.inl ⟨rfl,m⟩⟩⟩⟩);omega
    |some ad=>dsimp only;rw[b3];refine ag (ah ?_);refine ah (ah ⟨_,.inl rfl,.here ⟨.refl k,an env s,σ,?_,J,hK _ _ ⟨w,.inl ⟨rfl,m⟩⟩⟩⟩);omega
  . rw [m, B] at A
    have hinv:=A.Rq;simp only[Value.slice.injEq,true_and]at hinv;obtain⟨rfl,rfl⟩:=hinv;obtain⟨y,hO,hy⟩:=J.1 b _ I (by simp)
    cases hy with
    | cells cc et _ g1 g2 g3=>
      dsimp only;rw[iB]
      have R:cc.size=cap*g.size:=by rw[g1,aas,C,E,<-Nat.add_mul];grind
      have hmul:(es.length+xs.length)*g.size<=cc.size:=by rw[R];exact abc _ n
      rw[abY]at hmul;refine ag (pL c.toList 0 cc O hO (by grind) (λu hu=>?_) λO' c' b4 b5 b6=>?_)
      . obtain⟨j,hj,rfl⟩:=aaH.1 hu
        exact Y j _ (by grind)
      . have c9:xs.length*g.size<=rest.length:=by grind
        refine ah (ah ⟨_,.inl rfl,.here ⟨.refl k,.gS b 0 (es++xs).length cap,σ.set b (.cells (flatten (es++xs)++rest.drop (xs.length*g.size))),?_,?_,hK _ _ ⟨?_,.inr ⟨b,cap,rest.drop (xs.length*g.size),rfl,b2,by grind,λz hz=>?_,by simp[af.set],?_⟩⟩⟩⟩)
        . rw[show es.length+xs.length=(es++xs).length by simp]
          exact .gS ..
        . rw [b4]
          refine J.set (.cells c' et _ ?_ (λi v a p m=>?_) (λi v p=>?_))
          . rw[b5,g1,flatten_append];grind
          . rw [b6]at p
            simp only[abx,Array.length_toList,D,Nat.add_zero]at p;rw[flatten_append,abv]at m
            by_cases N:i<es.length*g.size
            . grind
            . rw[aaB (by omega),C]at m
              by_cases h2:i<es.length*g.size+xs.length*g.size
              . grind
              . rw[aaj (by omega)]at p
                rw[aaB (by omega),List.getElem?_drop]at m
                refine g2 i v a p ?_;rw[aaB (by omega),C,<-m]
                congr 1;omega
          grind
        . intro b' y hy
          have:b'≠b:=λq=>by grind
          simp[af.set,this,w b' y hy]
        . grind
        . rw[List.length_drop,E,aas,<-Nat.sub_mul];grind
 ·
  rw[aaj n]
  have a8:¬((es.length+xs.length:Nat):Int)>IntKind.i64.max:=by have:IntKind.i64.max=9223372036854775807:=rfl;omega
  refine ag (cS L H λinfo _ _ ca _=>?_)
  rw[aaj (λq=>a8 q.1)]
  refine ag (cS L H λS _ _ a9 _=>?_)
  have T:=nextslicecap_le (Nat.lt_of_not_le n)
  have U:¬(Builtin.nextslicecap (es.length+xs.length) cap*S.bytes>2 ^ 48):=by rw[a9];have N:Builtin.nextslicecap (es.length+xs.length) cap*g.bytes<=(4*(es.length+xs.length)+2000)*1024:=Nat.mul_le_mul T hb;omega
  rw[aaj U];refine ag (s:=choose _) (λt=>?_)
  have F:(Question.appendCap (es.length+xs.length) cap e).forced=false:=rfl;rw[F];simp only[LK,Rp];have b7:∃f,(Question.appendCap (es.length+xs.length) cap e).cut t=f/\es.length+xs.length<=f:=⟨_,rfl,by simp only[Question.cut];omega⟩
  obtain⟨f,ab,c6⟩:=b7;rw[ab];refine ah ?_;refine ag (cS L H λb8 _ _ _ _=>?_)
  refine ag (pM ?_);refine ag (rW (a:=an env s) (by simp_all) J hs.rd λc D b1 Y=>?_)
  refine ag (rW Q J hx λd b9 X cb=>?_)
  refine ag (cR L H ?_);have bm:=xe (k:=k) hz
  have bw:(Builtin.zeroCells g.zero.cells (f-(es.length+xs.length))).size=(f-(es.length+xs.length))*g.size:=by simp[Builtin.zeroCells,aC]
  have cg:∀(i:Nat) v,(Builtin.zeroCells g.zero.cells (f-(es.length+xs.length)))[i]?=some v->flat v=true:=by
   intro i v p;have hi:=(zA.1 p).1;simp only[Builtin.zeroCells]at p;obtain⟨cm,H⟩:=zA.1 p;simp at H;subst H
   have al:0<g.zero.cells.size:=by grind
   have hm:i % g.zero.cells.size<g.zero.cells.size:=Nat.mod_lt _ al;rw[getElem!_pos g.zero.cells _ hm];exact bm.2.2 (i % g.zero.cells.size) _ (by simp[hm])
  refine ag (jq (l:=flatten (es++xs)++List.replicate ((f-(es.length+xs.length))*g.size) .cC) J ?_ (λi v a p m=>?_) (λi v p=>?_) λr k' O' hn bA av=>ah (ah ⟨_,.inl rfl,.here ⟨bA,.gS r 0 (es++xs).length f,_,?_,av,hK _ _ ⟨λb' y hy=>?_,.inr ⟨r,f,List.replicate ((f-(es.length+xs.length))*g.size) .cC,rfl,?_,by grind,λz hz=>?_,by simp[af.set],?_⟩⟩⟩⟩))
  . simp only[Array.size_append,D,b9,bw,flatten_append,aas,C,b0,List.length_replicate]
  . rw [flatten_append,abv]at m
    rw[Array.append_assoc]at p
    by_cases N:i<es.length*g.size
    . rw[aaQ (by omega)]at m
      grind
    . rw[aaB (by omega),C]at m
      rw[abz (by omega),D]at p
      by_cases h2:i-es.length*g.size<xs.length*g.size
      . grind
      . rw[aaB (by omega)]at m
        have:=List.mem_of_getElem? m;rw[List.mem_replicate]at this;rw[this.2];exact .cC _
  . rw[Array.append_assoc]at p
    by_cases N:i<es.length*g.size
    . grind
    . rw[abz (by omega),D]at p
      grind
  . rw[show es.length+xs.length=(es++xs).length by simp];exact .gS ..
  . have N:=w b' y hy
    have:b'≠r:=λq=>by grind
    simp[af.set,this,N]
  . cases q:σ0 r with
    |none=>rfl
    |some y=>have:=w r y q;grind
  . grind
  . simp
end
def CU(env:Env)(len cap:Nat)(lo hi mx:Option adi)(l h m:Nat):Prop:=
 (match mx with|none=>m=cap|some o=>(∃kd,an env o=.lit (.int kd (m:Int)))/\m<=cap)/\
 (match hi with|none=>mx=none/\h=len|some o=>(∃kd,an env o=.lit (.int kd (h:Int)))/\h<=m)/\
 (match lo with|none=>l=0|some o=>(∃kd,an env o=.lit (.int kd (l:Int)))/\l<=h)
def CU.le{env len cap lo hi mx l h m}(hb:CU env len cap lo hi mx l h m)(a:len<=cap):l<=h/\h<=m/\m<=cap:=by
 obtain⟨b,c,d⟩:=hb
 grind
section
variable{P:adh}(L:jj P){k:au}{O:ak}{Kp:acz}
def qJ{K v kd}{z y:Nat}{c}(a:V k v (.lit (.int kd (z:Int))))(b:z<=y)(d:K z k O):dJ P (Instr.sliceBound v y c) k O K Kp:=by
 rw[dp a];unfold Instr.sliceBound;refine ag (ah ?_);dsimp only;rw[aal ⟨by omega,by omega⟩];exact ah (by simp_all)
def lI{K env ρ isSlice len cap lo hi mx l h m}(hb:CU env len cap lo hi mx l h m)
 (e:∀o,(lo=some o\/hi=some o\/mx=some o)->V k (ρ o) (an env o)) (j:K (l,h,m) k O):dJ P (Instr.sliceBounds isSlice len cap (lo.map ρ) (hi.map ρ) (mx.map ρ)) k O K Kp:=by
 obtain⟨f,g,i⟩:=hb;unfold Instr.sliceBounds
 have a:∀c,dJ P (do
  let l <-match lo.map ρ with
   |some v=>Instr.sliceBound v h c
   |none=>pure 0
  pure (l,h,m):Sem (Nat × Nat × Nat)) k O K Kp:=by
  intro c;cases lo with
  |none=>simp only at i;subst i;exact ag (ah (ah j))
  |some o=>obtain⟨⟨kd,b⟩,d⟩:=i;have:=e o (.inl rfl);rw[b]at this;exact ag (qJ this d (ah j))
 cases mx with
 | none=>
   simp only at f;subst f;refine ag (ah ?_);cases hi with
   |none=>obtain⟨_,rfl⟩:=g;exact ag (ah (a _))
   |some o=>obtain⟨⟨kd,b⟩,d⟩:=g;have:=e o (.inr (.inl rfl));rw[b]at this;exact ag (qJ this d (a _))
 | some p=>
   obtain⟨⟨s,q⟩,r⟩:=f;have n:=e p (.inr (.inr rfl));rw[q]at n;refine ag (qJ n r ?_);cases hi with
   |none=>simp_all
   |some o=>obtain⟨⟨kd,b⟩,d⟩:=g;have:=e o (.inr (.inl rfl));rw[b]at this;exact ag (qJ this d (a _))
end
def sM{kk}:∀{es}(_:∀e∈es,e.cells.length=kk)  l ,flatten (es.drop l)=(flatten es).drop (l*kk)
 |[],_,l=>by simp[flatten]
 |a::es,h,0=>by simp
 |a::es,h,l+1=>by rw[List.drop_succ_cons,sM (λe b=>h e (by simp[b])) l,flatten_cons,abY,Nat.one_mul,Nat.add_comm,<-List.drop_drop,<-h a (by simp),List.drop_left]
def sN{kk}:∀{es}(_:∀e∈es,e.cells.length=kk)  l ,flatten (es.take l)=(flatten es).take (l*kk)
 |[],_,l=>by simp[flatten]
 |a::es,h,0=>by simp[flatten]
 | a::es,h,l+1=>by
   have c:=h a (by simp);have d:(l+1)*kk=l*kk+kk:=by grind
   rw[List.take_succ_cons,flatten_cons,sN (λe b=>h e (by simp[b])) l,flatten_cons,aco,abe (l:=a.cells) (by omega)]
   simp_all
section
variable{P:adh}(L:jj P){o:Oper}{env:Env}{σ:af}{K:acI}{Kp:acI}
def nE{t x lo hi mx}(a:o.op=.slice t x lo hi mx):x∈o.op.operands/\∀y,(lo=some y\/hi=some y\/mx=some y)->y∈o.op.operands:=by simp_all
def V.KQ{k:au}{b off cap kk N E l h m:Nat}{es sp}(p:k.sh b=some (E,N))(s:off+cap*kk<=N)(g:∀e∈es,e.cells.length=kk)
 (t:∀  j  a,(flatten es)[j]?=some a->∃v,k.cell b (off+j)=some v/\V k v a/\cE.flat v=true) (u:l<=h) (w:h<=m) (x:m<=cap) (q:h<=es.length) (c:sp=.any\/(sp=.exact/\m=h)):
 V k (.slice (if m=l then some ⟨b,off,none⟩else(some (⟨b,off,none⟩:Addr)).map (·.add (l*kk))) (h-l) (m-l)) (.sl kk ((es.drop l).take (h-l)) sp):=by
 have hlen:((es.drop l).take (h-l)).length=h-l:=by simp;omega
 have d:∀e∈(es.drop l).take (h-l),e.cells.length=kk:=λe i=>g e (List.mem_of_mem_drop (abX i))
 by_cases f:m=l
 . rw[aal f]
   have r:h-l=0:=by omega
   have n:m-l=0:=by omega
   rw[r,n];have:(es.drop l).take 0=[]:=by simp
   rw[this];refine V.ofRow (kk:=kk) (es:=[]) (cap:=0) (by simp) p (by omega) (by simp) (λj a o=>by simp[flatten]at o) (by rcases c with rfl|⟨rfl,_⟩<;>simp[nz.fits])
 . rw[aaj f,aaJ,iB]
   conv=>lhs;rw[<-hlen]
   refine V.ofRow (by omega) p ?_ d (λj a o=>?_) ?_
   . have:=abc kk (show l+(m-l)<=cap by omega)
     grind
   . rw[sN (λe i=>g e (List.mem_of_mem_drop i)),sM g]at o
     grind
   . rcases c with rfl|⟨rfl,rfl⟩
     . trivial
     . show m-l=_;rw[hlen]
def rX{t e:Nat}{x lo hi it g es sp l h}(r:o.op=.slice t x lo hi none)(u:L.tt t=some it)(v:it.kind=.slice e)(w:L.tt e=some g)
 (D:an env x=.sl g.size es sp) (hb:∀cap,es.length<=cap->CU env es.length cap lo hi none l h cap) (i:h<=es.length) (y:K (.sl g.size ((es.drop l).take (h-l)) .any) σ):aJ P o env σ K Kp:=
 aJ.val (s:=λc=>Instr.sliceAt t (c x) (lo.map c) (hi.map c) none) (λc=>by simp[execOp,r]) λk O c j z=>by
  obtain⟨F,A⟩:=nE r;have B:=j x F;rw[D]at B;unfold Instr.sliceAt;refine ag (aG L u λT _ m=>?_);rw[bQ m v];dsimp only;unfold Instr.slice;refine ag (aG L u λd _ hd=>?_);rw[bQ hd v];rcases B.kT with⟨G,n,rfl,_⟩|⟨b,off,cap,N,E,n,C,H,I,J,M,U⟩
  . rw[n]
    have a:=hb 0 (by simp);have:=a.le (by simp);have p:l=0:=by omega
    have q:h=0:=by omega
    cases G<;>(
     dsimp only;refine ag (lI (mx:=none) a (λo f=>j o (A o (by simpa using f))) ?_);dsimp only;refine ag (bJ L w (ah (.here ⟨.refl k,_,σ,?_,z,y⟩)));subst p;subst q;simp only[aan,Nat.sub_zero,abQ,List.take_nil];exact .slnil _ _ _ (.inl rfl))
  . rw[n]
    dsimp only;have a:=hb cap C;obtain⟨Q,R,S⟩:=a.le C;refine ag (lI (mx:=none) a (λo f=>j o (A o (by omega))) ?_);dsimp only;refine ag (bJ L w (ah (.here ⟨.refl k,_,σ,?_,z,y⟩)));exact V.KQ H I J M Q R S i (.inl rfl)
def pQ{t e:Nat}{x lo hi mx it n es sp l h}(z:o.op=.slice t x lo hi (some mx))(A:L.tt t=some it)(B:it.kind=.slice e)(p:L.tt e=some n)
 (G:an env x=.sl n.size es sp) (hb:∀cap,es.length<=cap->CU env es.length cap lo hi (some mx) l h h) (q:h<=es.length) (r:∀a,(a=.sl n.size ((es.drop l).take (h-l)) .exact\/(es=[]/\a=.nil))->K a σ):aJ P o env σ K Kp:=
 aJ.val (s:=λg=>Instr.sliceAt t (g x) (lo.map g) (hi.map g) (some (g mx))) (λg=>by simp[execOp,z]) λk O g m u=>by
  obtain⟨H,v⟩:=nE z;have C:=m x H;rw[G]at C;unfold Instr.sliceAt;refine ag (aG L A λU _ w=>?_);rw[bQ w B];dsimp only;unfold Instr.slice;refine ag (aG L A λd _ hd=>?_);rw[bQ hd B];rcases C.kT with⟨D,y,rfl,_⟩|⟨b,off,cap,N,E,y,F,I,J,M,Q,W⟩
  . rw[y]
    have c:=hb 0 (by simp);have:=c.le (by simp);have i:l=0:=by omega
    have j:h=0:=by omega
    cases D with
    | none=>
      dsimp only;refine ag (lI (mx:=some mx) c (λo f=>m o (v o f)) ?_);dsimp only;refine ag (bJ L p (ah (.here ⟨.refl k,.nil,σ,?_,u,r _ (.inr ⟨rfl,rfl⟩)⟩)));subst i;subst j;simp only[aan,Nat.sub_zero];exact .lit _
    | some D=>
      dsimp only;refine ag (lI (mx:=some mx) c (λo f=>m o (v o f)) ?_);dsimp only;refine ag (bJ L p (ah (.here ⟨.refl k,_,σ,?_,u,r _ (.inl rfl)⟩)));subst i;subst j;simp only[aan,Nat.sub_zero,abQ,List.take_nil];exact .slnil _ _ _ (.inr ⟨rfl,rfl⟩)
  . rw[y]
    dsimp only;have c:=hb cap F;obtain⟨R,S,T⟩:=c.le F;refine ag (lI (mx:=some mx) c (λo f=>m o (v o f)) ?_);dsimp only;refine ag (bJ L p (ah (.here ⟨.refl k,_,σ,?_,u,r _ (.inl rfl)⟩)));exact V.KQ I J M Q R S T q (.inr ⟨rfl,rfl⟩)
end
section
variable{P:adh}(L:jj P){o:Oper}{env:Env}{σ:af}{K:acI}{Kp:acI}
def Bp{op}{t C e:Nat}{x y i kk es sp}(D:o.op=.binOp op t x y C)(F:L.tt t=some i)(G:i.kind=.slice e)(H:an env y=.nil)
 (I:an env x=.sl kk es sp) (j:op=.eql\/op=.neq) (J:es=[]->K (.lit (.bool (op==.eql))) σ) (r:K (.lit (.bool (op==.neq))) σ):aJ P o env σ K Kp:=
 aJ.val (s:=λg=>do eqGuard op t x y (g x) (g y);binOp op t (g x) (g y)) (λg=>by simp[execOp,D]) λk O g l M=>by
  have A:=l x (by simp_all)
  have B:=l y (by simp_all)
  rw[H]at B;rw[I]at A;have Q:g y=.slice none 0 0:=B.KP
  have m:∃a n c,g x=.slice a n c/\(a.isNone=true->es=[]):=by
   rcases A.kT with⟨W,m,h,_⟩|⟨b,off,cap,N,E,m,_⟩
   . simp_all
   simp_all
  obtain⟨a,n,c,m,X⟩:=m;rw[m,Q];have S:eqGuard op t x y (.slice a n c) (.slice none 0 0)=pure ():=by rcases j with rfl|rfl<;>simp[eqGuard]
  rw[S];refine ag (ah ?_)
  have p:∀(R:Bool->au->ak->Prop) (u:acz),R a.isNone k O->dJ P (Op.equal t (.slice a n c) (.slice none 0 0)) k O R u:=λR u T=>by
   show dJ P (Op.equalIn (9999+1) t (.slice a n c) (.slice none 0 0)) k O R u;rw[Op.equalIn];refine ag (aG L F λd _ hd=>?_)
   rw[bQ hd G];cases a<;>exact ah T
  have fin:∀b:Bool,K (.lit (.bool b)) σ->dJ P (do pure (.bool b)) k O (λv q w=>mE q w λz U=>k.Le z/\∃a f,V z v a/\Rel z U f/\K a f) (λv q w=>k.Le q/\∃a f,V q v a/\Rel q w f/\Kp a f):=λb hb=>ah (.here ⟨.refl k,_,σ,.lit _,M,hb⟩)
  rcases j with rfl|rfl
  . refine ag (s:=Op.equal t (.slice a n c) (.slice none 0 0)) (p _ _ (fin _ ?_))
    cases Y:a.isNone with
    |true=>simp_all
    |false=>exact r
  . refine ag (s:=Op.equal t (.slice a n c) (.slice none 0 0)) (p _ _ (fin (!a.isNone) ?_))
    grind
def Ii{i d}(h:dG P i d=true)(a:i.kind=.bool):d=.bool:=by cases d<;>simp_all [dG]
def zS{op}{t n:Nat}{x y i p q}(r:o.op=.binOp op t x y n)(u:L.tt t=some i)(v:i.kind=.bool)(w:an env x=.lit (.bool p))(z:an env y=.lit (.bool q)){b}(c:(op=.eql/\b=(p==q))\/(op=.neq/\b=!(p==q)))(h:K (.lit (.bool b)) σ):aJ P o env σ K Kp:=
 aJ.val (s:=λa=>do eqGuard op t x y (a x) (a y);binOp op t (a x) (a y)) (λa=>by simp[execOp,r]) λk O a e j=>by
  have l:=e x (by simp_all)
  have m:=e y (by simp_all)
  rw[w]at l;rw[z]at m;rw[rS l,rS m];have A:eqGuard op t x y (.bool p) (.bool q)=pure ():=by rcases c with⟨rfl,_⟩|⟨rfl,_⟩<;>simp[eqGuard]
  rw[A];refine ag (ah ?_)
  have f:∀(R:Bool->au->ak->Prop) (g:acz),R (p==q) k O->dJ P (Op.equal t (.bool p) (.bool q)) k O R g:=λR g B=>by
   show dJ P (Op.equalIn (9999+1) t (.bool p) (.bool q)) k O R g;rw[Op.equalIn];refine ag (aG L u λd _ hd=>?_)
   rw[Ii hd v];exact ah B
  rcases c with⟨rfl,rfl⟩|⟨rfl,rfl⟩
  . exact ag (s:=Op.equal t (.bool p) (.bool q)) (f _ _ (ah (.here ⟨.refl k,_,σ,.lit _,j,h⟩)))
  . exact ag (s:=Op.equal t (.bool p) (.bool q)) (f _ _ (ah (.here ⟨.refl k,_,σ,.lit _,j,h⟩)))
end
inductive vW{α:Sort _}(a:α):Type
 |mk
def zg{α:Type}(x:Option α)(K:α->Prop)(u:vW K:=.mk):Prop:=∃a,x=some a/\K a
@[simp] theorem Ij{α a}{K:α->Prop}{u}:zg (some a) K u=K a:=by simp[zg]
@[simp] theorem Ik{α K u}:zg (none:Option α) K u=False:=by simp[zg]
@[simp] theorem sO{α β f}{x:Option α}{K:β->Prop}{u}:zg (x.map f) K u=zg x (λa=>K (f a)):=by cases x<;>simp
def vr(x:Bool)(A B:Prop)(u:vW A:=.mk)(v:vW B:=.mk):Prop:=(x=true->A)/\(x=false->B)
@[simp] theorem ov{A B u v}:vr true A B u v=A:=by simp[vr]
@[simp] theorem mH{A B u v}:vr false A B u v=B:=by simp[vr]
def We(σ:af)(F:acT)(u:vW F:=.mk):Prop:=∀b,σ b=none->F b
section
variable{P:adh}(L:jj P){o:Oper}{env:Env}{σ:af}{K:acI}{Kp:acI}
def uv{x}{q t:Nat}{i}(z:o.op=.typeAssert x q t true)(r:L.tt t=some i)(A:i.kind≠.iface)(B:an env x=.lit .nilIface)
 (C:K (.cq [lF i.zero,.lit (.bool false)]) σ):aJ P o env σ K Kp:=
 aJ.val (s:=λl=>Instr.typeAssert (l x) q t true) (λl=>by simp[execOp,z]) λk O l m D=>by
  have f:=m x (by simp_all);rw[B]at f;generalize l x=v at f;cases f;unfold Instr.typeAssert;refine ag (aG L r λdd _ hd=>?_);have E:∀ms,dd≠.interface ms:=λms e=>by subst e;simp[dG]at hd;exact A hd
  have pair:∀{u:Value}{b:Bool}{a:AV},V k u a->V k (.tuple #[u,.bool b]) (.cq [a,.lit (.bool b)]):=λ{u b a} h=>.cq _ _ rfl λj w c f y=>by
   match j with
   |0=>simp_all
   |1=>simp at f y;subst f;subst y;exact .lit _
   |j+2=>simp at f
  have fin:dJ P ((do pure (.tuple #[<-zeroValue t,.bool false]):Sem Value)) k O (λv g n=>mE g n λp F=>k.Le p/\∃a d,V p v a/\Rel p F d/\K a d) (λv g n=>k.Le g/\∃a d,V g v a/\Rel g n d/\Kp a d):=ag (cR L r (ah (.here ⟨.refl k,_,σ,pair (.lF k _),D,C⟩)))
  simp_all
end
def OX(a:TI)(len:Nat)(parts:List (Nat × AV)):Bool:=decide (len*a.size<=16777216) && (lF a.zero).cells.all AV.flat && (decide (len*a.size=0)||decide ((lF a.zero).cells.length=a.size)) && (parts.map (·.1)==List.range len) && parts.all λp=>decide (p.2.cells.length=a.size) && p.2.cells.all AV.flat
def vt{size}:∀  parts   l   s ,(parts.map (·.1)=List.range' s parts.length)->(∀p∈parts,p.2.cells.length=size/\p.2.cells.all AV.flat=true)->(s+parts.length)*size=l.length ->
 kN (λj=>some (j*size,size)) l parts=some (l.take (s*size)++flatten (parts.map (·.2)))
 |[],l,s,_,_,c=>by simp[kN,flatten]at c ⊢;simp_all
 | (i,a)::parts,l,s,d,g,c=>by
   simp only[ack,aaI,List.range'_succ,List.cons.injEq]at d;obtain⟨rfl,d⟩:=d;obtain⟨h,k⟩:=g (i,a) (by simp);simp only[aaI]at c;have e:i*size+size<=l.length:=by grind
   have b:i*size+a.cells.length<=l.length:=by simp_all
   simp only[kN];rw[aal ⟨h,e,k⟩];rw[vt parts (aK l (i*size) a.cells) (i+1) d (λp f=>g p (by simp[f])) (by rw[m7 b,<-c];grind)];congr 1;rw[ack,flatten_cons,<-List.append_assoc];congr 1;have:(i+1)*size=i*size+a.cells.length:=by grind
   rw[this];unfold aK;rw[abv,aco,aco];have m:(List.take (i*size) l).length=i*size:=by grind
   rw[m,abe (by omega)];congr 1;have n:i*size+a.cells.length-i*size=a.cells.length:=by omega
   grind
section
variable{P:adh}(L:jj P)
def Ff{o env σ K Kp t len e parts it a}(f:o.op=.buildSlice t len parts)(g:L.tt t=some it)(i:it.kind=.slice e)(j:L.tt e=some a)
 (h:OX a len (parts.toList.map λp=>(p.1,an env p.2))=true) (k:K (.sl a.size (parts.toList.map λp=>an env p.2) .exact) σ):aJ P o env σ K Kp:=by
 simp only[OX,zj,abZ,aap,List.map_map,abu,KD]at h;obtain⟨⟨⟨⟨l,r⟩,m⟩,d⟩,n⟩:=h;have hlen:parts.toList.length=len:=by have:=congrArg List.length d;grind
 have b:∀p∈(parts.toList.map λp=>(p.1,an env p.2)),p.2.cells.length=a.size/\p.2.cells.all AV.flat=true:=λp c=>⟨(n p c).1,by grind⟩
 refine zf L f g i j l (by grind) m (es:=parts.toList.map λp=>an env p.2) ⟨by grind,λx q=>?_⟩ ?_ k
 . obtain⟨p,c,rfl⟩:=aaA.1 q
   exact(b (p.1,an env p.2) (aaA.2 ⟨p,c,rfl⟩)).1
 . rw[vt (size:=a.size) _ _ 0 (by rw[List.map_map,d,aaC,hlen,abC]) b (by grind)]
   simp[Function.comp_def]
inductive Out where
 |ok (a:AV) (σ:af)
 |no
 |iC (p:Prop) (x:Out)
 |new (σ:af) (c:ade)
 |panic (v:AV) (σ:af)
def Out.opt(x:acV)(σ:af):Out:=match x with|some a=>.ok a σ|none=>.no
def rY(x:Out)(K Kp:acI)(u:vW K:=.mk)(v:vW Kp:=.mk):Prop:=
 match x with
 |.ok a σ=>K a σ
 |.no=>False
 |.iC p x=>p/\rY x K Kp u v
 |.new σ c=>We σ λb=>K (.ref b 0) (σ.set b (.cells c))
 |.panic v σ=>Kp v σ
section
variable{K Kp:acI}{u:vW K}{v:vW Kp}
@[simp] theorem V2{a σ}:rY (.ok a σ) K Kp u v=K a σ:=propext aaE
@[simp] theorem V3:rY .no K Kp u v=False:=propext aaE
@[simp] theorem nF{p x}:rY (.iC p x) K Kp u v=(p/\rY x K Kp):=propext aaE
@[simp] theorem iD{x σ}:rY (.opt x σ) K Kp u v=zg x (λa=>K a σ):=by cases x<;>simp[Out.opt]
end
def Fg(op:BinOp)(kd:IntKind)(a b:Int)(σ:af):Out:=
 match op,kd with
 |.add,.i64=>.iC (fits (a+b)) (.ok (.lit (.int .i64 (a+b))) σ)
 |.sub,.i64=>.iC (fits (a-b)) (.ok (.lit (.int .i64 (a-b))) σ)
 |.mul,.i64=>.iC (fits (a*b)) (.ok (.lit (.int .i64 (a*b))) σ)
 |.eql,_=>.ok (.lit (.bool (a==b))) σ
 |.neq,_=>.ok (.lit (.bool (a !=b))) σ
 |.lss,_=>.ok (.lit (.bool (decide (a<b)))) σ
 |.leq,_=>.ok (.lit (.bool (decide (a<=b)))) σ
 |.gtr,_=>.ok (.lit (.bool (decide (a>b)))) σ
 |.geq,_=>.ok (.lit (.bool (decide (a>=b)))) σ
 |.shl,_=>.iC (0<=b) (.ok (.lit (.int kd (kd.wrap (a*2 ^ (min b.toNat kd.bits))))) σ)
 |.shr,_=>.iC (0<=b) (.ok (.lit (.int kd (a.fdiv (2 ^ (min b.toNat kd.bits))))) σ)
 |op,kd=>.opt ((pz op kd a b).map .lit) σ
def KR{op kd a b σ K Kp}(h:rY (Fg op kd a b σ) K Kp):rU op kd a b λv=>K (.lit v) σ:=by
 have key:∀x:acK,rY (.opt (x.map .lit) σ) K Kp->∃v,x=some v/\K (.lit v) σ:=λx h=>by rw[iD,sO]at h;exact h
 cases op<;>first|exact key _ h|exact h|(cases kd<;>first|exact h|exact key _ h)
def Bq(mu:acY)(o:Oper)(env:Env)(σ:af):Out:=
 match o.op with
 |.move x=>.ok (an env x) σ
 |.assign x=>.ok (an env x) σ
 | .pick c a b=>match an env c with
   |.lit (.bool x)=>.ok (if x then an env a else an env b) σ
   |_=>.no
 | .alloc t=>match L.tt t with
   |some i=>.iC ((lF i.zero).cells.all AV.flat=true) (.new σ (lF i.zero).cells)
   |none=>.no
 |.box _ x=>.iC ((an env x).cells.all AV.flat=true) (if(match o.dst with|some d=>mu.contains d|none=>false)=true then .new σ (an env x).cells else .ok (.cp (an env x) 0) σ)
 | .load t p=>match L.tt t with
   |some i=>.opt (rq i σ (an env p)) σ
   |none=>.no
 | .store t p x=>match L.tt t with
   |some i=>(match rR i σ (an env p) (an env x)with|some n=>.ok (.lit undef) n|none=>.no)
   |none=>.no
 | .fieldAddr s x j=>match L.tt s with
   | some ⟨.struct,_,_,_,jO⟩=>(match jO[j]? with
     |some f=>.iC (f.2.1≠0) (.opt (sA (an env x) f.1) σ)
     |none=>.no)
   |_=>.no
 | .field s x j=>match L.tt s,an env x with
   | some ⟨.struct,_,_,_,jO⟩,.agg l=>(match jO[j]? with
     |some f=>(match L.tt f.2.2 with|some q=>.opt (cN l f.1 q.size q.agg) σ|none=>.no)
     |none=>.no)
   |_,_=>.no
 | .indexAddr t x m=>match L.tt t with
   | some ⟨.slice e,_,_,_,_⟩=>(match L.tt e,an env x,an env m with
     |some g,.sl u es _,.lit (.int _ z)=>.iC (u=g.size/\0<=z) (.opt ((es[z.toNat]?).map λa=>.cp a 0) σ)
     |some g,.gS b off len _,.lit (.int _ z)=>.iC (0<=z/\z<len) (.ok (.ref b (off+z.toNat*g.size)) σ)
     |_,_,_=>.no)
   | some ⟨.array k e,_,_,_,_⟩=>(match L.tt e,an env m with
     |some g,.lit (.int _ z)=>.iC (0<=z/\z<k) (.opt (sA (an env x) (z.toNat*g.size)) σ)
     |_,_=>.no)
   |_=>.no
 | .index t x m=>match L.tt t with
   | some ⟨.array k e,_,_,_,_⟩=>(match L.tt e,an env x,an env m with
     |some g,.agg l,.lit (.int _ z)=>.iC (0<=z/\z<k) (.opt (cN l (z.toNat*g.size) g.size g.agg) σ)
     |_,_,_=>.no)
   |_=>.no
 | .binOp op t x y _=>match an env x,an env y with
   | .lit (.bool a),.lit (.bool b)=>(match L.tt t with
     | some ⟨.bool,_,_,_,_⟩=>(match op with
       |.eql=>.ok (.lit (.bool (a==b))) σ
       |.neq=>.ok (.lit (.bool (!(a==b)))) σ
       |_=>.no)
     |_=>.no)
   |.lit (.int kd a),.lit (.int h b)=>.iC (kd=h\/op=.shl\/op=.shr) (if(match o.dst with|some d=>mu.contains d|none=>false)=true then .opt ((pz op kd a b).map .lit) σ else Fg op kd a b σ)
   |_,_=>.no
 | .unOp .not _ x=>match an env x with
   |.lit (.bool b)=>.ok (.lit (.bool !b)) σ
   |_=>.no
 | .convert _ t x=>match L.tt t,an env x with
   |some ⟨.int kd,_,_,_,_⟩,.lit (.int _ a)=>.ok (.lit (.int kd (kd.wrap a))) σ
   |_,_=>.no
 | .makeInterface t x=>match L.tt t with
   |some i=>.iC (i.kind≠.iface) (.ok (.lE t (an env x)) σ)
   |none=>.no
 |.makeFunc f fs cs=>.ok (.fn f (fs.toList.map (an env)) (cs.toList.map (an env))) σ
 | .extract x j=>match an env x with
   |.cq l=>.opt (l[j]?) σ
   |_=>.no
 | .typeAssert x _ t true=>match L.tt t,an env x with
   |some i,.lE d y=>.iC (i.kind≠.iface) (.ok (if d=t then .cq [y,.lit (.bool true)]else .cq [lF i.zero,.lit (.bool false)]) σ)
   |some i,.lit .nilIface=>.iC (i.kind≠.iface) (.ok (.cq [lF i.zero,.lit (.bool false)]) σ)
   |_,_=>.no
 |.nilCheck x=>match an env x with|.cp v off=>.ok (.cp v off) σ|.ref b off=>.ok (.ref b off) σ|.kp b l hole off=>.ok (.kp b l hole off) σ|.fn (.func f) l r=>.ok (.fn (.func f) l r) σ|_=>.no
 | .panic x=>match an env x with
   |.lE t y=>.panic (.lE t y) σ
   |_=>.no
 | .build t parts=>match L.tt t with
   |some i=>.iC (i.kind=.struct/\(lF i.zero).cells.all AV.flat=true) (.opt ((kN (λj=>(i.jO[j]?).map λx=>(x.1,x.2.1)) (lF i.zero).cells (parts.toList.map λp=>(p.1,an env p.2))).map .agg) σ)
   |none=>.no
 | .buildSlice t len parts=>match L.tt t with
   | some ⟨.slice e,_,_,_,_⟩=>(match L.tt e with
     |some g=>.iC (OX g len (parts.toList.map λp=>(p.1,an env p.2))=true) (.ok (.sl g.size (parts.toList.map λp=>an env p.2) .exact) σ)
     |none=>.no)
   |_=>.no
 | .call c=>match c.callee,c.args.toList with
   | .builtin .len,[x]=>(match an env x with
     |.sl _ es _=>.ok (.lit (.int .i64 es.length)) σ
     |.lit (.slice none 0 0)=>.ok (.lit (.int .i64 0)) σ
     |.gS _ _ len _=>.ok (.lit (.int .i64 len)) σ
     |_=>.no)
   | .builtin .min,[x,y]=>(match an env x,an env y with
     |.lit (.int kd a),.lit (.int h b)=>.iC (kd=h) (.ok (.lit (.int kd (if b<a then b else a))) σ)
     |_,_=>.no)
   | .builtin .max,[x,y]=>(match an env x,an env y with
     |.lit (.int kd a),.lit (.int h b)=>.iC (kd=h) (.ok (.lit (.int kd (if b>a then b else a))) σ)
     |_,_=>.no)
   |_,_=>.no
 |_=>.no
def pR(o:Oper):Bool:=
 match o.op with
 |.buildSlice t _ _=>match L.tt t with|some ⟨.slice _,_,_,_,_⟩=>true|_=>false
 |.binOp _ t _ _ _=>match L.tt t with|some ⟨.int _,_,_,_,_⟩=>true|some ⟨.bool,_,_,_,_⟩=>true|_=>false
 |_=>sG L o
def xm{mu o env σ K Kp}(A:pR L o=true)(h:rY (Bq L mu o env σ) K Kp):aJ P o env σ K Kp:=by
 unfold Bq at h;unfold pR sG at A;split at h
 . next x g=>exact wq (.inl g) h
 . next x g=>exact wq (.inr g) h
 . next c a b g=>
   split at h
   . next x m=>exact G5 g m h
   . exact h.elim
 . next t g=>
   split at h
   . next i w=>exact CD L g w h.1 h.2
   . exact h.elim
 . next t x g=>
   obtain⟨B,C⟩:=h;generalize (match o.dst with|some d=>mu.contains d|none=>false)=q at C;cases q
   . exact KC g B C
   . exact wY g B C
 . next t p g=>
   split at h
   . next i w=>rw[iD]at h;obtain⟨a,B,C⟩:=h;exact Bf L g w B C
   . exact h.elim
 . next t p x g=>
   split at h
   . next i w=>
     split at h
     . next Z B=>exact CC L g w B h
     . exact h.elim
   . exact h.elim
 . next s x j g=>
   split at h
   . next I J M jO w=>
     split at h
     . next f U=>rw[nF,iD]at h;obtain⟨B,a,C,S⟩:=h;exact sB L g w rfl U B C S
     . exact h.elim
   . exact h.elim
 . next s x j g=>
   split at h
   . next I J M jO l w m=>
     split at h
     . next f U=>
       split at h
       . next fi V=>rw[iD]at h;obtain⟨a,B,C⟩:=h;exact CE L g w rfl U V m B C
       . exact h.elim
     . exact h.elim
   . exact h.elim
 . next t x ix g=>
   split at h
   . next e I J M N w=>
     split at h
     . next T kk es sp kd z F m D=>rw[nF,iD,sO]at h;obtain⟨⟨rfl,G⟩,a,B,C⟩:=h;exact wZ L g w rfl F m D G B C
     . next T b off len cap kd z F m D=>exact vo L g w rfl F m D h.1 h.2
     . exact h.elim
   . next k e I J M N w=>
     split at h
     . next T kd z F D=>rw[nF,iD]at h;obtain⟨G,a,B,C⟩:=h;exact vn L g w rfl F D G B C
     . exact h.elim
   . exact h.elim
 . next t x ix g=>
   split at h
   . next k e I J M N w=>
     split at h
     . next T l kd z F m D=>rw[nF,iD]at h;obtain⟨G,a,B,C⟩:=h;exact CG L g w rfl F m D G B C
     . exact h.elim
   . exact h.elim
 . next op t x y t2 g=>
   split at h
   . next a b m u=>
     split at h
     . next I J M N E=>
       split at h
       . exact zS L g E rfl m u (.inl ⟨rfl,rfl⟩) h
       . exact zS L g E rfl m u (.inr ⟨rfl,rfl⟩) h
       . exact h.elim
     . exact h.elim
   . next kd a H b m u=>
     obtain⟨a7,h⟩:=h;have n:(op≠.shl/\op≠.shr)->H=kd:=λhh=>by simp_all
     generalize (match o.dst with|some d=>mu.contains d|none=>false)=q at h;cases q with
     | true=>
       simp only[aan,iD,sO]at h;obtain⟨v,R,W⟩:=h;rw[n ⟨(λe=>by subst e;cases R),(λe=>by subst e;cases R)⟩]at u;exact cY g m u R W
     |false=>
     simp only[LK,Rp]at h;have h:=KR h;unfold rU at h;split at h
     . rw[n (by simp)]at u;exact nB g m u (.inl ⟨rfl,rfl⟩) h.1 h.2
     . rw[n (by simp)]at u;exact nB g m u (.inr (.inl ⟨rfl,rfl⟩)) h.1 h.2
     . rw[n (by simp)]at u;exact nB g m u (.inr (.inr ⟨rfl,rfl⟩)) h.1 h.2
     . rw[n (by simp)]at u;exact cY g m u rfl h
     . rw[n (by simp)]at u;exact cY g m u rfl h
     . rw[n (by simp)]at u;exact cY g m u rfl h
     . rw[n (by simp)]at u;exact cY g m u rfl h
     . rw[n (by simp)]at u;exact cY g m u rfl h
     . rw[n (by simp)]at u;exact cY g m u rfl h
     . exact sC g m u h.1 (.inl ⟨rfl,rfl⟩) h.2
     . exact sC g m u h.1 (.inr ⟨rfl,rfl⟩) h.2
     . next B C S Y h5 h6 h7 h8 h9 a8 a9=>
       obtain⟨v,R,W⟩:=h;rw[n ⟨λe=>by simp_all,λe=>by simp_all⟩]at u;exact cY g m u R W
   . exact h.elim
 . next t x g=>
   split at h
   . next b m=>exact KI g m h
   . exact h.elim
 . next s t x g=>
   simp only[g]at A;split at h
   . next kd I J M N H a E m=>
     split at A
     . next ks b1 b2 b3 b4 kt c1 c2 c3 c4 hs X=>rw[E]at X;exact xa L g hs E rfl rfl m h
     . cases A
   . exact h.elim
 . next t x g=>
   split at h
   . next i w=>exact nC L g w h.1 h.2
   . exact h.elim
 . next f fs cs g=>exact vp g h
 . next x j g=>
   split at h
   . next l m=>rw[iD]at h;obtain⟨a,B,C⟩:=h;exact xc g m B C
   . exact h.elim
 . next x xt t g=>
   split at h
   . next i d y w m=>exact ru L g w h.1 m h.2
   . next i w m=>exact uv L g w h.1 m h.2
   . exact h.elim
 . next x g=>
   split at h
   . next v off m=>exact fC g (.inl ⟨_,_,m⟩) (by simp_all)
   . next b off m=>exact fC g (.inr (.inl ⟨_,_,m⟩)) (by simp_all)
   . next b l hole off m=>exact fC g (.inr (.inr (.inr ⟨_,_,_,_,m⟩))) (by simp_all)
   . next f l r m=>exact fC g (.inr (.inr (.inl ⟨_,_,_,m⟩))) (by simp_all)
   . exact h.elim
 . next x g=>
   split at h
   . next t y m=>exact CH g m h
   . exact h.elim
 . next t parts g=>
   split at h
   . next i w=>rw[nF,iD,sO]at h;obtain⟨⟨B,C⟩,l,S,Y⟩:=h;exact CJ L g w B C S Y
   . exact h.elim
 . next t len parts g=>
   split at h
   . next e I J M N E=>
     split at h
     . next T F=>exact Ff L g E rfl F h.1 h.2
     . exact h.elim
   . exact h.elim
 . next c g=>
   simp only[g]at A;split at h
   . next x O Q=>
     simp only[O,Q]at A;have e:=lg O Q;split at A
     . next t G=>
       split at A
       . next e' I J M N E=>
         rw[e]at g;split at h
         . next kk es sp m=>exact Bg L g G E rfl (.inl m) h
         . next m=>exact Bg L (kk:=0) (sp:=.any) (es:=[]) g G E rfl (.inr ⟨m,rfl⟩) h
         . next b off len cap m=>exact zO L g G E rfl m h
         . exact h.elim
       . cases A
     . cases A
   . next x y O Q=>
     rw[lg O Q]at g;split at h
     . next kd a H b m u=>obtain⟨rfl,h⟩:=h;exact qG g m u (.inl ⟨rfl,rfl⟩) h
     . exact h.elim
   . next x y O Q=>
     rw[lg O Q]at g;split at h
     . next kd a H b m u=>obtain⟨rfl,h⟩:=h;exact qG g m u (.inr ⟨rfl,rfl⟩) h
     . exact h.elim
   . exact h.elim
 . exact h.elim
end
def kU(pl:List Entry):Code->Bool
 |.seq a b=>kU pl a && kU pl b
 |.block _ c=>kU pl c
 |.scope c=>kU pl c
 |.cond _ a b=>kU pl a && kU pl b
 |.loop c=>kU pl c
 |.rangeFunc _ _ a c=>kU pl a && kU pl c
 |.region id ops true=>match pl.find? λe=>e.id==id with|some e=>sK ops e|none=>true
 |_=>true
def jL(pl:List Entry)(todo:acU):Bool:=todo.all fun|.code c=>kU pl c|_=>true
def KS{pl id k k'}(h:exitTo id k=some k')(a:jL pl k=true):jL pl k'=true:=by unfold jL at a ⊢;rw[aap]at a ⊢;exact λx b=>a x (ry h x b)
def aa(P:adh)(m:Mo)(fid n:Nat)(ro:acQ)(hold:List Entry)(todo:acU)(s:St)(K:acG):Prop:=jL hold todo=true->Go P m fid n ro todo s K
def xn(ops:acP)(n:Nat)(env:Env)(o:Oper):Option Bool:=
 match o.guard with
 |none=>some true
 | some (j,b)=>match (ops[j]?).bind (·.dst)with
   | some d=>if d<n then(match env d with
     |.lit (.bool x)=>some (if b then x else !x)
     |.lit (.tuple _)=>some false
     |_=>none)else none
   |none=>none
def Il(x:Option Bool)(A B:Prop)(u:vW A:=.mk)(v:vW B:=.mk):Prop:=match x with|some b=>vr b A B u v|none=>False
@[simp] theorem nG{b A B u v}:Il (some b) A B u v=vr b A B:=propext aaE
@[simp] theorem TP{A B u v}:Il none A B u v=False:=propext aaE
def xp{ops n env o go no go' a u v}(f:go->go')(g:no->a)(h:Il (xn ops n env o) go no u v):rV ops n env o go' a:=by
 unfold xn at h;unfold rV;cases i:o.guard with
 |none=>simp_all
 | some p=>
   obtain⟨j,b⟩:=p;rw[i]at h;simp only at h ⊢;cases hd:(ops[j]?).bind (·.dst)with
   |none=>simp_all
   | some d=>
     rw[hd]at h;simp only at h ⊢;by_cases c:d<n
     . rw [aal c]at h
       refine⟨c,?_⟩;split at h
       . next x k=>
         simp only[k];refine⟨λe=>?_,λe=>?_⟩
         . simp_all
         . cases x<;>cases b<;>simp at e
           . simp_all
           simp_all
       . simp_all
       simp_all
     simp_all
def zT{ops n env o go no u v}(h:Il (xn ops n env o) go no u v):
 (bY ops n env o/\go)\/∃j b x d a,o.guard=some (j,b)/\ops[j]?=some a/\a.dst=some d/\d<n/\env d=.lit x/\TD x b/\no:=
 sH (xp id id h)
section
variable{P:adh}{m:Mo}{fid n:Nat}{ro:acQ}{D:List zd}{rc:Rec}{K:acG}{k:acU}{ops:acP}
def Go.TR{Kp i is env σ}(A:∀v env σ,Kp v σ->K (.panic v) ⟨env,σ,D,rc⟩)
 (h:cT P m ops n Kp [i] env σ (λenv σ=>Go P m fid n ro (.inRegion ops is::k) ⟨env,σ,D,rc⟩ K)):Go P m fid n ro (.inRegion ops (i::is)::k) ⟨env,σ,D,rc⟩ K:=by
 obtain⟨o,l,f,h⟩:=h;rcases h with⟨w,h⟩|⟨⟨j,b,x,d,Q,B,C,hd,p,E,q⟩,h⟩
 . rcases h with⟨fo,args,F,s,t⟩|⟨s,t⟩
   . refine .call l s w f (t.mono λr c G=>?_)
     cases r with
     |val a=>exact G
     |panic v=>simp_all
   . refine .op l w f s ?_
     intro H O I u J;refine jm _ (t H O I u J) (λ_ _ _ ⟨v,L,M,N,g,e,a,c,x,y,z⟩=>⟨v,L,M,N,g,e,a,c,x,y,z⟩) (λ_ _ _ ⟨e,a,c,x,y,z⟩=>⟨e,a,c,x,y,A _ _ _ z⟩)
 . exact .unwanted l B C hd p E q h
end
section
variable{P:adh}(L:jj P)
def Fh(mu:acY)(lt:Bool)(o:Oper)(env:Env)(σ:af):acV:=
 match o.op with
 |.load t p=>if lt then(match L.tt t with|some i=>rq i σ (an env p)|none=>none)else vV L mu o env
 |_=>vV L mu o env
def Br(mu:acY)(ops:acP)(n:Nat)(lt:Bool)(σ:af)(K:Env->Prop)(u:vW K:=.mk):acY->Env->Prop
 |[],env=>K env
 | i::S,env=>match ops[i]? with
   |some o=>(Oper.ok n o && o.dst.isSome)=true/\Il (xn ops n env o) (zg (Fh L mu lt o env σ) λa=>Br mu ops n lt σ K u S (bg env o.dst a)) (Br mu ops n lt σ K u S (bg env o.dst (.lit (.tuple #[]))))
   |none=>False
def Fi{mu lt o env σ a}(h:Fh L mu lt o env σ=some a):vV L mu o env=some a\/(vV L mu o env=none/\lt=true/\xk L o env σ=some a):=by
 unfold Fh at h;split at h
 . next t p d=>
   cases lt
   . grind
   . simp only[aan]at h
     split at h
     . next i e=>
       have f:xk L o env σ=some a:=by simp_all
       cases b:vV L mu o env with
       |none=>grind
       | some g=>
         left;unfold vV at b;simp only[d,e]at b;split at b
         . next j v off c k=>
           cases c
           simp_all
         . simp_all
         . cases b
     . cases h
 grind
def nH{mu ops n lt σ K u}:∀{S env},Br L mu ops n lt σ K u S env->jH L mu ops n lt σ S env K
 |[],env,h=>h
 | i :: S,env,h=>by
   unfold Br at h;unfold jH;split at h
   . next o e=>
     try simp only[e]
     obtain⟨b,f⟩:=h;rw[zj]at b;refine⟨b.1,b.2,?_⟩
     have main:(zg (Fh L mu lt o env σ) λa=>Br L mu ops n lt σ K u S (bg env o.dst a))->(match vV L mu o env with
      |some a=>jH L mu ops n lt σ S (bg env o.dst a) K
      | none=>lt=true/\(match xk L o env σ with
        |some a=>jH L mu ops n lt σ S (bg env o.dst a) K
        |none=>False)):=by
      rintro⟨a,g,d⟩;rcases Fi L g with h|⟨h,j,c⟩
      . simp only[h];exact nH d
      . simp only[h,c];exact⟨j,nH d⟩
     exact xp main nH f
   simp_all
def vu:Op->Bool
 |.defer _|.go _|.send _ _|.recv _ _ _|.select _ _=>false
 |.call c=>match c.callee with|.builtin .recover=>false|.builtin .close=>false|.invoke _ _=>false|_=>true
 |_=>true
def OY(m:Mo)(o:Oper)(env:Env)(σ:af)(R:acI)(Kp:acI):Prop:=
 match o.op with
 |.call ⟨.value fo,args,_⟩=>bK P m (an env fo) (args.toList.map (an env)) σ λr b=>match r with|.val a=>R a b|.panic v=>Kp v b
 |_=>aJ P o env σ R Kp
def G6{m o env σ R Kp}(b:vu o.op=true)(h:OY (P:=P) m o env σ R Kp):OW P m o env σ R Kp:=by
 unfold OY at h;split at h
 . next fo args a d=>exact .inl ⟨fo,args,a,d,h⟩
 . exact .inr ⟨(λc e=>by rw[e]at b;cases b),h⟩
def aM(P:adh)(m:Mo)(ops:acP)(n:Nat)(Kp:acI)(p:ot)(env:Env)(σ:af)(R:acH):Prop:=iR P m ops n Kp p env σ R
def OZ(m:Mo)(mu:acY)(ops:acP)(n:Nat)(Kp:acI)(i:Nat)(p:ot)(env:Env)(σ:af)(go:acH)(R:acH)(u:vW go:=.mk):Prop:=
 match ops[i]? with
 | some o=>Oper.ok n o=true/\Il (xn ops n env o) (if pR L o=true then rY (Bq L mu o env σ) (λa b=>go (bg env o.dst a) b) Kp else
    if vu o.op=true then OY (P:=P) m o env σ (λa b=>aM P m ops n Kp p (bg env o.dst a) b R) Kp else ju P m ops n Kp i env σ (λenv σ=>aM P m ops n Kp p env σ R)) (go (bg env o.dst (.lit (.tuple #[]))) σ)
 |none=>False
def iq(m:Mo)(mu:acY)(ops:acP)(n:Nat)(Kp:acI):ot->Env->af->acH->Prop
 |.done,env,σ,R=>R env σ
 |.take S lt p,env,σ,R=>Br L mu ops n lt σ (λa=>iq m mu ops n Kp p a σ R) .mk S env
 |.one i p,env,σ,R=>OZ L m mu ops n Kp i p env σ (λenv σ=>iq m mu ops n Kp p env σ R) R
 |.both i p q,env,σ,R=>OZ L m mu ops n Kp i p env σ (λenv σ=>iq m mu ops n Kp p env σ R) R/\iq m mu ops n Kp q env σ R
def uw{m mu ops n Kp p R}(r:∀{env σ},iq L m mu ops n Kp p env σ R->iR P m ops n Kp p env σ R){i env σ}
 (h:OZ L m mu ops n Kp i p env σ (λenv σ=>iq L m mu ops n Kp p env σ R) R):ju P m ops n Kp i env σ (λenv σ=>iR P m ops n Kp p env σ R):=by
 unfold OZ at h;split at h
 . next o g=>
   obtain⟨d,h⟩:=h;rcases zT h with⟨s,h⟩|⟨j,b,x,t,u,v,w,k,l,y,q,h⟩
   . split at h
     . next f=>
       refine⟨o,g,d,.inl ⟨s,.inr ⟨λc e=>?_,(xm L f h).mono λa z=>r⟩⟩⟩;unfold pR sG at f;simp_all
     . split at h
       . next A=>exact⟨o,g,d,.inl ⟨s,G6 A h⟩⟩
       . exact h
   . exact⟨o,g,d,.inr ⟨⟨j,b,x,t,u,v,w,k,l,y,q⟩,r h⟩⟩
 . exact h.elim
def iR.iq{m:Mo}(mu:acY){ops:acP}{n:Nat}{Kp:acI}{R:acH}:∀{p:ot}{env:Env}{σ:af},iq L m mu ops n Kp p env σ R->iR P m ops n Kp p env σ R
 |.done,_,_,h=>.done h
 |.take S lt p,_,_,h=>iR.take L mu (jH.mono L (λa h=>iR.iq mu h) (nH L h))
 |.one i p,_,_,h=>iR.one (uw L (iR.iq mu) h)
 |.both i p q,_,_,h=>iR.both (uw L (iR.iq mu) h.1) (iR.iq mu h.2)
def aM.go{m}  mu  {ops n Kp R p env σ}(h:iq L m mu ops n Kp p env σ R):aM P m ops n Kp p env σ R:=iR.iq L mu h
def bD(m:Mo)(fid n:Nat)(ro:acQ)(mu:acY)(hold:List Entry):Nat->acU->St->acG->Prop
 |0,todo,s,K=>aa P m fid n ro hold todo s K
 | f + 1,todo,s,K=>match todo with
   |[]=>K (.leave none) s
   |.code .ret::_=>K (.leave (some .ret)) s
   |.code .skip::k=>bD m fid n ro mu hold f k s K
   |.code (.label _)::k=>bD m fid n ro mu hold f k s K
   |.inBlock _::k=>bD m fid n ro mu hold f k s K
   |.inScope _::k=>bD m fid n ro mu hold f k s K
   |.code (.seq a b)::k=>bD m fid n ro mu hold f (.code a::.code b::k) s K
   |.code (.block id c)::k=>bD m fid n ro mu hold f (.code c::.inBlock id::k) s K
   |.code (.scope c)::k=>bD m fid n ro mu hold f (.code c::.inScope c::k) s K
   | .code (.exit id)::k=>match exitTo id k with
     |some g=>bD m fid n ro mu hold f g s K
     |none=>K (.leave (some (.exit id))) s
   | .code (.cond c a b)::k=>Operand.ok n c=true/\(match an s.env c with
     |.lit (.bool x)=>vr x (bD m fid n ro mu hold f (.code a::k) s K) (bD m fid n ro mu hold f (.code b::k) s K)
     |_=>False)
   |.code (.region _ ops false)::k=>bD m fid n ro mu hold f (.inRegion ops (List.range ops.size)::k) s K
   | .code (.region id ops true)::k=>match hold.find? λe=>e.id==id with
     |some ⟨_,p⟩=>iq L m mu ops n (λv σ=>∀env,K (.panic v) {s with env,σ}) p s.env s.σ (λenv σ=>aa P m fid n ro hold k {s with env,σ} K)
     |none=>aa P m fid n ro hold (.code (.region id ops true)::k) s K
   |.inRegion _ []::k=>bD m fid n ro mu hold f k s K
   | .inRegion ops (i::is)::k=>match ops[i]? with
     | some o=>Oper.ok n o=true/\
       Il (xn ops n s.env o) (if pR L o=true then rY (Bq L mu o s.env s.σ) (λa d=>bD m fid n ro mu hold f (.inRegion ops is::k) {s with env:=bg s.env o.dst a,σ:=d} K) (λa d=>K (.panic a) {s with σ:=d})
        else if vu o.op=true then OY (P:=P) m o s.env s.σ (λa d=>aa P m fid n ro hold (.inRegion ops is::k) {s with env:=bg s.env o.dst a,σ:=d} K) (λa d=>∀env,K (.panic a) {s with env,σ:=d})
        else aa P m fid n ro hold (.inRegion ops (i::is)::k) s K) (bD m fid n ro mu hold f (.inRegion ops is::k) {s with env:=bg s.env o.dst (.lit (.tuple #[]))} K)
     |none=>aa P m fid n ro hold (.inRegion ops (i::is)::k) s K
   |todo=>aa P m fid n ro hold todo s K
def Go.bD{m:Mo}{fid n:Nat}{ro:acQ}(mu:acY)(hold:List Entry):∀(f:Nat){todo:acU}{s:St}{K:acG},jL hold todo=true->bD L m fid n ro mu hold f todo s K->Go P m fid n ro todo s K
 |0,_,_,_,g,h=>h g
 | f + 1,todo,s,K,g,h=>by
   unfold cE.bD at h;split at h
   . exact .leave (.inl ⟨rfl,rfl⟩) h
   . exact .leave (.inr (.inl ⟨_,rfl,rfl⟩)) h
   . exact .skip (Go.bD mu hold f (by simpa[jL,kU]using g) h)
   . exact .label (Go.bD mu hold f (by simpa[jL,kU]using g) h)
   . exact .inBlock (Go.bD mu hold f (by simpa[jL,kU]using g) h)
   . exact .inScope (Go.bD mu hold f (by simpa[jL,kU]using g) h)
   . exact .seq (Go.bD mu hold f (by simpa[jL,kU,and_assoc]using g) h)
   . exact .block (Go.bD mu hold f (by simpa[jL,kU]using g) h)
   . exact .scope (Go.bD mu hold f (by simpa[jL,kU]using g) h)
   . split at h
     . next S A=>exact .exit A (Go.bD mu hold f (KS A (by simp only[jL,aaX,zj]at g ⊢;exact g.2)) h)
     . next A=>exact .leave (.inr (.inr ⟨_,_,rfl,A,rfl⟩)) h
   . next c a b k=>
     obtain⟨B,u⟩:=h;split at u
     . next x C=>
       refine .cond C B ?_;cases x
       . exact Go.bD mu hold f (by simp only[jL,aaX,zj,kU]at g ⊢;simp_all) (u.2 rfl)
       . exact Go.bD mu hold f (by simp only[jL,aaX,zj,kU]at g ⊢;simp_all) (u.1 rfl)
     simp_all
   . exact .region (Go.bD mu hold f (by simpa[jL,kU]using g) h)
   . next id ops k=>
     split at h
     . next E p N=>
       have F:sK ops ⟨E,p⟩=true:=by simp only[jL,aaX,kU,N,zj]at g;exact g.1
       simp only[sK,zj]at F;obtain⟨env,σ,D,rc⟩:=s;refine Go.draw L.mixed F.1 λl B u O=>?_
       exact cT.mono (λenv σ h=>h (by simp only[jL,aaX,zj]at g ⊢;exact g.2)) _ _ _ (iR.iq L mu h _ _ _ F.2 l B u O (λ_ _ _ h=>by cases h))
     . exact h g
   . exact .zM (Go.bD mu hold f (by simpa[jL,kU]using g) h)
   . next ops i is k=>
     split at h
     . next o G=>
       obtain⟨w,h⟩:=h;have q:jL hold (.inRegion ops is::k)=true:=by simpa[jL,kU]using g
       rcases zT h with⟨M,t⟩|⟨j,b,x,d,T,t,Q,hd,H,C,I,h⟩
       . split at t
         . next y=>
           refine .op G M w (λc e=>?_) ?_
           . unfold pR sG at y;simp_all
           . exact(xm L y t).mono λa r J=>Go.bD mu hold f q J
         . split at t
           . next R=>
             have z:cT P m ops n (λa r=>∀env,K (.panic a) {s with env,σ:=r}) [i] s.env s.σ (λenv r=>Go P m fid n ro (.inRegion ops is::k) {s with env,σ:=r} K):=⟨o,G,w,.inl ⟨M,(G6 R t).mono λa r J=>J q⟩⟩
             exact Go.TR (λv env σ h=>h env) z
           . exact t g
       . exact .unwanted G t Q hd H C I (Go.bD mu hold f q h)
     . exact h g
   . exact h g
end

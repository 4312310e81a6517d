import Derived.Orders
import Derived.Test.YtebcbkhnlnkolaaGreatDoorC3
set_option linter.all false
namespace Go.bU
open Go.Conc
def aQ.congr{P o env a σ K Kp}(h:aQ P o env σ K Kp)(d:∀x∈o.op.operands,an a x=an env x):aQ P o a σ K Kp:=λk O b e c=>h k O b (λx f=>by grind) c
def P1(P:adY)(m:Mo)(o:Oper)(env:Env)(σ:ab)(R:adB)(Kp:adB):Prop:=
 (∃fo args d,o.op=.call ⟨.value fo,args,d⟩/\cG P m (an env fo) (args.toList.map (an env)) σ (λr b=>match r with|.val a=>R a b|.panic v=>Kp v b))\/
 ((∀c,o.op≠.defer c)/\aQ P o env σ R Kp)
def P1.mono{P m o env σ R e Kp}(h:P1 P m o env σ R Kp)(f:∀a σ,R a σ->e a σ):P1 P m o env σ e Kp:=by
 rcases h with⟨fo,args,b,c,d⟩|⟨c,d⟩
 . refine .inl ⟨fo,args,b,c,d.mono λr g i=>?_⟩
   grind
 . exact .inr ⟨c,d.mono f⟩
def P1.congr{P m o env a σ R Kp}(h:P1 P m o env σ R Kp)(b:∀x∈o.op.operands,an a x=an env x):P1 P m o a σ R Kp:=by
 rcases h with⟨fo,args,c,d,e⟩|⟨d,e⟩
 . refine .inl ⟨fo,args,c,d,?_⟩
   have f:an a fo=an env fo:=b fo (by simp_all);have g:args.toList.map (an a)=args.toList.map (an env):=acA λx i=>b x (by simp_all)
   grind
 . exact .inr ⟨d,e.congr b⟩
def mE(ops:adI)(n:Nat)(env:Env)(o:Oper):Prop:=∃j b x d a,o.guard=some (j,b)/\ops[j]?=some a/\a.dst=some d/\d<n/\env d=.lit x/\UI x b
def di(P:adY)(m:Mo)(ops:adI)(n:Nat)(Kp:adB):adR->Env->ab->adA->Prop
 |[],env,σ,R=>R env σ
 | i::l,env,σ,R=>∃o,ops[i]?=some o/\Oper.ok n o=true/\
   ((cC ops n env o/\P1 P m o env σ (λa b=>di P m ops n Kp l (bp env o.dst a) b R) Kp)\/(mE ops n env o/\di P m ops n Kp l (bp env o.dst (.lit (.tuple #[]))) σ R))
section
variable{P:adY}{m:Mo}{fid n:Nat}{ro:adJ}{D:List Aq}{rc:Rec}{K:adz}{k:adN}{ops:adI}
def Go.tK{Kp}:∀  l   env   σ ,(∀v env σ,Kp v σ->K (.panic v) ⟨env,σ,D,rc⟩) ->
 di P m ops n Kp l env σ (λenv σ=>Go P m fid n ro k ⟨env,σ,D,rc⟩ K)->Go P m fid n ro (.inRegion ops l::k) ⟨env,σ,D,rc⟩ K
 |[],env,σ,_,h=>.AW h
 | i :: l,env,σ,p,⟨o,q,f,h⟩=>by
   rcases h with⟨B,h⟩|⟨⟨j,b,x,d,R,C,E,hd,s,F,t⟩,h⟩
   . rcases h with⟨fo,args,G,u,w⟩|⟨u,w⟩
     . refine .call q u B f (w.mono λr c H=>?_)
       cases r with
       |val a=>exact Go.tK l _ c p H
       |panic v=>simp_all
     . refine .op q B f u ?_
       intro I O J A L;refine jU _ (w I O J A L) (λ_ _ _ ⟨v,M,N,Q,g,e,a,c,x,y,z⟩=>⟨v,M,N,Q,g,e,a,c,x,y,Go.tK l _ c p z⟩) (λ_ _ _ ⟨e,a,c,x,y,z⟩=>⟨e,a,c,x,y,p _ _ _ z⟩)
   . exact .unwanted q C E hd s F t (Go.tK l _ σ p h)
def Gu(P:adY)(o:Oper)(env:Env)(a:AV):Prop:=∀σ,aQ P o env σ (λc b=>c=a/\b=σ) (λ_ _=>False)
def tL(P:adY)(o:Oper)(env:Env)(σ:ab)(a:AV):Prop:=aQ P o env σ (λc b=>c=a/\b=σ) (λ_ _=>False)
def jX(ops:adI)(j i:Nat):Bool:=match ops[i]? with|some o=>o.after.toList.any λe=>Region.binds .any e && e.on==j|none=>false
def dW(ops:adI)(o:Oper):adR:=(o.op.operands.toList.filterMap fun|.tmp t=>some t|_=>none)++(match o.guard with|some (j,_)=>(match (ops[j]?).bind (·.dst)with|some d=>[d]|none=>[])|none=>[])
def l9(ops:adI)(rest S:adR):Bool:=
 rest.all fun i=>match ops[i]? with
  |none=>false
  | some o=>
    rest.all λj=>match ops[j]? with
     |none=>false
     | some a=>match a.dst with
       |none=>true
       | some d=>
         (if (dW ops o).contains d then
           (if S.contains i then(if S.contains j then jX ops j i && Nat.blt j i else jX ops i j)
            else(if S.contains j then jX ops j i else true))else true) &&
         (if S.contains i && i !=j && o.dst==some d then false else true)
def rL(ops:adI):Bool:=(List.range ops.size).all λi=>match ops[i]? with|none=>false|some o=>o.after.toList.all λe=>!Region.binds .any e||Nat.blt e.on i
def yw{ops}(h:rL ops=true):∀i o,ops[i]?=some o->∀e∈o.after,Region.binds .any e=true->e.on<i:=by
 intro i o b e d hb;have a:i<ops.size:=(zA.1 b).1;have c:=aaw.1 h i (LK.2 a);simp only[b]at c;have f:=aaw.1 c e (by simp_all)
 simp_all
def jY(ops:adI):adR->adR->Prop
 |_,[]=>True
 |done,i::l=>(∀j,jX ops j i=true->j∈done)/\i∉done/\jY ops (i::done) l
def qJ{env a x}(h:∀t,x=.tmp t->a t=env t):an a x=an env x:=by cases x<;>first|rfl|exact h _ rfl
def mem_reads{o}{t:Nat}(h:Operand.tmp t∈o.op.operands):t∈dW ops o:=by unfold dW;refine aaC.2 (.inl (List.mem_filterMap.2 ⟨.tmp t,by grind,rfl⟩))
def A7{o a}{j:Nat}{b}{d:Nat}(c:o.guard=some (j,b))(hj:ops[j]?=some a)(hd:a.dst=some d):d∈dW ops o:=by
 unfold dW
 simp_all
def cC.congr{env a o}(h:cC ops n env o)(g:∀t∈dW ops o,a t=env t):cC ops n a o:=by
 unfold cC at h ⊢;cases c:o.guard with
 |none=>trivial
 |some p=>obtain⟨j,b⟩:=p;simp only[c]at h ⊢;obtain⟨i,d,e,f,k,l⟩:=h;exact⟨i,d,e,f,k,by rw[g d (A7 c e f)];exact l⟩
def mE.congr{env a o}(h:mE ops n env o)(i:∀t∈dW ops o,a t=env t):mE ops n a o:=by obtain⟨j,b,x,d,k,f,g,hd,c,l,e⟩:=h;exact⟨j,b,x,d,k,f,g,hd,c,by rw[i d (A7 f g hd)];exact l,e⟩
def kU  env   dst   a   t :bp env dst a t=if dst=some t then a else env t:=by
 cases dst with
 |none=>simp[bp]
 | some d=>
   by_cases h:t=d
   . simp_all
   . simp[bp,Env.upd,h,zs h]
def late(ops:adI)(rest S:adR)(i:Nat):Bool:=rest.all λj=>S.contains j||jX ops i j
def Cu(P:adY)(ops:adI)(n:Nat)(rest S:adR)(a:Env)(σ:ab)(i:Nat):Prop:=∃o,ops[i]?=some o/\Oper.ok n o=true/\((cC ops n a o/\∃d,o.dst=some d/\(∀c,o.op≠.defer c)/\(Gu P o a (a d)\/(late ops rest S i=true/\tL P o a σ (a d))))\/(mE ops n a o/\∃d,o.dst=some d/\a d=.lit (.tuple #[])))
def kJ{rest S}(a:l9 ops rest S=true){i j o f}{d:Nat}(b:i∈rest)(c:j∈rest)(hi:ops[i]?=some o)(hj:ops[j]?=some f)(hd:f.dst=some d):
 (d∈dW ops o->(i∈S->(j∈S->jX ops j i=true/\j<i)/\(j∉S->jX ops i j=true))/\(i∉S->j∈S->jX ops j i=true))/\(i∈S->i≠j->o.dst≠some d):=by
 unfold l9 at a;rw[aaw]at a;have g:=a i b;simp only[hi]at g;have h:=aaw.1 g j c;simp only[hj,hd,za]at h;obtain⟨l,n⟩:=h;refine⟨λp=>?_,λk m q=>?_⟩
 . have e:(dW ops o).contains d=true:=by grind
   rw[aav e]at l;refine⟨λk=>⟨λhj=>?_,λhj=>?_⟩,λk hj=>?_⟩
   . simp_all
   . simp_all
   simp_all
 simp_all
def hoist{rest S Kp R}(K:l9 ops rest S=true):
 ∀  l done   env b   σ ,(∀i∈l,i∈rest)->jY ops done l->(∀i∈l,i∉done)->l.Nodup->(∀i∈l,∃o,ops[i]?=some o) ->
  (∀i∈l,i∈S->Cu P ops n rest S b σ i)->(∀t,(∀i∈l,i∈S->∀o,ops[i]?=some o->o.dst≠some t)->b t=env t) ->
  di P m ops n Kp (l.filter λi=>!S.contains i) b σ R->di P m ops n Kp l env σ R
 | [],done,env,b,σ,_,_,_,_,_,_,T,h=>by
   have:b=env:=funext λt=>T t (λi hi=>by simp at hi)
   simp_all
 | i :: l, done,env,b,σ,c,ha,a8,q,r,U,T,h=>by
   obtain⟨a1,a2,a3⟩:=ha;obtain⟨o,E⟩:=r i (by simp);have V:i∉l:=(abZ.1 q).1
   have s:∀t∈dW ops o,b t=env t:=λt u=>T t λj f L Q w hd=>by
    obtain⟨c1,_⟩:=kJ K (c i (by simp)) (c j (by simp[f])) E w hd
    grind
   have F:∀x∈o.op.operands,an env x=an b x:=λx hx=>qJ λt e=>(s t (mem_reads (by grind))).symm
   have G:∀j∈l,j∉i::done:=λj f hm=>by grind
   by_cases H:i∈S
   . have W:(i::l).filter (λi=>!S.contains i)=l.filter λi=>!S.contains i:=by simp[H]
     rw[W]at h;obtain⟨o',A,B,C⟩:=U i (by simp) H;rw[E]at A;cases A
     have next:∀a d,o.dst=some d->b d=a->di P m ops n Kp l (bp env o.dst a) σ R:=λa d hd a9=>
      hoist K l (i::done) (bp env o.dst a) b σ (λj f=>c j (by simp[f])) a3 G (abZ.1 q).2 (λj f=>r j (by simp[f])) (λj f=>U j (by simp[f])) (λt u=>by
       rw[kU,hd]
       grind) h
     rcases C with⟨C,d,hd,I,D⟩|⟨C,d,hd,f⟩
     . refine⟨o,E,B,.inl ⟨C.congr λt u=>(s t u).symm,.inr ⟨I,?_⟩⟩⟩
       have:=(show tL P o b σ (b d)from D.elim (λh=>h σ) (λh=>h.2)).congr F;intro kk O ρ X hr;refine jU _ (this kk O ρ X hr) (λ_ _ _ ⟨v,hv,k2,O2,g,Y,a,k,x,y,e1,e2⟩=>⟨v,hv,k2,O2,g,Y,a,k,x,y,?_⟩) (λ_ _ _ ⟨_,_,_,_,_,z⟩=>z.elim)
       grind
     . exact⟨o,E,B,.inr ⟨C.congr λt u=>(s t u).symm,next _ d hd f⟩⟩
   . have W : (i::l).filter (λi=>!S.contains i)=i::l.filter λi=>!S.contains i:=by simp[H]
     rw[W]at h;obtain⟨o',A,B,C⟩:=h;rw[E]at A;cases A
     have next:∀a k,di P m ops n Kp (l.filter λi=>!S.contains i) (bp b o.dst a) k R->di P m ops n Kp l (bp env o.dst a) k R:=λa k h'=>
      hoist K l (i::done) (bp env o.dst a) (bp b o.dst a) k (λj f=>c j (by simp[f])) a3 G (abZ.1 q).2 (λj f=>r j (by simp[f]))
       (fun j f L=>by
         obtain⟨Q,w,M,Z⟩:=U j (by simp[f]) L;have ad:j≠i:=λe=>V (e ▸ f)
         have p:∀t∈dW ops Q,bp b o.dst a t=b t:=λt u=>by
          rw[kU];by_cases hd:o.dst=some t
          . obtain⟨c1,_⟩:=kJ K (c j (by simp[f])) (c i (by simp)) w E hd
            grind
          grind
         have N:∀d,Q.dst=some d->bp b o.dst a d=b d:=λd hd=>by
          rw[kU];by_cases a7:o.dst=some d
          . obtain⟨_,c2⟩:=kJ K (c j (by simp[f])) (c i (by simp)) w E a7
            grind
          grind
         refine⟨Q,w,M,?_⟩;rcases Z with⟨J,d,hd,I,D⟩|⟨J,d,hd,al⟩
         . refine .inl ⟨J.congr p,d,hd,I,.inl λσ=>?_⟩
           rw[N d hd];rcases D with D|⟨hl,_⟩
           . exact(D σ).congr λx hx=>qJ λt e=>p t (mem_reads (by grind))
           . have:=aaw.1 hl i (c i (by simp))
             grind
         . exact .inr ⟨J.congr p,d,hd,by grind⟩)
       (fun t u=>by
         rw[kU,kU]
         grind) h'
     rcases C with⟨C,h⟩|⟨C,h⟩
     . exact⟨o,E,B,.inl ⟨C.congr λt u=>(s t u).symm,(h.congr F).mono λa k=>next a k⟩⟩
     . exact⟨o,E,B,.inr ⟨C.congr λt u=>(s t u).symm,next _ σ h⟩⟩
def jY.sub  p :∀  l done a ,jY ops done l->(∀i∈done,i∈a)->(∀i∈l,p i=false->i∈a)->(∀i∈l,p i=true->i∉a)->l.Nodup->jY ops a (l.filter p)
 |[],_,_,_,_,_,_,_=>trivial
 | i :: l,done,a,⟨h,o,f⟩,k,m,g,d=>by
   have n:i∉l:=(abZ.1 d).1;by_cases e:p i=true
   . rw [List.filter_cons_of_pos e]
     refine⟨λj c=>k j (h j c),g i (by simp) e,?_⟩
     exact jY.sub p l (i::done) (i::a) f (λj c=>by
      grind) (λj c b=>by simp_all) (λj c b q=>by
      simp_all) (abZ.1 d).2
   . rw[List.filter_cons_of_neg e]
     exact jY.sub p l (i::done) a f (λj c=>by grind) (λj c b=>m j (by simp[c]) b) (λj c b=>g j (by simp[c]) b) (abZ.1 d).2
def Cv(g:∀i o,ops[i]?=some o->∀e∈o.after,Region.binds .any e=true->e.on<i):∀  fuel t   listed   done ,listed.size=ops.size->(∀i,i<ops.size->(listed.getD i true=true↔i∈done)) ->
 ((List.range ops.size).filter λi=>!listed.getD i true).length<=fuel ->
 jY ops done (Region.linearise.go .any ops fuel t listed [])/\(Region.linearise.go .any ops fuel t listed []).Nodup/\(∀i∈Region.linearise.go .any ops fuel t listed [],i∉done/\i<ops.size)/\∀i,i<ops.size->(i∈Region.linearise.go .any ops fuel t listed []\/i∈done):=by
 intro fuel;induction fuel with
 | zero=>
   intro t listed done k hd y;have l:(List.range ops.size).filter (λi=>!listed.getD i true)=[]:=List.eq_nil_of_length_eq_zero (by omega);unfold Region.linearise.go;refine⟨trivial,adb,λi a=>(by cases a),λi a=>.inr ((hd i a).1 ?_)⟩;have:=adn.1 l i (LK.2 a)
   simp_all
 | succ fuel z=>
   intro t listed done k hd y;unfold Region.linearise.go;simp only[];generalize p:(List.range ops.size).filter (λi=>!listed.getD i true && ((ops[i]?).map (·.after.all λe=>!Region.binds .any e||listed.getD e.on false)).getD false)=rs
   have d:∀i,i∈rs↔i<ops.size/\listed.getD i true=false/\∃o,ops[i]?=some o/\∀e∈o.after,Region.binds .any e=true->listed.getD e.on false=true:=by
    intro i;rw[<-p,abm,LK];refine and_congr_right λa=>?_
    rw[za,acu];refine and_congr_right λ_=>?_
    have q:ops[i]?=some ops[i]:=abo a;rw[q];simp only[abz,abV,abl,aci,acu,kn,exists_eq_left']
    grind
   have A:∀j,j<ops.size->listed.getD j false=listed.getD j true:=λj c=>by grind
   cases a:rs[t % rs.length]? with
   | none=>
     simp only[]
     have w:rs=[]:=by
      cases rs with
      |nil=>rfl
      | cons x xs=>
        have B:=List.getElem?_eq_none_iff.1 a;have K:t % (x::xs).length<(x::xs).length:=Nat.mod_lt _ (by simp);omega
     refine⟨trivial,adb,λi a=>(by cases a),?_⟩;intro i;induction i using Nat.strongRecOn with
     | ind i C=>
       intro a;refine .inr ((hd i a).1 ?_);cases D:listed.getD i true with
       |true=>rfl
       | false=>
         have:i∈rs:=(d i).2 ⟨a,D,ops[i],abo a,λe l hb=>by
          have E:=g i ops[i] (abo a) e l hb
          grind⟩
         grind
   | some i=>
     simp only[];rw[linearise_go_acc,List.reverse_singleton,adq];have r:=List.mem_of_getElem? a;obtain⟨s,F,o,q,m⟩:=(d i).1 r;have n:i∉done:=λh=>by grind
     have f:∀j,j<ops.size->((listed.setIfInBounds i true).getD j true=if j=i then true else listed.getD j true):=λj c=>by
      by_cases b:j=i
      . subst b;rw[aav rfl];simp[k,c]
      . rw[aau b];exact getD_set_ne true (zs b)
     obtain⟨G,H,u,I⟩:=z (t / rs.length) (listed.setIfInBounds i true) (i::done) (by grind) (λj c=>by
      rw[f j c];by_cases b:j=i
      . simp[b]
      grind) (by
      have J:(List.range ops.size).filter (λj=>!(listed.setIfInBounds i true).getD j true)=((List.range ops.size).filter (λj=>!listed.getD j true)).filter (· !=i):=by
       rw[List.filter_filter];refine ack λj c=>?_
       rw[f j (LK.1 c)];by_cases b:j=i<;>simp[b]
      rw[J];have:(((List.range ops.size).filter (λj=>!listed.getD j true)).filter (· !=i)).length<((List.range ops.size).filter (λj=>!listed.getD j true)).length:=List.length_filter_lt_length_iff_exists.2 ⟨i,abm.2 ⟨LK.2 s,by grind⟩,by simp⟩;omega)
     refine⟨⟨λj c=>?_,n,G⟩,abZ.2 ⟨λh=>(u i h).1 (by simp),H⟩,λj c=>?_,λj c=>?_⟩
     . unfold jX at c
       rw[q]at c;obtain⟨e,l,hb⟩:=abr.1 c;simp only[za,ach]at hb;have v:e∈o.after:=by simpa using l
       have B:=m e v hb.1
       grind
     . rcases abp.1 c with e|e
       . grind
       . exact⟨λh=>(u j e).1 (by simp[h]),(u j e).2⟩
     . rcases I j c with h|h
       . exact .inl (by simp[h])
       . rcases abp.1 h with e|e
         . exact .inl (by simp[e])
         grind
def Cw(a:∀i o,ops[i]?=some o->∀e∈o.after,Region.binds .any e=true->e.on<i)  t :
 jY ops [] (Region.linearise .any ops t)/\(Region.linearise .any ops t).Nodup/\(∀i,i∈Region.linearise .any ops t↔i<ops.size):=by
 obtain⟨b,c,d,f⟩:=Cv a ops.size t (Array.replicate ops.size false) [] (by simp) (λi g=>by simp[g]) (by grind);refine⟨b,c,λi=>⟨λh=>(d i h).2,λh=>?_⟩⟩;rcases f i h with h|h
 . exact h
 . cases h
end
section
variable{P:adY}{m:Mo}{fid n:Nat}{ro:adJ}{D:List Aq}{rc:Rec}{K:adz}{k:adN}{ops:adI}{Kp:adB}
def Any(P:adY)(m:Mo)(ops:adI)(n:Nat)(Kp:adB)(done rest:adR)(env:Env)(σ:ab)(R:adA):Prop:=∀l,jY ops done l->l.Nodup->(∀i,i∈l↔i∈rest)->di P m ops n Kp l env σ R
def Go.draw{id}(j:P.follows .mixedOrders=true)(l:rL ops=true){env σ}
 (h:Any P m ops n (λv σ=>∀env,K (.panic v) ⟨env,σ,D,rc⟩) [] (List.range ops.size) env σ (λenv σ=>Go P m fid n ro k ⟨env,σ,D,rc⟩ K)):Go P m fid n ro (.code (.region id ops true)::k) ⟨env,σ,D,rc⟩ K:=by
 intro Q d O tmps defs kind cs o p q;refine .step (λr s g=>r=d/\s=O/\∃t,g=G ⟨fid,tmps,.inRegion ops (Region.linearise .any ops t)::k,defs,.run,kind,ro⟩ (gM rc cs)) rfl ?_ ?_
 . rintro _ _ _ ⟨rfl,rfl,t,rfl⟩
   obtain⟨u,y,A⟩:=Cw (yw l) t;have:=h _ u y (λi=>by grind);exact Go.tK (D:=D) (rc:=rc) _ env σ (λv env σ z=>z env) this _ _ _ tmps defs kind cs o p q
 . intro w a
   refine⟨G ⟨fid,tmps,.inRegion ops (Region.linearise .any ops (w.tape w.drawn (.order fid id)))::k,defs,.run,kind,ro⟩ (gM rc cs),{w with drawn:=w.drawn+1},#[],d,O,?_,?_,?_,rfl,rfl,_,rfl⟩
   . simp[G,stepG,stepG.exec,choose,Sem.run,Question.forced,Question.cut,Region.schedule,j]
   . exact{le:=.refl _,size:=aaA _,keep:=λ_ _ _=>rfl,tail:=λb n _ _ c e h=>⟨c,h,rfl,λ_ _=>rfl⟩,part:=λb n _ _ c e h=>⟨c,h,rfl,λ_ _=>rfl⟩,shape:=λ_ _=>rfl,own:=λb x h=>.inl ⟨x,h,.refl x⟩,cell:=λ_ _ _ h=>.inl h,sh:=λ_ _ h=>.inl h,evs:=λe h=>by simp at h,tape:=rfl,output:=rfl,os:=rfl,low:=λe h=>by simp at h,tok:=λ_ f h=>⟨f,h⟩}
   . exact⟨a.apart,a.cell,a.sh,a.obj,a.tail,a.part⟩
def jZ(P:adY)(m:Mo)(ops:adI)(n:Nat)(Kp:adB)(i:Nat)(env:Env)(σ:ab)(R:adA):Prop:=
 ∃ o,ops[i]?=some o/\Oper.ok n o=true/\
   ((cC ops n env o/\P1 P m o env σ (λa b=>R (bp env o.dst a) b) Kp)\/(mE ops n env o/\R (bp env o.dst (.lit (.tuple #[]))) σ))
section
variable(L:jO P)
instance(n:Int):Decidable (fits n):=by unfold fits;infer_instance
def yx(op:BinOp)(kd:IntKind)(a b:Int):adD:=
 match op,kd with
 |.add,.i64=>if fits (a+b)then some (.int .i64 (a+b))else none
 |.sub,.i64=>if fits (a-b)then some (.int .i64 (a-b))else none
 |.mul,.i64=>if fits (a*b)then some (.int .i64 (a*b))else none
 |.eql,_=>some (.bool (a==b))
 |.neq,_=>some (.bool (a !=b))
 |.lss,_=>some (.bool (decide (a<b)))
 |.leq,_=>some (.bool (decide (a<=b)))
 |.gtr,_=>some (.bool (decide (a>b)))
 |.geq,_=>some (.bool (decide (a>=b)))
 |.shl,_=>if 0<=b then some (.int kd (kd.wrap (a*2 ^ (min b.toNat kd.bits))))else none
 |.shr,_=>if 0<=b then some (.int kd (a.fdiv (2 ^ (min b.toNat kd.bits))))else none
 |op,kd=>nR op kd a b
def Cx{op kd a b v R}(h:yx op kd a b=some v)(c:R v):sP op kd a b R:=by
 unfold yx at h;unfold sP;split at h
 . grind
 . grind
 . grind
 . simp_all
 . simp_all
 . simp_all
 . simp_all
 . simp_all
 . simp_all
 . simp_all
 . simp_all
 simp_all
def wW(mu:adR)(o:Oper)(env:Env):adO:=
 match o.op with
 |.move x|.assign x=>some (an env x)
 | .pick c a b=>match an env c with
   |.lit (.bool x)=>some (if x then an env a else an env b)
   |_=>none
 |.box _ x=>if(match o.dst with|some d=>mu.contains d|none=>false)=true then none else if(an env x).cells.all AV.flat=true then some (.cp (an env x) 0)else none
 | .load t p=>match L.tt t,an env p with
   |some i,.cp v off=>cZ v.cells off i.size i.agg
   |some i,.kp _ l hole off=>PY l hole off i.size i.agg
   |_,_=>none
 | .fieldAddr s x j=>match L.tt s with
   | some ⟨.struct,_,_,_,kI⟩=>(match kI[j]? with
     |some f=>if f.2.1≠0 then tA (an env x) f.1 else none
     |none=>none)
   |_=>none
 | .field s x j=>match L.tt s,an env x with
   | some ⟨.struct,_,_,_,kI⟩,.agg l=>(match kI[j]? with
     |some f=>(match L.tt f.2.2 with|some n=>cZ l f.1 n.size n.agg|none=>none)
     |none=>none)
   |_,_=>none
 | .indexAddr t x h=>match L.tt t with
   | some ⟨.slice e,_,_,_,_⟩=>(match L.tt e,an env x,an env h with
     |some g,.sl q es _,.lit (.int _ z)=>if q=g.size/\0<=z then(es[z.toNat]?).map (λa=>.cp a 0)else none
     |some g,.ga b off len _,.lit (.int _ z)=>if 0<=z/\z<len then some (.ref b (off+z.toNat*g.size))else none
     |_,_,_=>none)
   | some ⟨.array k e,_,_,_,_⟩=>(match L.tt e,an env h with
     |some g,.lit (.int _ z)=>if 0<=z/\z<k then tA (an env x) (z.toNat*g.size)else none
     |_,_=>none)
   |_=>none
 | .index t x h=>match L.tt t with
   | some ⟨.array k e,_,_,_,_⟩=>(match L.tt e,an env x,an env h with
     |some g,.agg l,.lit (.int _ z)=>if 0<=z/\z<k then cZ l (z.toNat*g.size) g.size g.agg else none
     |_,_,_=>none)
   |_=>none
 | .binOp op t x y _=>match L.tt t with
   | some ⟨.int _,_,_,_,_⟩=>(match an env x,an env y with
     |.lit (.int kd a),.lit (.int m b)=>if kd=m\/op=.shl\/op=.shr then(yx op kd a b).map .lit else none
     |_,_=>none)
   |_=>none
 | .unOp .not _ x=>match an env x with
   |.lit (.bool b)=>some (.lit (.bool !b))
   |_=>none
 | .convert s t x=>match L.tt s,L.tt t,an env x with
   |some ⟨.int _,_,_,_,_⟩,some ⟨.int kd,_,_,_,_⟩,.lit (.int _ a)=>some (.lit (.int kd (kd.wrap a)))
   |_,_,_=>none
 | .makeInterface t x=>match L.tt t with
   |some i=>if i.kind≠.iface then some (.m5 t (an env x))else none
   |none=>none
 |.makeFunc f fs cs=>some (.fn f (fs.toList.map (an env)) (cs.toList.map (an env)))
 | .extract x j=>match an env x with
   |.cI l=>l[j]?
   |_=>none
 | .nilCheck x=>match an env x with
   |.cp v off=>some (.cp v off)
   |.ref b off=>some (.ref b off)
   |.kp b l hole off=>some (.kp b l hole off)
   |_=>none
 | .call c=>match c.callee,c.args.toList with
   | .builtin .len,[x]=>(match c.argTypes[0]? with
     | some t=>(match L.tt t with
       | some ⟨.slice _,_,_,_,_⟩=>(match an env x with
         |.sl _ es _=>some (.lit (.int .i64 es.length))
         |.lit (.slice none 0 0)=>some (.lit (.int .i64 0))
         |.ga _ _ len _=>some (.lit (.int .i64 len))
         |_=>none)
       |_=>none)
     |none=>none)
   |_,_=>none
 |_=>none
def yy{mu o env a}(h:wW L mu o env=some a):(∀c,o.op≠.defer c)/\Gu P o env a:=by
 have key:tH L o=true/\∀(K:adB) σ,K a σ->UJ L mu o env σ K (λ_ _=>False):=by
  unfold wW at h;unfold tH UJ;split at h
  . simp_all
  . simp_all
  . next c x y b=>
    simp only[b]
    grind
  . next t x b=>
    simp only[b]
    grind
  . next t p b=>
    simp only[b];split at h
    . simp_all
    . simp_all
    . cases h
  . next s x j b=>
    simp only[b]
    grind
  . next s x j b=>
    simp only[b]
    grind
  . next t x n b=>
    simp only[b];split at h
    . next e g i l m d=>
      simp only[d]
      grind
    . next k e g i l m d=>
      simp only[d]
      grind
    . cases h
  . next t x n b=>
    simp only[b];split at h
    . grind
    . cases h
  . next op t x y E b=>
    simp only[b];split at h
    . next F g i l m d=>
      simp only[d];split at h
      . next kd u q v r w=>
        simp only[r,w];split at h
        . next z=>obtain⟨y,A,G⟩:=abi.1 h;refine⟨by simp_all,λK σ H=>⟨z,Cx A (by simp_all)⟩⟩
        . cases h
      . cases h
    . cases h
  . next t x b=>
    simp only[b]
    grind
  . next s t x b=>
    simp only[b]
    grind
  . next t x b=>
    simp only[b]
    grind
  . simp_all
  . next x j b=>
    simp only[b]
    grind
  . next x b=>
    simp only[b]
    grind
  . next c b=>
    simp only[b];split at h
    . next x B C=>
      simp only[B,C]
      grind
    . cases h
  . cases h
 refine⟨λc e=>?_,λσ=>Jm L key.1 (key.2 (λD f=>D=a/\f=σ) σ ⟨rfl,rfl⟩)⟩
 simp_all
def yz(o:Oper)(env:Env)(σ:ab):adO:=
 match o.op with
 | .load t p=>match L.tt t with
   |some i=>se i σ (an env p)
   |none=>none
 |_=>none
def wh{o env σ a}(h:yz L o env σ=some a):(∀c,o.op≠.defer c)/\tL P o env σ a:=by
 unfold yz at h;split at h
 . next t p b=>
   split at h
   . next i d=>exact⟨λc e=>(by simp_all),Cr L b d h ⟨rfl,rfl⟩⟩
   . cases h
 . cases h
def kq(mu:adR)(ops:adI)(n:Nat)(lt:Bool)(σ:ab):adR->Env->(Env->Prop)->Prop
 |[],env,K=>K env
 | i :: S,env,K=>match ops[i]? with
   | some o=>Oper.ok n o=true/\o.dst.isSome=true/\sQ ops n env o (match wW L mu o env with
      |some a=>kq mu ops n lt σ S (bp env o.dst a) K
      | none=>lt=true/\(match yz L o env σ with
        |some a=>kq mu ops n lt σ S (bp env o.dst a) K
        |none=>False)) (kq mu ops n lt σ S (bp env o.dst (.lit (.tuple #[]))) K)
   |none=>False
def ascending:adR->Bool
 |i::j::l=>Nat.blt i j && ascending (j::l)
 |_=>true
def qK{i}:∀{l},ascending (i::l)=true->ascending l=true/\∀j∈l,i<j
 |[],_=>⟨rfl,λ_ h=>by cases h⟩
 | a::l,h=>by
   simp only[ascending,za,Nat.blt_eq]at h;obtain⟨c,b⟩:=h;have d:=qK b
   grind
def yA{mu rest σ lt}  m  (A:l9 ops rest m=true) (l:lt=true->∀i∈m,late ops rest m i=true):∀  S   env   K ,ascending S=true->(∀i∈S,i∈m/\i∈rest)->kq L mu ops n lt σ S env K ->
 ∃f,K f/\(∀i∈S,Cu P ops n rest m f σ i)/\∀t,(∀i∈S,∀o,ops[i]?=some o->o.dst≠some t)->f t=env t
 |[],env,K,_,_,h=>⟨env,h,λ_ U=>(by cases U),λ_ _=>rfl⟩
 | i :: S, env,K,B,p,h=>by
   obtain⟨B,V⟩:=qK B;unfold kq at h;split at h
   . next o w=>
     obtain⟨C,D,h⟩:=h;obtain⟨d,hd⟩:=Option.isSome_iff_exists.1 D
     have main:∀a,kq L mu ops n lt σ S (bp env o.dst a) K->((cC ops n env o/\(∀c,o.op≠.defer c)/\(Gu P o env a\/(late ops rest m i=true/\tL P o env σ a)))\/(mE ops n env o/\a=.lit (.tuple #[])))->∃f,K f/\(∀j∈i::S,Cu P ops n rest m f σ j)/\∀t,(∀j∈i::S,∀o,ops[j]?=some o->o.dst≠some t)->f t=env t:=by
      intro a W q;obtain⟨f,X,h2,E⟩:=yA m A l S _ K B (λj k=>p j (by simp[k])) W
      have g:∀t∈dW ops o,f t=env t:=λt F=>by
       have G:∀j∈S,∀y,ops[j]?=some y->y.dst≠some t:=λj k y s u=>by
        obtain⟨Y,_⟩:=kJ A (p i (by simp)).2 (p j (by simp[k])).2 w s u
        grind
       rw[E t G,kU];by_cases H:o.dst=some t
       . obtain⟨Y,_⟩:=kJ A (p i (by simp)).2 (p i (by simp)).2 w w H
         grind
       grind
      have r:f d=a:=by
       rw[E d (λj k y s u=>by
        obtain⟨_,c2⟩:=kJ A (p i (by simp)).2 (p j (by simp[k])).2 w s u
        grind),kU,aav hd]
      refine⟨f,X,λj k=>?_,λt F=>?_⟩
      . rcases abp.1 k with rfl|k
        . refine⟨o,w,C,?_⟩
          rcases q with⟨q,I,J⟩|⟨q,rfl⟩
          . refine .inl ⟨q.congr g,d,hd,I,?_⟩
            rw[r];have R:∀σ,aQ P o env σ (λM v=>M=a/\v=σ) (λ_ _=>False)->aQ P o f σ (λM v=>M=a/\v=σ) (λ_ _=>False):=λσ h=>h.congr λx T=>qJ λt e=>g t (mem_reads (by grind))
            exact J.imp (λh σ=>R σ (h σ)) (λh=>⟨h.1,R σ h.2⟩)
          . exact .inr ⟨q.congr g,d,hd,r⟩
        grind
      . rw[E t (λj k=>F j (by simp[k])),kU,aau (F i (by simp) o w)]
     rcases tJ h with⟨q,h⟩|⟨j,b,x,Z,y,hg,k,N,O,T,Q,h⟩
     . split at h
       . next a z=>exact main a h (.inl ⟨q,(yy L z).1,.inl (yy L z).2⟩)
       . obtain⟨hl,h⟩:=h
         split at h
         . next a z=>exact main a h (.inl ⟨q,(wh L z).1,.inr ⟨l hl i (p i (by simp)).1,(wh L z).2⟩⟩)
         grind
     . exact main (.lit (.tuple #[])) h (.inr ⟨⟨j,b,x,Z,y,hg,k,N,O,T,Q⟩,rfl⟩)
   simp_all
def Any.hoist  mu   S  {done rest env σ R}(hd:∀i∈rest,i∉done) (j:∀i∈S,i∈rest) (p:∀i∈rest,(ops[i]?).isSome=true) (q:ascending S=true) (k:l9 ops rest S=true){lt}(c:lt=true->∀i∈S,late ops rest S i=true)
 (h:kq L mu ops n lt σ S env (λb=>Any P m ops n Kp (S++done) (rest.filter λi=>!S.contains i) b σ R)):Any P m ops n Kp done rest env σ R:=by
 intro l d f e;obtain⟨b,r,s,u⟩:=yA L S k c S env _ q (λi a=>⟨a,j i a⟩) h
 refine bU.hoist k l done env b σ (λi a=>(e i).1 a) d (λi a=>hd i ((e i).1 a)) f (λi a=>Option.isSome_iff_exists.1 (p i ((e i).1 a))) (λi _ g=>s i g)
  (λt v=>u t λi a o w=>v i ((e i).2 (j i a)) a o w) ?_
 refine r _ (jY.sub (λi=>!S.contains i) l done (S++done) d (λi a=>by simp[a]) (λi _ x=>by simp_all) (λi a x=>?_) f) (f.filter _) (λi=>by simp_all)
 simp_all
def Cy(ops:adI)(done rest S:adR):Bool:=(rest.all λi=>!done.contains i && (ops[i]?).isSome) && (S.all λi=>rest.contains i) && ascending S && l9 ops rest S
def Any.take  mu   S  {done rest env σ R}  lt  (d:Cy ops done rest S=true) (a:lt=true->(S.all λi=>late ops rest S i)=true)
 (h:kq L mu ops n lt σ S env (λb=>Any P m ops n Kp (S++done) (rest.filter λi=>!S.contains i) b σ R)):Any P m ops n Kp done rest env σ R:=by
 simp only[Cy,za,aaw]at d;obtain⟨⟨⟨f,k⟩,g⟩,j⟩:=d;exact Any.hoist L mu S (λi c=>by simp_all) (λi c=>by simp_all) (λi c=>(f i c).2) g j (λe i c=>aaw.1 (a e) i c) h
end
end
attribute [simp] kq wW yz yx
section
variable{P:adY}{m:Mo}{n:Nat}{ops:adI}{Kp:adB}
def di.mono{R c}(b:∀env σ,R env σ->c env σ):∀  l   env   σ ,di P m ops n Kp l env σ R->di P m ops n Kp l env σ c
 |[],env,σ,h=>b _ _ h
 |i::l,env,σ,⟨o,d,e,f⟩=>⟨o,d,e,f.imp (λh=>⟨h.1,h.2.mono λa g=>di.mono b l _ _⟩) (λh=>⟨h.1,di.mono b l _ _ h.2⟩)⟩
def kq.mono(L:jO P){mu lt σ K c}(b:∀env,K env->c env):∀{S env},kq L mu ops n lt σ S env K->kq L mu ops n lt σ S env c
 |[],env,h=>b _ h
 | i :: S,env,h=>by
   unfold kq at h ⊢;split at h
   . next o d=>
     try simp only[d]
     refine⟨h.1,h.2.1,?_⟩;have h:=h.2.2;unfold sQ at h ⊢
     have main:∀{x:adO}{y:adO},(match x with|some a=>kq L mu ops n lt σ S (bp env o.dst a) K|none=>lt=true/\(match y with|some a=>kq L mu ops n lt σ S (bp env o.dst a) K|none=>False)) ->
      (match x with|some a=>kq L mu ops n lt σ S (bp env o.dst a) c|none=>lt=true/\(match y with|some a=>kq L mu ops n lt σ S (bp env o.dst a) c|none=>False)):=by
      intro x y h;cases x with
      |some a=>exact kq.mono L b h
      | none=>
        refine⟨h.1,?_⟩;cases y with
        |some a=>exact kq.mono L b h.2
        |none=>exact h.2
     split at h
     . exact main h
     . split at h
       . refine⟨h.1,?_⟩
         have h:=h.2;split at h
         . exact⟨λe=>main (h.1 e),λe=>kq.mono L b (h.2 e)⟩
         . exact kq.mono L b h
         . exact h
       . exact h
   . exact h
inductive py where
 |done
 |take (S:adR) (lt:Bool) (p:py)
 |one (i:Nat) (p:py)
 |both (i:Nat) (p q:py)
structure Entry where
 id:Nat
 Xq:py
def fW(ops:adI):py->adR->adR->adR->Bool
 |.done,_,_,rest=>rest.isEmpty
 |.take S lt p,ex,done,rest=>ex.isEmpty && Cy ops done rest S && (!lt||S.all λi=>late ops rest S i) && fW ops p [] (S++done) (rest.filter λi=>!S.contains i)
 |.one i p,ex,done,rest=>rest.contains i && (rest.all λj=>!done.contains j) && (rest.all λj=>j==i||ex.contains j||(rest.any λx=>jX ops x j)) && fW ops p [] (i::done) (rest.filter (· !=i))
 |.both i p q,ex,done,rest=>rest.contains i && fW ops p [] (i::done) (rest.filter (· !=i)) && fW ops q (i::ex) done rest
def tN(ops:adI)(e:Entry):Bool:=rL ops && fW ops e.Xq [] [] (List.range ops.size)
def Xr(P:adY)(m:Mo)(ops:adI)(n:Nat)(Kp:adB)(ex done rest:adR)(env:Env)(σ:ab)(R:adA):Prop:=∀l,jY ops done l->l.Nodup->(∀i,i∈l↔i∈rest)->(∀i a,l=i::a->i∉ex)->di P m ops n Kp l env σ R
def jy(P:adY)(m:Mo)(ops:adI)(n:Nat)(Kp:adB)(p:py)(env:Env)(σ:ab)(R:adA):Prop:=∀ex done rest,fW ops p ex done rest=true->Xr P m ops n Kp ex done rest env σ R
def LX{i}{l rest:adR}(a:(i::l).Nodup)(b:∀j,j∈i::l↔j∈rest)  j :j∈l↔j∈rest.filter (· !=i):=by grind
def di.LY{i}{l ex done rest:adR}{p env σ R}(c:jY ops done (i::l))(b:(i::l).Nodup)(d:∀j,j∈i::l↔j∈rest)
 (e:fW ops p [] (i::done) (rest.filter (· !=i))=true) (h:jZ P m ops n Kp i env σ (λenv σ=>jy P m ops n Kp p env σ R)):di P m ops n Kp (i::l) env σ R:=by
 have next:∀env σ,jy P m ops n Kp p env σ R->di P m ops n Kp l env σ R:=λenv σ h=>h [] _ _ e l c.2.2 (abZ.1 b).2 (LX b d) (λ_ _ _ h=>by cases h)
 obtain⟨o,f,g,k⟩:=h;exact⟨o,f,g,k.imp (λh=>⟨h.1,h.2.mono λa q=>next _ _⟩) (λh=>⟨h.1,next _ _ h.2⟩)⟩
def jy.done{env σ R}(h:R env σ):jy P m ops n Kp .done env σ R:=λex done rest a l _ _ b _=>by
 simp only[fW,List.isEmpty_iff]at a;subst a;cases l with
 |nil=>exact h
 |cons i l=>exact absurd ((b i).1 (by simp)) (by simp)
def jy.take(L:jO P)  mu  {S lt p env σ R}(h:kq L mu ops n lt σ S env (λd=>jy P m ops n Kp p d σ R)):jy P m ops n Kp (.take S lt p) env σ R:=by
 intro ex done rest f;simp only[fW,za]at f;obtain⟨⟨⟨j,g⟩,k⟩,i⟩:=f;have:=Any.take (m:=m) (Kp:=Kp) (R:=R) L mu S lt g (λe=>by simp_all) (kq.mono L (λd h=>λl a b c=>h [] _ _ i l a b c (λ_ _ _ h=>by cases h)) h);exact λl a b c _=>this l a b c
def jy.one{i p env σ R}(h:jZ P m ops n Kp i env σ (λenv σ=>jy P m ops n Kp p env σ R)):jy P m ops n Kp (.one i p) env σ R:=by
 intro ex done rest d l e g f r;simp only[fW,za,aaw,aci,ach,abr]at d;obtain⟨⟨⟨s,hd⟩,k⟩,o⟩:=d;have q:i∈rest:=by simp_all
 cases l with
 |nil=>simp_all
 | cons j l=>
   have a:j∈rest:=(f j).1 (by simp)
   have b:j=i:=by
    rcases k j a with(h|h)|⟨x,c,h⟩
    . exact h
    . simp_all
    . have:=hd x c
      exact absurd (e.1 x h) (by simp_all)
   subst b;exact di.LY (ex:=ex) e g f o h
def jy.both{i p q env σ R}(h:jZ P m ops n Kp i env σ (λenv σ=>jy P m ops n Kp p env σ R))(g:jy P m ops n Kp q env σ R):jy P m ops n Kp (.both i p q) env σ R:=by
 intro ex done rest b l c d f s;simp only[fW,za]at b;obtain⟨⟨t,k⟩,o⟩:=b;have r:i∈rest:=by simp_all
 cases l with
 |nil=>simp_all
 | cons j l=>
   by_cases a:j=i
   . subst a
     exact di.LY (ex:=ex) c d f k h
   . exact g _ _ _ o _ c d f λx u e=>by simp_all
def sm{id}:∀{k k'},exitTo id k=some k'->∀x∈k',x∈k
 |[],k',h=>by simp_all
 | i::k,k',h=>by
   have again:exitTo id k=some k'->∀x∈k',x∈i::k:=λh x a=>acd _ (sm h x a)
   cases i<;>simp only[exitTo]at h<;>first|exact again h|skip
   grind
end
section
variable{P:adY}(L:jO P)
def pz(fn:Func)(k:Nat):Bool:=Nat.ble k fn.ntmps && fn.results.toList.all (ResultVar.ok fn.ntmps)
end
attribute [simp] List.find?
def kV{k O r c e x}(p:O r=some (.obj (.cells c e x))):lK k O (k.fD r (e,c.size)) O:=λw h=>by
 have t:=h.obj _ _ p;have g:w.shape? r=some (e,c.size):=by simp[World.shape?,t]
 refine⟨⟨h.apart,h.cell,λb s hb=>?_,h.obj,λb n hb=>?_,λb n hb=>?_⟩,⟨⟨λ_ _ _ h=>h,λb s d=>?_⟩,aaA _,λ_ _ _=>rfl,λ_ _ _ _ c _ h=>⟨c,h,rfl,λ_ _=>rfl⟩,λ_ _ _ _ c _ h=>⟨c,h,rfl,λ_ _=>rfl⟩,λ_ _=>rfl,λb x u=>.inl ⟨x,u,.refl x⟩,λb i v y=>.inl y,λb s d=>?_,by simp,rfl,rfl,rfl,by simp,λ_ f h=>⟨f,h⟩⟩⟩
 . by_cases a:b=r
   . subst a;simp[ar.fD]at hb;simp_all
   . exact h.sh b s (by simpa[ar.fD,a]using hb)
 . obtain⟨j,l,m,o⟩:=h.tail b n hb
   refine⟨j,l,m,?_⟩;have:b≠r:=λq=>by simp_all
   simpa[ar.fD,this]using o
 . obtain⟨j,l,m,o⟩:=h.part b n hb
   refine⟨j,l,m,?_⟩;have:b≠r:=λq=>by simp_all
   simpa[ar.fD,this]using o
 . by_cases a:b=r
   . subst a
     have:=h.sh _ _ d;rw[g]at this;cases this;simp[ar.fD]
   . simpa[ar.fD,a]using d
 . by_cases a:b=r
   . simp_all
   . exact .inl (by simpa[ar.fD,a]using d)
section
variable{P:adY}{m:Mo}{Q:adr}{k:ar}{O:ak}{g:adP}
def T.freeze{r n c e}(d:O r=some (.obj (.cells c e (0,0))))(b:g.status=.running)
 (h:∀k' O',k.Le k'->k'.sh r=some (e,c.size)->(∀j v,j<n->c[j]?=some v->k'.cell r j=some v)->O'=O.set r (.tail n)->T P m Q k' O' g):T P m Q k O g:=by
 by_cases a:∃w,Sat k O w
 . obtain⟨w,f⟩:=a
   have i:∀j,k.cell r j=none:=λj=>by
    cases q:k.cell r j with
    |none=>rfl
    |some v=>exact(f.apart _ _ _ q (.inl ⟨_,d⟩)).elim
   have o:=(kV (k:=k) d w f).2.le;have l:(k.fD r (e,c.size)).Le ((k.fD r (e,c.size)).ym r c n):=.ym i;exact .ghost (kV d) (.ghost (pw (n:=n) d (by simp[ar.fD])) (h _ _ (o.trans l) (by simp[ar.ym,ar.fD]) (λj v p s=>by simp[ar.ym,p,s]) rfl))
 . exact .step (λ_ _ _=>False) b (λ_ _ _ h=>h.elim) λw f=>absurd ⟨w,f⟩ a
end
def eC:∀{es},(∀e∈es,e.cells=[e])->flatten es=es
 |[],_=>rfl
 | e::es,h=>by
   have c:=h e (by simp);have a:=eC (es:=es) λx b=>h x (by simp[b])
   simp only[flatten]at a ⊢
   simp_all
def V.Ei{k v kk es sp}(h:V k v (.sl kk es sp)):(∃a,v=.slice a 0 0/\es=[]/\(sp=.any\/(sp=.exact/\a.isSome=true)))\/∃(b off cap N:Nat) (E:TypeId) (c:Nat->Value),v=.slice (some ⟨b,off,none⟩) es.length cap/\es.length<=cap/\k.sh b=some (E,N)/\off+cap*kk<=N/\(∀e∈es,e.cells.length=kk)/\
 (∀j,j<(flatten es).length->k.cell b (off+j)=some (c j)/\bU.flat (c j)=true)/\(∀  j  a,(flatten es)[j]?=some a->V k (c j) a)/\sp.fits b off es.length kk cap:=by
 cases h with
 |sl b off cap _ N E _ _ c d f g i l m n=>exact .inr ⟨b,off,cap,N,E,c,rfl,d,f,g,i,l,m,n⟩
 |slnil a _ _ h=>grind
inductive Fz(b:Nat)(l:adV):AV->AV->Prop
 |refl (a:AV):Fz b l a a
 | sl (off cap kk:Nat) (es:adV) (sp:oy):es.length<=cap->off+cap*kk<=l.length->(∀e∈es,e.cells.length=kk)->(∀(j:Nat) a,(flatten es)[j]?=some a->l[off+j]?=some a)->(sp=.any\/(sp=.exact/\cap=es.length)) ->
    Fz b l (.ga b off es.length cap) (.sl kk es sp)
 |fn (f:Fn) (a1 a2 c1 c2:adV):a1.length=a2.length->c1.length=c2.length->(∀(i:Nat) a a',a1[i]?=some a->a2[i]?=some a'->Fz b l a a')->(∀(i:Nat) a a',c1[i]?=some a->c2[i]?=some a'->Fz b l a a')->Fz b l (.fn f a1 c1) (.fn f a2 c2)
 |rows (es es':adV) (sp:oy):es.length=es'.length->(∀e∈es,e.cells=[e])->(∀e∈es',e.cells=[e])->(∀(i:Nat) a a',es[i]?=some a->es'[i]?=some a'->Fz b l a a')->Fz b l (.sl 1 es sp) (.sl 1 es' sp)
 |cp (base off:Nat) (v:AV):base+v.cells.length<=l.length->(∀(j:Nat) a,v.cells[j]?=some a->l[base+j]?=some a)->Fz b l (.ref b (base+off)) (.cp v off)
 |agg (l1 l2:adV):l1.length=l2.length->(∀(i:Nat) a a',l1[i]?=some a->l2[i]?=some a'->Fz b l a a')->Fz b l (.agg l1) (.agg l2)
 |cI (l1 l2:adV):l1.length=l2.length->(∀(i:Nat) a a',l1[i]?=some a->l2[i]?=some a'->Fz b l a a')->Fz b l (.cI l1) (.cI l2)
def Cz(k:ar)(b:Nat)(E:TypeId)(l:adV):Prop:=k.sh b=some (E,l.length)/\∀(j:Nat) a,l[j]?=some a->∃u,k.cell b j=some u/\V k u a/\bU.flat u=true
def Fz.sound{k b E l a a'}(h:Fz b l a a')(o:Cz k b E l):∀{v},V k v a->V k v a':=by
 induction h with
 |refl a=>simp_all
 | sl off cap T es sp g n p r s=>
   intro v d;cases d
   exact V.ofRow g o.1 n p (λj a q=>o.2 _ _ (r j a q)) (by
    rcases s with rfl|⟨rfl,s⟩
    . trivial
    . exact s)
 | rows es t sp g n p _ z=>
   intro v d;have f1:=eC n;have U:=eC p;rcases d.Ei with⟨W,rfl,rfl,F⟩|⟨G,off,cap,N,H,c,rfl,X,I,J,Y,A,K,Z⟩
   . grind
   . rw[f1]at A K
     rw[g];refine .sl G off cap 1 N H t sp c (by omega) I J (λe he=>by simp_all) (λj B=>A j (by simp_all)) (λj a q=>?_) (by simp_all)
     grind
 | cp base off x hlen g=>
   intro v d;cases d;refine .cp b base off _ _ x (λj=>(k.cell b (base+j)).getD undef) o.1 hlen (λj B=>?_) (λj a q=>?_)
   . obtain⟨u,n,p,r⟩:=o.2 _ _ (g j x.cells[j] (by simp[B]))
     simp_all
   . obtain⟨u,n,p,r⟩:=o.2 _ _ (g j a q)
     simp_all
 | fn f a1 L c1 M g n _ _ O P=>
   intro v d;cases d with
   | fn _ Q R _ _ C D g3 g4=>
     refine .fn f Q R L M (by omega) (λi u a' w m=>?_) (by omega) (λi u a' w m=>?_)
     . grind
     grind
 | agg S y g _ z=>
   intro v d;cases d with
   | agg c _ C D=>
     refine .agg c y (by omega) λi u a' w m=>?_
     grind
 | cI S y g _ z=>
   intro v d;cases d with
   | cI c _ C D=>
     refine .cI c y (by omega) λi u a' w m=>?_
     grind
def PE(b:Nat)(l:adV)(σ σ':ab):Prop:=∀c y,σ' c=some y->c≠b/\(σ c=some y\/∃d e,σ c=some (.cells d)/\y=.cells e/\d.length=e.length/\∀(i:Nat) a f,d[i]?=some a->e[i]?=some f->Fz b l a f)
def PE.del  b   l   σ :PE b l σ (σ.del b):=λc y h=>by
 unfold ab.del at h
 simp_all
def PE.sound{k O b E l σ σ'}(h:PE b l σ σ')(t:Cz k b E l)(f:Rel k O σ)  x :Rel k (O.set b x) σ':=⟨λc y g j=>by
 obtain⟨d,h⟩:=h c y g;rcases h with h|⟨m,q,n,rfl,r,u⟩
 . obtain⟨z,o,a⟩:=f.1 c y h j
   exact⟨z,by simp[ak.set,d,o],a⟩
 . obtain⟨z,o,a⟩:=f.1 c _ n (by simp)
   cases a with
   | cells w e _ F A B=>
     refine⟨_,by simp only[ak.set,d,aat];exact o,.cells w e q (by omega) (λi v C D p=>?_) B⟩;have s:i<m.length:=by grind
     exact(u i m[i] C (by simp[s]) p).sound t (A i v _ D (by simp[s])),λc y g j=>by
 obtain⟨d,h⟩:=h c _ g;rcases h with h|⟨m,q,_,h,_⟩
 . obtain⟨n,r⟩:=f.2 c y h j
   exact⟨by simp[ak.set,d,n],r⟩
 simp_all⟩
section
variable{P:adY}{m:Mo}
def T.CA{Q k O g σ b l}(q:Rel k O σ)(hb:σ b=some (.cells l))(f:g.status=.running)
 (h:∀k' O',k.Le k'->(∀v a a',V k v a->Fz b l a a'->V k' v a')->(∀σ',PE b l σ σ'->Rel k' O' σ')->T P m Q k' O' g):T P m Q k O g:=by
 obtain⟨y,s,t⟩:=q.1 b _ hb (by simp);cases t with
 | cells c e _ u w x=>
   refine T.freeze (n:=c.size) s f λk' O' d o z p=>?_
   have r:Cz k' b e l:=⟨by rw[o,u],λj a A=>by
    have i:j<c.size:=by grind
    exact⟨c[j],z j _ i (by simp[i]),(w j _ a (by simp[i]) A).mono d,x j _ (by simp[i])⟩⟩
   refine h k' O' d (λv a a' B C=>C.sound r (B.mono d)) λσ' D=>?_
   rw[p];exact D.sound r (q.mono d) _
def Go.freeze{fid n ro todo K env a σ σ' D rc}  b   l  (hb:σ b=some (.cells l)) (d:∀t,Fz b l (env t) (a t)) (g:PE b l σ σ')
 (h:Go P m fid n ro todo ⟨a,σ',D,rc⟩ K):Go P m fid n ro todo ⟨env,σ,D,rc⟩ K:=by
 intro Q k O tmps defs kind cs i e j;refine T.CA e.rel hb rfl λo p c q f=>?_
 exact h Q o p tmps defs kind cs i ⟨e.size,λt r=>q _ _ _ (e.env t r) (d t),f σ' g,e.ds.mono c,e.rc.mono c⟩ (j.mono c)
def Fz.upd{b l}{env:Env}{t a'}(h:Fz b l (env t) a')  u :Fz b l (env u) (env.upd t a' u):=by
 unfold Env.upd;split
 . simp_all
 . exact .refl _
inductive oC(KF:adC):adC
 |done {r:lr}{σ:ab}:KF r σ->oC KF r σ
 |freeze {a a':AV}{σ σ':ab}(b:Nat) (l:adV):σ b=some (.cells l)->Fz b l a a'->PE b l σ σ'->oC KF (.val a') σ'->oC KF (.val a) σ
 |oo {a a':AV}{σ:ab}:a.W a'->oC KF (.val a') σ->oC KF (.val a) σ
 |less {r:lr}{σ σ':ab}:σ'.Le σ->oC KF r σ'->oC KF r σ
def aA.thaw{f args σ t}(h:aA P m f args σ (oC t)):aA P m f args σ t:=by
 intro Q k O o c rest kind y z A I J
 have key:∀r i,oC t r i->∀e j g,k.Le e->Rel e j i->(match r with
  |.val a=>V e g a->T P m Q e j (kT kind c rest g)
  |.panic a=>V e g a->T P m Q e j (G (c.raise [⟨g,false,false⟩]) rest)):=by
  intro r i B;induction B with
  |@done r σ K=>grind
  | freeze b l hb C u _ p=>
    intro e j g n q v;refine T.CA q hb (by cases kind<;>rfl) λD E s w x=>?_
    exact p D E g (n.trans s) (x _ u) (w _ _ _ v C)
  |oo F _ p=>intro e j g n q v;exact p e j g n q (F _ _ v)
  |@less r σ i u _ p=>intro e j g n q;exact p e j g n (q.le u)
 exact h Q k O o c rest kind y z A (λe j g H i a b c d=>key _ _ d e j g a c b) (λe j g H i a b c d=>key _ _ d e j g a c b)
end
def LZ(σ:ab)(a:AV)(kk:Nat)(es:adV):Prop:=Gt a kk es\/∃b off cap l,a=.ga b off es.length cap/\σ b=some (.cells l)/\(∀e∈es,e.cells.length=kk)/\∀(j:Nat) x,(flatten es)[j]?=some x->l[off+j]?=some x
def cz(σ0 σ:ab)(a:AV)(kk:Nat)(es:adV):Prop:=σ0.Le σ/\((es=[]/\(a=.nil\/a=.sl kk [] .exact))\/∃b cap rest,a=.ga b 0 es.length cap/\σ0 b=none/\es.length<=cap/\(∀e∈es,e.cells.length=kk)/\σ b=some (.cells (flatten es++rest))/\rest.length=(cap-es.length)*kk)
def cz.rd{σ0 σ a kk es}(h:cz σ0 σ a kk es):LZ σ a kk es:=by
 rcases h.2 with⟨rfl,rfl|rfl⟩|⟨b,cap,rest,rfl,_,_,c,d,_⟩
 . exact .inl (.inl ⟨rfl,rfl⟩)
 . exact .inl (.inr ⟨_,rfl⟩)
 . refine .inr ⟨b,0,cap,_,rfl,d,c,λj x e=>?_⟩
   grind
def cz.empty  σ   kk :cz σ σ (.sl kk [] .exact) kk []:=⟨λ_ _ h=>h,.inl ⟨rfl,.inr rfl⟩⟩
def cz.thaw{σ0 σ a kk es e}(h:cz σ0 σ a kk es)(d:e (.val (.sl kk es .any)) σ0):oC e (.val a) σ:=by
 rcases h.2 with⟨rfl,rfl|rfl⟩|⟨b,cap,rest,rfl,l,g,f,i,m⟩
 . exact .less h.1 (.oo (fy kk) (.done d))
 . exact .less h.1 (.oo (eY kk _ _) (.done d))
 . have n:=bW f
   refine .freeze b _ i (.sl 0 cap kk es .any g ?_ f (λj x o=>?_) (.inl rfl)) (PE.del b _ σ) (.less (λc y k=>?_) (.done d))
   . have:cap*kk=es.length*kk+(cap-es.length)*kk:=by rw[<-Nat.add_mul];simp_all
     simp_all
   . grind
   . have:c≠b:=λq=>by simp_all
     simp only[ab.del,this,aat];exact h.1 c y k
section
variable{P:adY}(L:jO P){k:ar}{O:ak}{Kp:ads}
def V.Sq{v b off len cap}(h:V k v (.ga b off len cap)):v=.slice (some ⟨b,off,none⟩) len cap:=by cases h;rfl
def V.L0{v}(h:V k v .nil):v=.slice none 0 0:=by cases h;rfl
def LZ.facts{σ v a kk es}(h:LZ σ a kk es)(c:V k v a):∃base cap,v=.slice base es.length cap/\∀e∈es,e.cells.length=kk:=by
 rcases h with(⟨rfl,rfl⟩|⟨sp,rfl⟩)|⟨b,off,cap,l,rfl,d,f,g⟩
 . cases c;simp_all
 . rcases c.lR with⟨i,rfl,rfl,_⟩|⟨b,off,cap,N,E,rfl,j,m,n,o,_⟩
   . simp_all
   simp_all
 . cases c;simp_all
def sR{K σ v a kk es}(g:V k v a)(i:Rel k O σ)(d:LZ σ a kk es)
 (m:∀c ,c.size=es.length*kk->(∀(j:Nat) u x,c[j]?=some u->(flatten es)[j]?=some x->V k u x)->(∀(j:Nat) u,c[j]?=some u->flat u=true)->K c k O):dY P (Builtin.firstCells kk es.length v) k O K Kp:=by
 rcases d with d|⟨b,off,cap,l,rfl,n,o,p⟩
 . exact rK g d (aaA _) m
 . cases g
   obtain⟨y,q,r⟩:=i.1 b _ n (by simp);cases r with
   | cells s e _ t w z=>
     unfold Builtin.firstCells loadCells;have A:=bW o;refine jV (l:=flatten es) (base:=off) (off:=0) (λj x B=>?_) (es.length*kk) 0 #[] (by omega) λvs C D E=>?_
     . have f:=p j x B
       have F:off+j<s.size:=by grind
       exact qG.own (k:=k) q t w z (off+j) x f|>.imp λv h=>by grind
     grind
end
section
variable{P:adY}(L:jO P){o:Oper}{env:Env}{σ:ab}{K:adB}{Kp:adB}
def pq{s x G t t2 e e2 it W g σ0 es xs}(ho:o.op=.call ⟨.builtin .append,#[s,x],G⟩)(h0:G[0]?=some t)(N:G[1]?=some t2)(ht:L.tt t=some it)(hk:it.kind=.slice e)
 (ay:L.tt t2=some W) (aC:W.kind=.slice e2) (H:L.tt e=some g) (hb:g.bytes<=1024) (hlen:es.length+xs.length<=1073741824) (hs:cz σ0 σ (an env s) g.size es) (hx:LZ σ (an env x) g.size xs)
 (hz:(mD g.zero).cells.all AV.flat=true) (hK:∀a' σ',cz σ0 σ' a' g.size (es++xs)->K a' σ'):aQ P o env σ K Kp:=λk O ρ p J=>by
 have A:=p s (by simp_all)
 have Q:=p x (by simp_all)
 have:execOp ρ o=(do pure (Next.value (<-Builtin.append_ G o.type #[ρ s,ρ x]))):=by simp[execOp,ho,resolve,invoke,builtin]
 rw[this];refine af ?_;have aE:g.zero.cells.size=g.size:=by obtain⟨_,_,_,_,_,_,h⟩:=L.facts H;exact h
 obtain⟨base,cap,B,aL⟩:=hs.rd.facts A;obtain⟨aO,bA,M,b0⟩:=hx.facts Q;have w:=hs.1;unfold Builtin.append_;simp only[h0,N,acN,acF,adh];refine af (aH L ht λd _ hd=>?_)
 rw[cd hd hk,B];dsimp only;refine af (bT L H ?_);refine af (aH L ay λd2 _ X=>?_)
 rw[cd X aC];refine af (ag ?_);dsimp only;simp only[aap,aat,Bool.not_false,aay];refine af (s:=Builtin.lenOf (ρ x)) ?_;rw[M];refine ag ?_;rw[<-M];have C:=bW aL;have b1:=bW b0
 by_cases n:es.length+xs.length<=cap
 ·
  rw[aav n];refine af (sR Q J hx λc D b2 Y=>?_)
  rcases hs.2 with⟨rfl,m⟩|⟨b,Z,rest,m,b3,hc,_,I,E⟩
  . have bB:cap=0:=by
     rcases m with m|m
     . rw[m,B]at A;have:=A.L0;simp_all
     . rw[m,B]at A
       rcases A.lR with⟨_,q1,_,_⟩|⟨_,_,Z,_,_,q1,_,_,_,_,_,q7⟩
       . grind
       . cases q1;exact q7
    have a7:xs=[]:=by simp_all
    subst a7
    have b4:c.toList=[]:=by simp_all
    have c6:V k (.slice base 0 cap) (an env s):=by simp_all
    cases base with
    |none=>dsimp only;refine ag (ag ⟨_,.inl rfl,.here ⟨.refl k,an env s,σ,?_,J,hK _ _ ⟨w,.inl ⟨rfl,m⟩⟩⟩⟩);omega
    |some ad=>dsimp only;rw[b4];refine af (ag ?_);refine ag (ag ⟨_,.inl rfl,.here ⟨.refl k,an env s,σ,?_,J,hK _ _ ⟨w,.inl ⟨rfl,m⟩⟩⟩⟩);omega
  . rw [m, B] at A
    have hinv:=A.Sq;simp only[Value.slice.injEq,true_and]at hinv;obtain⟨rfl,rfl⟩:=hinv;obtain⟨y,hO,hy⟩:=J.1 b _ I (by simp)
    cases hy with
    | cells cc et _ g1 g2 g3=>
      dsimp only;rw[jc]
      have R:cc.size=cap*g.size:=by rw[g1,abg,C,E,<-Nat.add_mul];grind
      have hmul:(es.length+xs.length)*g.size<=cc.size:=by rw[R];exact abR _ n
      rw[acR]at hmul;refine af (qH c.toList 0 cc O hO (by grind) (λu hu=>?_) λO' c' b5 b6 b7=>?_)
      . obtain⟨j,hj,rfl⟩:=abA.1 hu
        exact Y j _ (by grind)
      . have c7:xs.length*g.size<=rest.length:=by grind
        refine ag (ag ⟨_,.inl rfl,.here ⟨.refl k,.ga b 0 (es++xs).length cap,σ.set b (.cells (flatten (es++xs)++rest.drop (xs.length*g.size))),?_,?_,hK _ _ ⟨?_,.inr ⟨b,cap,rest.drop (xs.length*g.size),rfl,b3,by grind,λz hz=>?_,by simp[ab.set],?_⟩⟩⟩⟩)
        . rw[show es.length+xs.length=(es++xs).length by simp]
          exact .ga ..
        . rw [b5]
          refine J.set (.cells c' et _ ?_ (λi v a p m=>?_) (λi v p=>?_))
          . rw[b6,g1,flatten_append];grind
          . rw [b7]at p
            simp only[acm,Array.length_toList,D,Nat.add_zero]at p;rw[flatten_append,ace]at m
            by_cases N:i<es.length*g.size
            . grind
            . rw[abu (by omega),C]at m
              by_cases h2:i<es.length*g.size+xs.length*g.size
              . grind
              . rw[aau (by omega)]at p
                rw[abu (by omega),List.getElem?_drop]at m
                refine g2 i v a p ?_;rw[abu (by omega),C,<-m]
                congr 1;omega
          grind
        . intro b' y hy
          have:b'≠b:=λq=>by grind
          simp[ab.set,this,w b' y hy]
        . grind
        . rw[List.length_drop,E,abg,<-Nat.sub_mul];grind
 ·
  rw[aau n]
  have a8:¬((es.length+xs.length:Nat):Int)>IntKind.i64.max:=by have:IntKind.i64.max=9223372036854775807:=rfl;omega
  refine af (dh L H λinfo _ _ c9 _=>?_)
  rw[aau (λq=>a8 q.1)]
  refine af (dh L H λS _ _ a9 _=>?_)
  have T:=nextslicecap_le (Nat.lt_of_not_le n)
  have U:¬(Builtin.nextslicecap (es.length+xs.length) cap*S.bytes>2 ^ 48):=by rw[a9];have N:Builtin.nextslicecap (es.length+xs.length) cap*g.bytes<=(4*(es.length+xs.length)+2000)*1024:=Nat.mul_le_mul T hb;omega
  rw[aau U];refine af (s:=choose _) (λt=>?_)
  have F:(Question.appendCap (es.length+xs.length) cap e).forced=false:=rfl;rw[F];simp only[aap,aat];have b8:∃f,(Question.appendCap (es.length+xs.length) cap e).cut t=f/\es.length+xs.length<=f:=⟨_,rfl,by simp only[Question.cut];omega⟩
  obtain⟨f,al,c5⟩:=b8;rw[al];refine ag ?_;refine af (dh L H λb9 _ _ _ _=>?_)
  refine af (qI ?_);refine af (sR (a:=an env s) (by simp_all) J hs.rd λc D b2 Y=>?_)
  refine af (sR Q J hx λd bb X ca=>?_)
  refine af (dg L H ?_);have bm:=yt (k:=k) hz
  have bq:(Builtin.zeroCells g.zero.cells (f-(es.length+xs.length))).size=(f-(es.length+xs.length))*g.size:=by simp[Builtin.zeroCells,aE]
  have cb:∀(i:Nat) v,(Builtin.zeroCells g.zero.cells (f-(es.length+xs.length)))[i]?=some v->flat v=true:=by
   intro i v p;have hi:=(zA.1 p).1;simp only[Builtin.zeroCells]at p;obtain⟨cg,H⟩:=zA.1 p;simp at H;subst H
   have av:0<g.zero.cells.size:=by grind
   have hm:i % g.zero.cells.size<g.zero.cells.size:=Nat.mod_lt _ av;rw[getElem!_pos g.zero.cells _ hm];exact bm.2.2 (i % g.zero.cells.size) _ (by simp[hm])
  refine af (jW (l:=flatten (es++xs)++List.replicate ((f-(es.length+xs.length))*g.size) .cR) J ?_ (λi v a p m=>?_) (λi v p=>?_) λr k' O' hn bw ax=>ag (ag ⟨_,.inl rfl,.here ⟨bw,.ga r 0 (es++xs).length f,_,?_,ax,hK _ _ ⟨λb' y hy=>?_,.inr ⟨r,f,List.replicate ((f-(es.length+xs.length))*g.size) .cR,rfl,?_,by grind,λz hz=>?_,by simp[ab.set],?_⟩⟩⟩⟩))
  . simp only[Array.size_append,D,bb,bq,flatten_append,abg,C,b1,List.length_replicate]
  . rw [flatten_append,ace]at m
    rw[Array.append_assoc]at p
    by_cases N:i<es.length*g.size
    . rw[abN (by omega)]at m
      grind
    . rw[abu (by omega),C]at m
      rw[acr (by omega),D]at p
      by_cases h2:i-es.length*g.size<xs.length*g.size
      . grind
      . rw[abu (by omega)]at m
        have:=List.mem_of_getElem? m;rw[List.mem_replicate]at this;rw[this.2];exact .cR _
  . rw[Array.append_assoc]at p
    by_cases N:i<es.length*g.size
    . grind
    . rw[acr (by omega),D]at p
      grind
  . rw[show es.length+xs.length=(es++xs).length by simp];exact .ga ..
  . have N:=w b' y hy
    have:b'≠r:=λq=>by grind
    simp[ab.set,this,N]
  . cases q:σ0 r with
    |none=>rfl
    |some y=>have:=w r y q;grind
  . grind
  . simp
end
def Ej(env:Env)(len cap:Nat)(lo hi mx:Option adZ)(l h m:Nat):Prop:=
 (match mx with|none=>m=cap|some o=>(∃kd,an env o=.lit (.int kd (m:Int)))/\m<=cap)/\
 (match hi with|none=>mx=none/\h=len|some o=>(∃kd,an env o=.lit (.int kd (h:Int)))/\h<=m)/\
 (match lo with|none=>l=0|some o=>(∃kd,an env o=.lit (.int kd (l:Int)))/\l<=h)
def Ej.le{env len cap lo hi mx l h m}(hb:Ej env len cap lo hi mx l h m)(a:len<=cap):l<=h/\h<=m/\m<=cap:=by
 obtain⟨b,c,d⟩:=hb
 grind
section
variable{P:adY}(L:jO P){k:ar}{O:ak}{Kp:ads}
def rN{K v kd}{z y:Nat}{c}(a:V k v (.lit (.int kd (z:Int))))(b:z<=y)(d:K z k O):dY P (Instr.sliceBound v y c) k O K Kp:=by
 rw[dD a];unfold Instr.sliceBound;refine af (ag ?_);dsimp only;rw[aav ⟨by omega,by omega⟩];exact ag (by simp_all)
def mF{K env ρ isSlice len cap lo hi mx l h m}(hb:Ej env len cap lo hi mx l h m)
 (e:∀o,(lo=some o\/hi=some o\/mx=some o)->V k (ρ o) (an env o)) (j:K (l,h,m) k O):dY P (Instr.sliceBounds isSlice len cap (lo.map ρ) (hi.map ρ) (mx.map ρ)) k O K Kp:=by
 obtain⟨f,g,i⟩:=hb;unfold Instr.sliceBounds
 have a:∀c,dY P (do
  let l <-match lo.map ρ with
   |some v=>Instr.sliceBound v h c
   |none=>pure 0
  pure (l,h,m):Sem (Nat × Nat × Nat)) k O K Kp:=by
  intro c;cases lo with
  |none=>simp only at i;subst i;exact af (ag (ag j))
  |some o=>obtain⟨⟨kd,b⟩,d⟩:=i;have:=e o (.inl rfl);rw[b]at this;exact af (rN this d (ag j))
 cases mx with
 | none=>
   simp only at f;subst f;refine af (ag ?_);cases hi with
   |none=>obtain⟨_,rfl⟩:=g;exact af (ag (a _))
   |some o=>obtain⟨⟨kd,b⟩,d⟩:=g;have:=e o (.inr (.inl rfl));rw[b]at this;exact af (rN this d (a _))
 | some p=>
   obtain⟨⟨s,q⟩,r⟩:=f;have n:=e p (.inr (.inr rfl));rw[q]at n;refine af (rN n r ?_);cases hi with
   |none=>simp_all
   |some o=>obtain⟨⟨kd,b⟩,d⟩:=g;have:=e o (.inr (.inl rfl));rw[b]at this;exact af (rN this d (a _))
end
def tO{kk}:∀{es}(_:∀e∈es,e.cells.length=kk)  l ,flatten (es.drop l)=(flatten es).drop (l*kk)
 |[],_,l=>by simp[flatten]
 |a::es,h,0=>by simp
 |a::es,h,l+1=>by rw[List.drop_succ_cons,tO (λe b=>h e (by simp[b])) l,flatten_cons,acR,Nat.one_mul,Nat.add_comm,<-List.drop_drop,<-h a (by simp),List.drop_left]
def tP{kk}:∀{es}(_:∀e∈es,e.cells.length=kk)  l ,flatten (es.take l)=(flatten es).take (l*kk)
 |[],_,l=>by simp[flatten]
 |a::es,h,0=>by simp[flatten]
 | a::es,h,l+1=>by
   have c:=h a (by simp);have d:(l+1)*kk=l*kk+kk:=by grind
   rw[List.take_succ_cons,flatten_cons,tP (λe b=>h e (by simp[b])) l,flatten_cons,adk,aca (l:=a.cells) (by omega)]
   simp_all
section
variable{P:adY}(L:jO P){o:Oper}{env:Env}{σ:ab}{K:adB}{Kp:adB}
def oD{t x lo hi mx}(a:o.op=.slice t x lo hi mx):x∈o.op.operands/\∀y,(lo=some y\/hi=some y\/mx=some y)->y∈o.op.operands:=by simp_all
def V.L1{k:ar}{b off cap kk N E l h m:Nat}{es sp}(p:k.sh b=some (E,N))(s:off+cap*kk<=N)(g:∀e∈es,e.cells.length=kk)
 (t:∀  j  a,(flatten es)[j]?=some a->∃v,k.cell b (off+j)=some v/\V k v a/\bU.flat v=true) (u:l<=h) (w:h<=m) (x:m<=cap) (q:h<=es.length) (c:sp=.any\/(sp=.exact/\m=h)):
 V k (.slice (if m=l then some ⟨b,off,none⟩else(some (⟨b,off,none⟩:Addr)).map (·.add (l*kk))) (h-l) (m-l)) (.sl kk ((es.drop l).take (h-l)) sp):=by
 have hlen:((es.drop l).take (h-l)).length=h-l:=by simp;omega
 have d:∀e∈(es.drop l).take (h-l),e.cells.length=kk:=λe i=>g e (List.mem_of_mem_drop (acQ i))
 by_cases f:m=l
 . rw[aav f]
   have r:h-l=0:=by omega
   have n:m-l=0:=by omega
   rw[r,n];have:(es.drop l).take 0=[]:=by simp
   rw[this];refine V.ofRow (kk:=kk) (es:=[]) (cap:=0) (by simp) p (by omega) (by simp) (λj a o=>by simp[flatten]at o) (by rcases c with rfl|⟨rfl,_⟩<;>simp[oy.fits])
 . rw[aau f,abz,jc]
   conv=>lhs;rw[<-hlen]
   refine V.ofRow (by omega) p ?_ d (λj a o=>?_) ?_
   . have:=abR kk (show l+(m-l)<=cap by omega)
     grind
   . rw[tP (λe i=>g e (List.mem_of_mem_drop i)),tO g]at o
     grind
   . rcases c with rfl|⟨rfl,rfl⟩
     . trivial
     . show m-l=_;rw[hlen]
def yB{t e:Nat}{x lo hi it g es sp l h}(r:o.op=.slice t x lo hi none)(u:L.tt t=some it)(v:it.kind=.slice e)(w:L.tt e=some g)
 (D:an env x=.sl g.size es sp) (hb:∀cap,es.length<=cap->Ej env es.length cap lo hi none l h cap) (i:h<=es.length) (y:K (.sl g.size ((es.drop l).take (h-l)) .any) σ):aQ P o env σ K Kp:=
 aQ.val (s:=λc=>Instr.sliceAt t (c x) (lo.map c) (hi.map c) none) (λc=>by simp[execOp,r]) λk O c j z=>by
  obtain⟨F,A⟩:=oD r;have B:=j x F;rw[D]at B;unfold Instr.sliceAt;refine af (aH L u λT _ m=>?_);rw[cd m v];dsimp only;unfold Instr.slice;refine af (aH L u λd _ hd=>?_);rw[cd hd v];rcases B.lR with⟨G,n,rfl,_⟩|⟨b,off,cap,N,E,n,C,H,I,J,M,U⟩
  . rw[n]
    have a:=hb 0 (by simp);have:=a.le (by simp);have p:l=0:=by omega
    have q:h=0:=by omega
    cases G<;>(
     dsimp only;refine af (mF (mx:=none) a (λo f=>j o (A o (by simpa using f))) ?_);dsimp only;refine af (bT L w (ag (.here ⟨.refl k,_,σ,?_,z,y⟩)));subst p;subst q;simp only[aay,Nat.sub_zero,List.drop_zero,List.take_nil];exact .slnil _ _ _ (.inl rfl))
  . rw[n]
    dsimp only;have a:=hb cap C;obtain⟨Q,R,S⟩:=a.le C;refine af (mF (mx:=none) a (λo f=>j o (A o (by omega))) ?_);dsimp only;refine af (bT L w (ag (.here ⟨.refl k,_,σ,?_,z,y⟩)));exact V.L1 H I J M Q R S i (.inl rfl)
def wi{t e:Nat}{x lo hi mx it n es sp l h}(z:o.op=.slice t x lo hi (some mx))(A:L.tt t=some it)(B:it.kind=.slice e)(p:L.tt e=some n)
 (G:an env x=.sl n.size es sp) (hb:∀cap,es.length<=cap->Ej env es.length cap lo hi (some mx) l h h) (q:h<=es.length) (r:∀a,(a=.sl n.size ((es.drop l).take (h-l)) .exact\/(es=[]/\a=.nil))->K a σ):aQ P o env σ K Kp:=
 aQ.val (s:=λg=>Instr.sliceAt t (g x) (lo.map g) (hi.map g) (some (g mx))) (λg=>by simp[execOp,z]) λk O g m u=>by
  obtain⟨H,v⟩:=oD z;have C:=m x H;rw[G]at C;unfold Instr.sliceAt;refine af (aH L A λU _ w=>?_);rw[cd w B];dsimp only;unfold Instr.slice;refine af (aH L A λd _ hd=>?_);rw[cd hd B];rcases C.lR with⟨D,y,rfl,_⟩|⟨b,off,cap,N,E,y,F,I,J,M,Q,W⟩
  . rw[y]
    have c:=hb 0 (by simp);have:=c.le (by simp);have i:l=0:=by omega
    have j:h=0:=by omega
    cases D with
    | none=>
      dsimp only;refine af (mF (mx:=some mx) c (λo f=>m o (v o f)) ?_);dsimp only;refine af (bT L p (ag (.here ⟨.refl k,.nil,σ,?_,u,r _ (.inr ⟨rfl,rfl⟩)⟩)));subst i;subst j;simp only[aay,Nat.sub_zero];exact .lit _
    | some D=>
      dsimp only;refine af (mF (mx:=some mx) c (λo f=>m o (v o f)) ?_);dsimp only;refine af (bT L p (ag (.here ⟨.refl k,_,σ,?_,u,r _ (.inl rfl)⟩)));subst i;subst j;simp only[aay,Nat.sub_zero,List.drop_zero,List.take_nil];exact .slnil _ _ _ (.inr ⟨rfl,rfl⟩)
  . rw[y]
    dsimp only;have c:=hb cap F;obtain⟨R,S,T⟩:=c.le F;refine af (mF (mx:=some mx) c (λo f=>m o (v o f)) ?_);dsimp only;refine af (bT L p (ag (.here ⟨.refl k,_,σ,?_,u,r _ (.inl rfl)⟩)));exact V.L1 I J M Q R S T q (.inr ⟨rfl,rfl⟩)
end
section
variable{P:adY}(L:jO P){o:Oper}{env:Env}{σ:ab}{K:adB}{Kp:adB}
def CB{op}{t C e:Nat}{x y i kk es sp}(D:o.op=.binOp op t x y C)(F:L.tt t=some i)(G:i.kind=.slice e)(H:an env y=.nil)
 (I:an env x=.sl kk es sp) (j:op=.eql\/op=.neq) (J:es=[]->K (.lit (.bool (op==.eql))) σ) (r:K (.lit (.bool (op==.neq))) σ):aQ P o env σ K Kp:=
 aQ.val (s:=λg=>do eqGuard op t x y (g x) (g y);binOp op t (g x) (g y)) (λg=>by simp[execOp,D]) λk O g l M=>by
  have A:=l x (by simp_all)
  have B:=l y (by simp_all)
  rw[H]at B;rw[I]at A;have Q:g y=.slice none 0 0:=B.L0
  have m:∃a n c,g x=.slice a n c/\(a.isNone=true->es=[]):=by
   rcases A.lR with⟨W,m,h,_⟩|⟨b,off,cap,N,E,m,_⟩
   . simp_all
   simp_all
  obtain⟨a,n,c,m,X⟩:=m;rw[m,Q];have S:eqGuard op t x y (.slice a n c) (.slice none 0 0)=pure ():=by rcases j with rfl|rfl<;>simp[eqGuard]
  rw[S];refine af (ag ?_)
  have p:∀(R:Bool->ar->ak->Prop) (u:ads),R a.isNone k O->dY P (Op.equal t (.slice a n c) (.slice none 0 0)) k O R u:=λR u T=>by
   show dY P (Op.equalIn (9999+1) t (.slice a n c) (.slice none 0 0)) k O R u;rw[Op.equalIn];refine af (aH L F λd _ hd=>?_)
   rw[cd hd G];cases a<;>exact ag T
  have fin:∀b:Bool,K (.lit (.bool b)) σ->dY P (do pure (.bool b)) k O (λv q w=>ns q w λz U=>k.Le z/\∃a f,V z v a/\Rel z U f/\K a f) (λv q w=>k.Le q/\∃a f,V q v a/\Rel q w f/\Kp a f):=λb hb=>ag (.here ⟨.refl k,_,σ,.lit _,M,hb⟩)
  rcases j with rfl|rfl
  . refine af (s:=Op.equal t (.slice a n c) (.slice none 0 0)) (p _ _ (fin _ ?_))
    cases Y:a.isNone with
    |true=>simp_all
    |false=>exact r
  . refine af (s:=Op.equal t (.slice a n c) (.slice none 0 0)) (p _ _ (fin (!a.isNone) ?_))
    grind
def Jn{i d}(h:dV P i d=true)(a:i.kind=.bool):d=.bool:=by cases d<;>simp_all [dV]
def A8{op}{t n:Nat}{x y i p q}(r:o.op=.binOp op t x y n)(u:L.tt t=some i)(v:i.kind=.bool)(w:an env x=.lit (.bool p))(z:an env y=.lit (.bool q)){b}(c:(op=.eql/\b=(p==q))\/(op=.neq/\b=!(p==q)))(h:K (.lit (.bool b)) σ):aQ P o env σ K Kp:=
 aQ.val (s:=λa=>do eqGuard op t x y (a x) (a y);binOp op t (a x) (a y)) (λa=>by simp[execOp,r]) λk O a e j=>by
  have l:=e x (by simp_all)
  have m:=e y (by simp_all)
  rw[w]at l;rw[z]at m;rw[sO l,sO m];have A:eqGuard op t x y (.bool p) (.bool q)=pure ():=by rcases c with⟨rfl,_⟩|⟨rfl,_⟩<;>simp[eqGuard]
  rw[A];refine af (ag ?_)
  have f:∀(R:Bool->ar->ak->Prop) (g:ads),R (p==q) k O->dY P (Op.equal t (.bool p) (.bool q)) k O R g:=λR g B=>by
   show dY P (Op.equalIn (9999+1) t (.bool p) (.bool q)) k O R g;rw[Op.equalIn];refine af (aH L u λd _ hd=>?_)
   rw[Jn hd v];exact ag B
  rcases c with⟨rfl,rfl⟩|⟨rfl,rfl⟩
  . exact af (s:=Op.equal t (.bool p) (.bool q)) (f _ _ (ag (.here ⟨.refl k,_,σ,.lit _,j,h⟩)))
  . exact af (s:=Op.equal t (.bool p) (.bool q)) (f _ _ (ag (.here ⟨.refl k,_,σ,.lit _,j,h⟩)))
end
inductive wX{α:Sort _}(a:α):Type
 |mk
def Au{α:Type}(x:Option α)(K:α->Prop)(u:wX K:=.mk):Prop:=∃a,x=some a/\K a
@[simp] theorem Jo{α a}{K:α->Prop}{u}:Au (some a) K u=K a:=by simp[Au]
@[simp] theorem Jp{α K u}:Au (none:Option α) K u=False:=by simp[Au]
@[simp] theorem tQ{α β f}{x:Option α}{K:β->Prop}{u}:Au (x.map f) K u=Au x (λa=>K (f a)):=by cases x<;>simp
def wj(x:Bool)(A B:Prop)(u:wX A:=.mk)(v:wX B:=.mk):Prop:=(x=true->A)/\(x=false->B)
@[simp] theorem pD{A B u v}:wj true A B u v=A:=by simp[wj]
@[simp] theorem ny{A B u v}:wj false A B u v=B:=by simp[wj]
def Xs(σ:ab)(F:adM)(u:wX F:=.mk):Prop:=∀b,σ b=none->F b
section
variable{P:adY}(L:jO P){o:Oper}{env:Env}{σ:ab}{K:adB}{Kp:adB}
def vf{x}{q t:Nat}{i}(z:o.op=.typeAssert x q t true)(r:L.tt t=some i)(A:i.kind≠.iface)(B:an env x=.lit .nilIface)
 (C:K (.cI [mD i.zero,.lit (.bool false)]) σ):aQ P o env σ K Kp:=
 aQ.val (s:=λl=>Instr.typeAssert (l x) q t true) (λl=>by simp[execOp,z]) λk O l m D=>by
  have f:=m x (by simp_all);rw[B]at f;generalize l x=v at f;cases f;unfold Instr.typeAssert;refine af (aH L r λdd _ hd=>?_);have E:∀ms,dd≠.interface ms:=λms e=>by subst e;simp[dV]at hd;exact A hd
  have pair:∀{u:Value}{b:Bool}{a:AV},V k u a->V k (.tuple #[u,.bool b]) (.cI [a,.lit (.bool b)]):=λ{u b a} h=>.cI _ _ rfl λj w c f y=>by
   match j with
   |0=>simp_all
   |1=>simp at f y;subst f;subst y;exact .lit _
   |j+2=>simp at f
  have fin:dY P ((do pure (.tuple #[<-zeroValue t,.bool false]):Sem Value)) k O (λv g n=>ns g n λp F=>k.Le p/\∃a d,V p v a/\Rel p F d/\K a d) (λv g n=>k.Le g/\∃a d,V g v a/\Rel g n d/\Kp a d):=af (dg L r (ag (.here ⟨.refl k,_,σ,pair (.mD k _),D,C⟩)))
  simp_all
end
def P4(a:TI)(len:Nat)(parts:List (Nat × AV)):Bool:=decide (len*a.size<=16777216) && (mD a.zero).cells.all AV.flat && (decide (len*a.size=0)||decide ((mD a.zero).cells.length=a.size)) && (parts.map (·.1)==List.range len) && parts.all λp=>decide (p.2.cells.length=a.size) && p.2.cells.all AV.flat
def wo{size}:∀  parts   l   s ,(parts.map (·.1)=List.range' s parts.length)->(∀p∈parts,p.2.cells.length=size/\p.2.cells.all AV.flat=true)->(s+parts.length)*size=l.length ->
 lL (λj=>some (j*size,size)) l parts=some (l.take (s*size)++flatten (parts.map (·.2)))
 |[],l,s,_,_,c=>by simp[lL,flatten]at c ⊢;simp_all
 | (i,a)::parts,l,s,d,g,c=>by
   simp only[adg,aby,List.range'_succ,List.cons.injEq]at d;obtain⟨rfl,d⟩:=d;obtain⟨h,k⟩:=g (i,a) (by simp);simp only[aby]at c;have e:i*size+size<=l.length:=by grind
   have b:i*size+a.cells.length<=l.length:=by simp_all
   simp only[lL];rw[aav ⟨h,e,k⟩];rw[wo parts (aK l (i*size) a.cells) (i+1) d (λp f=>g p (by simp[f])) (by rw[nQ b,<-c];grind)];congr 1;rw[adg,flatten_cons,<-List.append_assoc];congr 1;have:(i+1)*size=i*size+a.cells.length:=by grind
   rw[this];unfold aK;rw[ace,adk,adk];have m:(List.take (i*size) l).length=i*size:=by grind
   rw[m,aca (by omega)];congr 1;have n:i*size+a.cells.length-i*size=a.cells.length:=by omega
   grind
section
variable{P:adY}(L:jO P)
def Gv{o env σ K Kp t len e parts it a}(f:o.op=.buildSlice t len parts)(g:L.tt t=some it)(i:it.kind=.slice e)(j:L.tt e=some a)
 (h:P4 a len (parts.toList.map λp=>(p.1,an env p.2))=true) (k:K (.sl a.size (parts.toList.map λp=>an env p.2) .exact) σ):aQ P o env σ K Kp:=by
 simp only[P4,za,aci,aaw,acL,ach,KD]at h;obtain⟨⟨⟨⟨l,r⟩,m⟩,d⟩,n⟩:=h;have hlen:parts.toList.length=len:=by have:=congrArg List.length d;grind
 have b:∀p∈(parts.toList.map λp=>(p.1,an env p.2)),p.2.cells.length=a.size/\p.2.cells.all AV.flat=true:=λp c=>⟨(n p c).1,by grind⟩
 refine As L f g i j l (by grind) m (es:=parts.toList.map λp=>an env p.2) ⟨by grind,λx q=>?_⟩ ?_ k
 . obtain⟨p,c,rfl⟩:=aax.1 q
   exact(b (p.1,an env p.2) (aax.2 ⟨p,c,rfl⟩)).1
 . rw[wo (size:=a.size) _ _ 0 (by rw[acL,d,abh,hlen,List.range_eq_range']) b (by grind)]
   simp[Function.comp_def]
inductive Out where
 |ok (a:AV) (σ:ab)
 |no
 |jd (p:Prop) (x:Out)
 |new (σ:ab) (c:adV)
 |panic (v:AV) (σ:ab)
def Out.opt(x:adO)(σ:ab):Out:=match x with|some a=>.ok a σ|none=>.no
def sS(x:Out)(K Kp:adB)(u:wX K:=.mk)(v:wX Kp:=.mk):Prop:=
 match x with
 |.ok a σ=>K a σ
 |.no=>False
 |.jd p x=>p/\sS x K Kp u v
 |.new σ c=>Xs σ λb=>K (.ref b 0) (σ.set b (.cells c))
 |.panic v σ=>Kp v σ
section
variable{K Kp:adB}{u:wX K}{v:wX Kp}
@[simp] theorem Xb{a σ}:sS (.ok a σ) K Kp u v=K a σ:=propext abt
@[simp] theorem Xc:sS .no K Kp u v=False:=propext abt
@[simp] theorem oE{p x}:sS (.jd p x) K Kp u v=(p/\sS x K Kp):=propext abt
@[simp] theorem je{x σ}:sS (.opt x σ) K Kp u v=Au x (λa=>K a σ):=by cases x<;>simp[Out.opt]
end
def Gw(op:BinOp)(kd:IntKind)(a b:Int)(σ:ab):Out:=
 match op,kd with
 |.add,.i64=>.jd (fits (a+b)) (.ok (.lit (.int .i64 (a+b))) σ)
 |.sub,.i64=>.jd (fits (a-b)) (.ok (.lit (.int .i64 (a-b))) σ)
 |.mul,.i64=>.jd (fits (a*b)) (.ok (.lit (.int .i64 (a*b))) σ)
 |.eql,_=>.ok (.lit (.bool (a==b))) σ
 |.neq,_=>.ok (.lit (.bool (a !=b))) σ
 |.lss,_=>.ok (.lit (.bool (decide (a<b)))) σ
 |.leq,_=>.ok (.lit (.bool (decide (a<=b)))) σ
 |.gtr,_=>.ok (.lit (.bool (decide (a>b)))) σ
 |.geq,_=>.ok (.lit (.bool (decide (a>=b)))) σ
 |.shl,_=>.jd (0<=b) (.ok (.lit (.int kd (kd.wrap (a*2 ^ (min b.toNat kd.bits))))) σ)
 |.shr,_=>.jd (0<=b) (.ok (.lit (.int kd (a.fdiv (2 ^ (min b.toNat kd.bits))))) σ)
 |op,kd=>.opt ((nR op kd a b).map .lit) σ
def L2{op kd a b σ K Kp}(h:sS (Gw op kd a b σ) K Kp):sP op kd a b λv=>K (.lit v) σ:=by
 have key:∀x:adD,sS (.opt (x.map .lit) σ) K Kp->∃v,x=some v/\K (.lit v) σ:=λx h=>by rw[je,tQ]at h;exact h
 cases op<;>first|exact key _ h|exact h|(cases kd<;>first|exact h|exact key _ h)
def CC(mu:adR)(o:Oper)(env:Env)(σ:ab):Out:=
 match o.op with
 |.move x=>.ok (an env x) σ
 |.assign x=>.ok (an env x) σ
 | .pick c a b=>match an env c with
   |.lit (.bool x)=>.ok (if x then an env a else an env b) σ
   |_=>.no
 | .alloc t=>match L.tt t with
   |some i=>.jd ((mD i.zero).cells.all AV.flat=true) (.new σ (mD i.zero).cells)
   |none=>.no
 |.box _ x=>.jd ((an env x).cells.all AV.flat=true) (if(match o.dst with|some d=>mu.contains d|none=>false)=true then .new σ (an env x).cells else .ok (.cp (an env x) 0) σ)
 | .load t p=>match L.tt t with
   |some i=>.opt (se i σ (an env p)) σ
   |none=>.no
 | .store t p x=>match L.tt t with
   |some i=>(match sN i σ (an env p) (an env x)with|some n=>.ok (.lit undef) n|none=>.no)
   |none=>.no
 | .fieldAddr s x j=>match L.tt s with
   | some ⟨.struct,_,_,_,kI⟩=>(match kI[j]? with
     |some f=>.jd (f.2.1≠0) (.opt (tA (an env x) f.1) σ)
     |none=>.no)
   |_=>.no
 | .field s x j=>match L.tt s,an env x with
   | some ⟨.struct,_,_,_,kI⟩,.agg l=>(match kI[j]? with
     |some f=>(match L.tt f.2.2 with|some q=>.opt (cZ l f.1 q.size q.agg) σ|none=>.no)
     |none=>.no)
   |_,_=>.no
 | .indexAddr t x m=>match L.tt t with
   | some ⟨.slice e,_,_,_,_⟩=>(match L.tt e,an env x,an env m with
     |some g,.sl u es _,.lit (.int _ z)=>.jd (u=g.size/\0<=z) (.opt ((es[z.toNat]?).map λa=>.cp a 0) σ)
     |some g,.ga b off len _,.lit (.int _ z)=>.jd (0<=z/\z<len) (.ok (.ref b (off+z.toNat*g.size)) σ)
     |_,_,_=>.no)
   | some ⟨.array k e,_,_,_,_⟩=>(match L.tt e,an env m with
     |some g,.lit (.int _ z)=>.jd (0<=z/\z<k) (.opt (tA (an env x) (z.toNat*g.size)) σ)
     |_,_=>.no)
   |_=>.no
 | .index t x m=>match L.tt t with
   | some ⟨.array k e,_,_,_,_⟩=>(match L.tt e,an env x,an env m with
     |some g,.agg l,.lit (.int _ z)=>.jd (0<=z/\z<k) (.opt (cZ l (z.toNat*g.size) g.size g.agg) σ)
     |_,_,_=>.no)
   |_=>.no
 | .binOp op t x y _=>match an env x,an env y with
   | .lit (.bool a),.lit (.bool b)=>(match L.tt t with
     | some ⟨.bool,_,_,_,_⟩=>(match op with
       |.eql=>.ok (.lit (.bool (a==b))) σ
       |.neq=>.ok (.lit (.bool (!(a==b)))) σ
       |_=>.no)
     |_=>.no)
   |.lit (.int kd a),.lit (.int h b)=>.jd (kd=h\/op=.shl\/op=.shr) (if(match o.dst with|some d=>mu.contains d|none=>false)=true then .opt ((nR op kd a b).map .lit) σ else Gw op kd a b σ)
   |_,_=>.no
 | .unOp .not _ x=>match an env x with
   |.lit (.bool b)=>.ok (.lit (.bool !b)) σ
   |_=>.no
 | .convert _ t x=>match L.tt t,an env x with
   |some ⟨.int kd,_,_,_,_⟩,.lit (.int _ a)=>.ok (.lit (.int kd (kd.wrap a))) σ
   |_,_=>.no
 | .makeInterface t x=>match L.tt t with
   |some i=>.jd (i.kind≠.iface) (.ok (.m5 t (an env x)) σ)
   |none=>.no
 |.makeFunc f fs cs=>.ok (.fn f (fs.toList.map (an env)) (cs.toList.map (an env))) σ
 | .extract x j=>match an env x with
   |.cI l=>.opt (l[j]?) σ
   |_=>.no
 | .typeAssert x _ t true=>match L.tt t,an env x with
   |some i,.m5 d y=>.jd (i.kind≠.iface) (.ok (if d=t then .cI [y,.lit (.bool true)]else .cI [mD i.zero,.lit (.bool false)]) σ)
   |some i,.lit .nilIface=>.jd (i.kind≠.iface) (.ok (.cI [mD i.zero,.lit (.bool false)]) σ)
   |_,_=>.no
 |.nilCheck x=>match an env x with|.cp v off=>.ok (.cp v off) σ|.ref b off=>.ok (.ref b off) σ|.kp b l hole off=>.ok (.kp b l hole off) σ|.fn (.func f) l r=>.ok (.fn (.func f) l r) σ|_=>.no
 | .panic x=>match an env x with
   |.m5 t y=>.panic (.m5 t y) σ
   |_=>.no
 | .build t parts=>match L.tt t with
   |some i=>.jd (i.kind=.struct/\(mD i.zero).cells.all AV.flat=true) (.opt ((lL (λj=>(i.kI[j]?).map λx=>(x.1,x.2.1)) (mD i.zero).cells (parts.toList.map λp=>(p.1,an env p.2))).map .agg) σ)
   |none=>.no
 | .buildSlice t len parts=>match L.tt t with
   | some ⟨.slice e,_,_,_,_⟩=>(match L.tt e with
     |some g=>.jd (P4 g len (parts.toList.map λp=>(p.1,an env p.2))=true) (.ok (.sl g.size (parts.toList.map λp=>an env p.2) .exact) σ)
     |none=>.no)
   |_=>.no
 | .call c=>match c.callee,c.args.toList with
   | .builtin .len,[x]=>(match an env x with
     |.sl _ es _=>.ok (.lit (.int .i64 es.length)) σ
     |.lit (.slice none 0 0)=>.ok (.lit (.int .i64 0)) σ
     |.ga _ _ len _=>.ok (.lit (.int .i64 len)) σ
     |_=>.no)
   | .builtin .min,[x,y]=>(match an env x,an env y with
     |.lit (.int kd a),.lit (.int h b)=>.jd (kd=h) (.ok (.lit (.int kd (if b<a then b else a))) σ)
     |_,_=>.no)
   | .builtin .max,[x,y]=>(match an env x,an env y with
     |.lit (.int kd a),.lit (.int h b)=>.jd (kd=h) (.ok (.lit (.int kd (if b>a then b else a))) σ)
     |_,_=>.no)
   |_,_=>.no
 |_=>.no
def qL(o:Oper):Bool:=
 match o.op with
 |.buildSlice t _ _=>match L.tt t with|some ⟨.slice _,_,_,_,_⟩=>true|_=>false
 |.binOp _ t _ _ _=>match L.tt t with|some ⟨.int _,_,_,_,_⟩=>true|some ⟨.bool,_,_,_,_⟩=>true|_=>false
 |_=>tH L o
def yC{mu o env σ K Kp}(A:qL L o=true)(h:sS (CC L mu o env σ) K Kp):aQ P o env σ K Kp:=by
 unfold CC at h;unfold qL tH at A;split at h
 . next x g=>exact xw (.inl g) h
 . next x g=>exact xw (.inr g) h
 . next c a b g=>
   split at h
   . next x m=>exact H8 g m h
   . exact h.elim
 . next t g=>
   split at h
   . next i w=>exact DZ L g w h.1 h.2
   . exact h.elim
 . next t x g=>
   obtain⟨B,C⟩:=h;generalize (match o.dst with|some d=>mu.contains d|none=>false)=q at C;cases q
   . exact LQ g B C
   . exact yo g B C
 . next t p g=>
   split at h
   . next i w=>rw[je]at h;obtain⟨a,B,C⟩:=h;exact Cr L g w B C
   . exact h.elim
 . next t p x g=>
   split at h
   . next i w=>
     split at h
     . next Z B=>exact DY L g w B h
     . exact h.elim
   . exact h.elim
 . next s x j g=>
   split at h
   . next I J M kI w=>
     split at h
     . next f U=>rw[oE,je]at h;obtain⟨B,a,C,S⟩:=h;exact tB L g w rfl U B C S
     . exact h.elim
   . exact h.elim
 . next s x j g=>
   split at h
   . next I J M kI l w m=>
     split at h
     . next f U=>
       split at h
       . next fi V=>rw[je]at h;obtain⟨a,B,C⟩:=h;exact D5 L g w rfl U V m B C
       . exact h.elim
     . exact h.elim
   . exact h.elim
 . next t x ix g=>
   split at h
   . next e I J M N w=>
     split at h
     . next T kk es sp kd z F m D=>rw[oE,je,tQ]at h;obtain⟨⟨rfl,G⟩,a,B,C⟩:=h;exact yp L g w rfl F m D G B C
     . next T b off len cap kd z F m D=>exact v7 L g w rfl F m D h.1 h.2
     . exact h.elim
   . next k e I J M N w=>
     split at h
     . next T kd z F D=>rw[oE,je]at h;obtain⟨G,a,B,C⟩:=h;exact vZ L g w rfl F D G B C
     . exact h.elim
   . exact h.elim
 . next t x ix g=>
   split at h
   . next k e I J M N w=>
     split at h
     . next T l kd z F m D=>rw[oE,je]at h;obtain⟨G,a,B,C⟩:=h;exact D9 L g w rfl F m D G B C
     . exact h.elim
   . exact h.elim
 . next op t x y t2 g=>
   split at h
   . next a b m u=>
     split at h
     . next I J M N E=>
       split at h
       . exact A8 L g E rfl m u (.inl ⟨rfl,rfl⟩) h
       . exact A8 L g E rfl m u (.inr ⟨rfl,rfl⟩) h
       . exact h.elim
     . exact h.elim
   . next kd a H b m u=>
     obtain⟨a7,h⟩:=h;have n:(op≠.shl/\op≠.shr)->H=kd:=λhh=>by simp_all
     generalize (match o.dst with|some d=>mu.contains d|none=>false)=q at h;cases q with
     | true=>
       simp only[aay,je,tQ]at h;obtain⟨v,R,W⟩:=h;rw[n ⟨(λe=>by subst e;cases R),(λe=>by subst e;cases R)⟩]at u;exact dp g m u R W
     |false=>
     simp only[aap,aat]at h;have h:=L2 h;unfold sP at h;split at h
     . rw[n (by simp)]at u;exact oA g m u (.inl ⟨rfl,rfl⟩) h.1 h.2
     . rw[n (by simp)]at u;exact oA g m u (.inr (.inl ⟨rfl,rfl⟩)) h.1 h.2
     . rw[n (by simp)]at u;exact oA g m u (.inr (.inr ⟨rfl,rfl⟩)) h.1 h.2
     . rw[n (by simp)]at u;exact dp g m u rfl h
     . rw[n (by simp)]at u;exact dp g m u rfl h
     . rw[n (by simp)]at u;exact dp g m u rfl h
     . rw[n (by simp)]at u;exact dp g m u rfl h
     . rw[n (by simp)]at u;exact dp g m u rfl h
     . rw[n (by simp)]at u;exact dp g m u rfl h
     . exact tC g m u h.1 (.inl ⟨rfl,rfl⟩) h.2
     . exact tC g m u h.1 (.inr ⟨rfl,rfl⟩) h.2
     . next B C S Y h5 h6 h7 h8 h9 a8 a9=>
       obtain⟨v,R,W⟩:=h;rw[n ⟨λe=>by simp_all,λe=>by simp_all⟩]at u;exact dp g m u R W
   . exact h.elim
 . next t x g=>
   split at h
   . next b m=>exact LU g m h
   . exact h.elim
 . next s t x g=>
   simp only[g]at A;split at h
   . next kd I J M N H a E m=>
     split at A
     . next ks b1 b2 b3 b4 kt c1 c2 c3 c4 hs X=>rw[E]at X;exact yq L g hs E rfl rfl m h
     . cases A
   . exact h.elim
 . next t x g=>
   split at h
   . next i w=>exact oB L g w h.1 h.2
   . exact h.elim
 . next f fs cs g=>exact v8 g h
 . next x j g=>
   split at h
   . next l m=>rw[je]at h;obtain⟨a,B,C⟩:=h;exact yr g m B C
   . exact h.elim
 . next x xt t g=>
   split at h
   . next i d y w m=>exact sf L g w h.1 m h.2
   . next i w m=>exact vf L g w h.1 m h.2
   . exact h.elim
 . next x g=>
   split at h
   . next v off m=>exact gh g (.inl ⟨_,_,m⟩) (by simp_all)
   . next b off m=>exact gh g (.inr (.inl ⟨_,_,m⟩)) (by simp_all)
   . next b l hole off m=>exact gh g (.inr (.inr (.inr ⟨_,_,_,_,m⟩))) (by simp_all)
   . next f l r m=>exact gh g (.inr (.inr (.inl ⟨_,_,_,m⟩))) (by simp_all)
   . exact h.elim
 . next x g=>
   split at h
   . next t y m=>exact Ea g m h
   . exact h.elim
 . next t parts g=>
   split at h
   . next i w=>rw[oE,je,tQ]at h;obtain⟨⟨B,C⟩,l,S,Y⟩:=h;exact Ec L g w B C S Y
   . exact h.elim
 . next t len parts g=>
   split at h
   . next e I J M N E=>
     split at h
     . next T F=>exact Gv L g E rfl F h.1 h.2
     . exact h.elim
   . exact h.elim
 . next c g=>
   simp only[g]at A;split at h
   . next x O Q=>
     simp only[O,Q]at A;have e:=l8 O Q;split at A
     . next t G=>
       split at A
       . next e' I J M N E=>
         rw[e]at g;split at h
         . next kk es sp m=>exact Ct L g G E rfl (.inl m) h
         . next m=>exact Ct L (kk:=0) (sp:=.any) (es:=[]) g G E rfl (.inr ⟨m,rfl⟩) h
         . next b off len cap m=>exact AY L g G E rfl m h
         . exact h.elim
       . cases A
     . cases A
   . next x y O Q=>
     rw[l8 O Q]at g;split at h
     . next kd a H b m u=>obtain⟨rfl,h⟩:=h;exact rJ g m u (.inl ⟨rfl,rfl⟩) h
     . exact h.elim
   . next x y O Q=>
     rw[l8 O Q]at g;split at h
     . next kd a H b m u=>obtain⟨rfl,h⟩:=h;exact rJ g m u (.inr ⟨rfl,rfl⟩) h
     . exact h.elim
   . exact h.elim
 . exact h.elim
end
def lS(pl:List Entry):Code->Bool
 |.seq a b=>lS pl a && lS pl b
 |.block _ c=>lS pl c
 |.scope c=>lS pl c
 |.cond _ a b=>lS pl a && lS pl b
 |.loop c=>lS pl c
 |.rangeFunc _ _ a c=>lS pl a && lS pl c
 |.region id ops true=>match pl.find? λe=>e.id==id with|some e=>tN ops e|none=>true
 |_=>true
def kz(pl:List Entry)(todo:adN):Bool:=todo.all fun|.code c=>lS pl c|_=>true
def L3{pl id k k'}(h:exitTo id k=some k')(a:kz pl k=true):kz pl k'=true:=by unfold kz at a ⊢;rw[aaw]at a ⊢;exact λx b=>a x (sm h x b)
def aa(P:adY)(m:Mo)(fid n:Nat)(ro:adJ)(hold:List Entry)(todo:adN)(s:St)(K:adz):Prop:=kz hold todo=true->Go P m fid n ro todo s K
def yD(ops:adI)(n:Nat)(env:Env)(o:Oper):Option Bool:=
 match o.guard with
 |none=>some true
 | some (j,b)=>match (ops[j]?).bind (·.dst)with
   | some d=>if d<n then(match env d with
     |.lit (.bool x)=>some (if b then x else !x)
     |.lit (.tuple _)=>some false
     |_=>none)else none
   |none=>none
def Jq(x:Option Bool)(A B:Prop)(u:wX A:=.mk)(v:wX B:=.mk):Prop:=match x with|some b=>wj b A B u v|none=>False
@[simp] theorem oH{b A B u v}:Jq (some b) A B u v=wj b A B:=propext abt
@[simp] theorem UW{A B u v}:Jq none A B u v=False:=propext abt
def yE{ops n env o go no go' a u v}(f:go->go')(g:no->a)(h:Jq (yD ops n env o) go no u v):sQ ops n env o go' a:=by
 unfold yD at h;unfold sQ;cases i:o.guard with
 |none=>simp_all
 | some p=>
   obtain⟨j,b⟩:=p;rw[i]at h;simp only at h ⊢;cases hd:(ops[j]?).bind (·.dst)with
   |none=>simp_all
   | some d=>
     rw[hd]at h;simp only at h ⊢;by_cases c:d<n
     . rw [aav c]at h
       refine⟨c,?_⟩;split at h
       . next x k=>
         simp only[k];refine⟨λe=>?_,λe=>?_⟩
         . simp_all
         . cases x<;>cases b<;>simp at e
           . simp_all
           simp_all
       . simp_all
       simp_all
     simp_all
def A9{ops n env o go no u v}(h:Jq (yD ops n env o) go no u v):
 (cC ops n env o/\go)\/∃j b x d a,o.guard=some (j,b)/\ops[j]?=some a/\a.dst=some d/\d<n/\env d=.lit x/\UI x b/\no:=
 tJ (yE id id h)
section
variable{P:adY}{m:Mo}{fid n:Nat}{ro:adJ}{D:List Aq}{rc:Rec}{K:adz}{k:adN}{ops:adI}
def Go.UX{Kp i is env σ}(A:∀v env σ,Kp v σ->K (.panic v) ⟨env,σ,D,rc⟩)
 (h:di P m ops n Kp [i] env σ (λenv σ=>Go P m fid n ro (.inRegion ops is::k) ⟨env,σ,D,rc⟩ K)):Go P m fid n ro (.inRegion ops (i::is)::k) ⟨env,σ,D,rc⟩ K:=by
 obtain⟨o,l,f,h⟩:=h;rcases h with⟨w,h⟩|⟨⟨j,b,x,d,Q,B,C,hd,p,E,q⟩,h⟩
 . rcases h with⟨fo,args,F,s,t⟩|⟨s,t⟩
   . refine .call l s w f (t.mono λr c G=>?_)
     cases r with
     |val a=>exact G
     |panic v=>simp_all
   . refine .op l w f s ?_
     intro H O I u J;refine jU _ (t H O I u J) (λ_ _ _ ⟨v,L,M,N,g,e,a,c,x,y,z⟩=>⟨v,L,M,N,g,e,a,c,x,y,z⟩) (λ_ _ _ ⟨e,a,c,x,y,z⟩=>⟨e,a,c,x,y,A _ _ _ z⟩)
 . exact .unwanted l B C hd p E q h
end
section
variable{P:adY}(L:jO P)
def Gx(mu:adR)(lt:Bool)(o:Oper)(env:Env)(σ:ab):adO:=
 match o.op with
 |.load t p=>if lt then(match L.tt t with|some i=>se i σ (an env p)|none=>none)else wW L mu o env
 |_=>wW L mu o env
def CD(mu:adR)(ops:adI)(n:Nat)(lt:Bool)(σ:ab)(K:Env->Prop)(u:wX K:=.mk):adR->Env->Prop
 |[],env=>K env
 | i::S,env=>match ops[i]? with
   |some o=>(Oper.ok n o && o.dst.isSome)=true/\Jq (yD ops n env o) (Au (Gx L mu lt o env σ) λa=>CD mu ops n lt σ K u S (bp env o.dst a)) (CD mu ops n lt σ K u S (bp env o.dst (.lit (.tuple #[]))))
   |none=>False
def Gy{mu lt o env σ a}(h:Gx L mu lt o env σ=some a):wW L mu o env=some a\/(wW L mu o env=none/\lt=true/\yz L o env σ=some a):=by
 unfold Gx at h;split at h
 . next t p d=>
   cases lt
   . grind
   . simp only[aay]at h
     split at h
     . next i e=>
       have f:yz L o env σ=some a:=by simp_all
       cases b:wW L mu o env with
       |none=>grind
       | some g=>
         left;unfold wW at b;simp only[d,e]at b;split at b
         . next j v off c k=>
           cases c
           simp_all
         . simp_all
         . cases b
     . cases h
 grind
def oI{mu ops n lt σ K u}:∀{S env},CD L mu ops n lt σ K u S env->kq L mu ops n lt σ S env K
 |[],env,h=>h
 | i :: S,env,h=>by
   unfold CD at h;unfold kq;split at h
   . next o e=>
     try simp only[e]
     obtain⟨b,f⟩:=h;rw[za]at b;refine⟨b.1,b.2,?_⟩
     have main:(Au (Gx L mu lt o env σ) λa=>CD L mu ops n lt σ K u S (bp env o.dst a))->(match wW L mu o env with
      |some a=>kq L mu ops n lt σ S (bp env o.dst a) K
      | none=>lt=true/\(match yz L o env σ with
        |some a=>kq L mu ops n lt σ S (bp env o.dst a) K
        |none=>False)):=by
      rintro⟨a,g,d⟩;rcases Gy L g with h|⟨h,j,c⟩
      . simp only[h];exact oI d
      . simp only[h,c];exact⟨j,oI d⟩
     exact yE main oI f
   simp_all
def wq:Op->Bool
 |.defer _|.go _|.send _ _|.recv _ _ _|.select _ _=>false
 |.call c=>match c.callee with|.builtin .recover=>false|.builtin .close=>false|.invoke _ _=>false|_=>true
 |_=>true
def P5(m:Mo)(o:Oper)(env:Env)(σ:ab)(R:adB)(Kp:adB):Prop:=
 match o.op with
 |.call ⟨.value fo,args,_⟩=>cG P m (an env fo) (args.toList.map (an env)) σ λr b=>match r with|.val a=>R a b|.panic v=>Kp v b
 |_=>aQ P o env σ R Kp
def H9{m o env σ R Kp}(b:wq o.op=true)(h:P5 (P:=P) m o env σ R Kp):P1 P m o env σ R Kp:=by
 unfold P5 at h;split at h
 . next fo args a d=>exact .inl ⟨fo,args,a,d,h⟩
 . exact .inr ⟨(λc e=>by rw[e]at b;cases b),h⟩
def aP(P:adY)(m:Mo)(ops:adI)(n:Nat)(Kp:adB)(p:py)(env:Env)(σ:ab)(R:adA):Prop:=jy P m ops n Kp p env σ R
def P6(m:Mo)(mu:adR)(ops:adI)(n:Nat)(Kp:adB)(i:Nat)(p:py)(env:Env)(σ:ab)(go:adA)(R:adA)(u:wX go:=.mk):Prop:=
 match ops[i]? with
 | some o=>Oper.ok n o=true/\Jq (yD ops n env o) (if qL L o=true then sS (CC L mu o env σ) (λa b=>go (bp env o.dst a) b) Kp else
    if wq o.op=true then P5 (P:=P) m o env σ (λa b=>aP P m ops n Kp p (bp env o.dst a) b R) Kp else jZ P m ops n Kp i env σ (λenv σ=>aP P m ops n Kp p env σ R)) (go (bp env o.dst (.lit (.tuple #[]))) σ)
 |none=>False
def iT(m:Mo)(mu:adR)(ops:adI)(n:Nat)(Kp:adB):py->Env->ab->adA->Prop
 |.done,env,σ,R=>R env σ
 |.take S lt p,env,σ,R=>CD L mu ops n lt σ (λa=>iT m mu ops n Kp p a σ R) .mk S env
 |.one i p,env,σ,R=>P6 L m mu ops n Kp i p env σ (λenv σ=>iT m mu ops n Kp p env σ R) R
 |.both i p q,env,σ,R=>P6 L m mu ops n Kp i p env σ (λenv σ=>iT m mu ops n Kp p env σ R) R/\iT m mu ops n Kp q env σ R
def vg{m mu ops n Kp p R}(r:∀{env σ},iT L m mu ops n Kp p env σ R->jy P m ops n Kp p env σ R){i env σ}
 (h:P6 L m mu ops n Kp i p env σ (λenv σ=>iT L m mu ops n Kp p env σ R) R):jZ P m ops n Kp i env σ (λenv σ=>jy P m ops n Kp p env σ R):=by
 unfold P6 at h;split at h
 . next o g=>
   obtain⟨d,h⟩:=h;rcases A9 h with⟨s,h⟩|⟨j,b,x,t,u,v,w,k,l,y,q,h⟩
   . split at h
     . next f=>
       refine⟨o,g,d,.inl ⟨s,.inr ⟨λc e=>?_,(yC L f h).mono λa z=>r⟩⟩⟩;unfold qL tH at f;simp_all
     . split at h
       . next A=>exact⟨o,g,d,.inl ⟨s,H9 A h⟩⟩
       . exact h
   . exact⟨o,g,d,.inr ⟨⟨j,b,x,t,u,v,w,k,l,y,q⟩,r h⟩⟩
 . exact h.elim
def jy.iT{m:Mo}(mu:adR){ops:adI}{n:Nat}{Kp:adB}{R:adA}:∀{p:py}{env:Env}{σ:ab},iT L m mu ops n Kp p env σ R->jy P m ops n Kp p env σ R
 |.done,_,_,h=>.done h
 |.take S lt p,_,_,h=>jy.take L mu (kq.mono L (λa h=>jy.iT mu h) (oI L h))
 |.one i p,_,_,h=>jy.one (vg L (jy.iT mu) h)
 |.both i p q,_,_,h=>jy.both (vg L (jy.iT mu) h.1) (jy.iT mu h.2)
def aP.go{m}  mu  {ops n Kp R p env σ}(h:iT L m mu ops n Kp p env σ R):aP P m ops n Kp p env σ R:=jy.iT L mu h
def bL(m:Mo)(fid n:Nat)(ro:adJ)(mu:adR)(hold:List Entry):Nat->adN->St->adz->Prop
 |0,todo,s,K=>aa P m fid n ro hold todo s K
 | f + 1,todo,s,K=>match todo with
   |[]=>K (.leave none) s
   |.code .ret::_=>K (.leave (some .ret)) s
   |.code .skip::k=>bL m fid n ro mu hold f k s K
   |.code (.label _)::k=>bL m fid n ro mu hold f k s K
   |.inBlock _::k=>bL m fid n ro mu hold f k s K
   |.inScope _::k=>bL m fid n ro mu hold f k s K
   |.code (.seq a b)::k=>bL m fid n ro mu hold f (.code a::.code b::k) s K
   |.code (.block id c)::k=>bL m fid n ro mu hold f (.code c::.inBlock id::k) s K
   |.code (.scope c)::k=>bL m fid n ro mu hold f (.code c::.inScope c::k) s K
   | .code (.exit id)::k=>match exitTo id k with
     |some g=>bL m fid n ro mu hold f g s K
     |none=>K (.leave (some (.exit id))) s
   | .code (.cond c a b)::k=>Operand.ok n c=true/\(match an s.env c with
     |.lit (.bool x)=>wj x (bL m fid n ro mu hold f (.code a::k) s K) (bL m fid n ro mu hold f (.code b::k) s K)
     |_=>False)
   |.code (.region _ ops false)::k=>bL m fid n ro mu hold f (.inRegion ops (List.range ops.size)::k) s K
   | .code (.region id ops true)::k=>match hold.find? λe=>e.id==id with
     |some ⟨_,p⟩=>iT L m mu ops n (λv σ=>∀env,K (.panic v) {s with env,σ}) p s.env s.σ (λenv σ=>aa P m fid n ro hold k {s with env,σ} K)
     |none=>aa P m fid n ro hold (.code (.region id ops true)::k) s K
   |.inRegion _ []::k=>bL m fid n ro mu hold f k s K
   | .inRegion ops (i::is)::k=>match ops[i]? with
     | some o=>Oper.ok n o=true/\
       Jq (yD ops n s.env o) (if qL L o=true then sS (CC L mu o s.env s.σ) (λa d=>bL m fid n ro mu hold f (.inRegion ops is::k) {s with env:=bp s.env o.dst a,σ:=d} K) (λa d=>K (.panic a) {s with σ:=d})
        else if wq o.op=true then P5 (P:=P) m o s.env s.σ (λa d=>aa P m fid n ro hold (.inRegion ops is::k) {s with env:=bp s.env o.dst a,σ:=d} K) (λa d=>∀env,K (.panic a) {s with env,σ:=d})
        else aa P m fid n ro hold (.inRegion ops (i::is)::k) s K) (bL m fid n ro mu hold f (.inRegion ops is::k) {s with env:=bp s.env o.dst (.lit (.tuple #[]))} K)
     |none=>aa P m fid n ro hold (.inRegion ops (i::is)::k) s K
   |todo=>aa P m fid n ro hold todo s K
def Go.bL{m:Mo}{fid n:Nat}{ro:adJ}(mu:adR)(hold:List Entry):∀(f:Nat){todo:adN}{s:St}{K:adz},kz hold todo=true->bL L m fid n ro mu hold f todo s K->Go P m fid n ro todo s K
 |0,_,_,_,g,h=>h g
 | f + 1,todo,s,K,g,h=>by
   unfold bU.bL at h;split at h
   . exact .leave (.inl ⟨rfl,rfl⟩) h
   . exact .leave (.inr (.inl ⟨_,rfl,rfl⟩)) h
   . exact .skip (Go.bL mu hold f (by simpa[kz,lS]using g) h)
   . exact .label (Go.bL mu hold f (by simpa[kz,lS]using g) h)
   . exact .inBlock (Go.bL mu hold f (by simpa[kz,lS]using g) h)
   . exact .inScope (Go.bL mu hold f (by simpa[kz,lS]using g) h)
   . exact .seq (Go.bL mu hold f (by simpa[kz,lS,and_assoc]using g) h)
   . exact .block (Go.bL mu hold f (by simpa[kz,lS]using g) h)
   . exact .scope (Go.bL mu hold f (by simpa[kz,lS]using g) h)
   . split at h
     . next S A=>exact .exit A (Go.bL mu hold f (L3 A (by simp only[kz,abF,za]at g ⊢;exact g.2)) h)
     . next A=>exact .leave (.inr (.inr ⟨_,_,rfl,A,rfl⟩)) h
   . next c a b k=>
     obtain⟨B,u⟩:=h;split at u
     . next x C=>
       refine .cond C B ?_;cases x
       . exact Go.bL mu hold f (by simp only[kz,abF,za,lS]at g ⊢;simp_all) (u.2 rfl)
       . exact Go.bL mu hold f (by simp only[kz,abF,za,lS]at g ⊢;simp_all) (u.1 rfl)
     simp_all
   . exact .region (Go.bL mu hold f (by simpa[kz,lS]using g) h)
   . next id ops k=>
     split at h
     . next E p N=>
       have F:tN ops ⟨E,p⟩=true:=by simp only[kz,abF,lS,N,za]at g;exact g.1
       simp only[tN,za]at F;obtain⟨env,σ,D,rc⟩:=s;refine Go.draw L.mixed F.1 λl B u O=>?_
       exact di.mono (λenv σ h=>h (by simp only[kz,abF,za]at g ⊢;exact g.2)) _ _ _ (jy.iT L mu h _ _ _ F.2 l B u O (λ_ _ _ h=>by cases h))
     . exact h g
   . exact .AW (Go.bL mu hold f (by simpa[kz,lS]using g) h)
   . next ops i is k=>
     split at h
     . next o G=>
       obtain⟨w,h⟩:=h;have q:kz hold (.inRegion ops is::k)=true:=by simpa[kz,lS]using g
       rcases A9 h with⟨M,t⟩|⟨j,b,x,d,T,t,Q,hd,H,C,I,h⟩
       . split at t
         . next y=>
           refine .op G M w (λc e=>?_) ?_
           . unfold qL tH at y;simp_all
           . exact(yC L y t).mono λa r J=>Go.bL mu hold f q J
         . split at t
           . next R=>
             have z:di P m ops n (λa r=>∀env,K (.panic a) {s with env,σ:=r}) [i] s.env s.σ (λenv r=>Go P m fid n ro (.inRegion ops is::k) {s with env,σ:=r} K):=⟨o,G,w,.inl ⟨M,(H9 R t).mono λa r J=>J q⟩⟩
             exact Go.UX (λv env σ h=>h env) z
           . exact t g
       . exact .unwanted G t Q hd H C I (Go.bL mu hold f q h)
     . exact h g
   . exact h g
end

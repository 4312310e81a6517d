import Derived.Orders
import Derived.Test.YtabmephejpgigaaGreatDoorC3
set_option linter.all false
namespace Go.cr
open Go.Conc
def aJ.congr{P o env a σ K Kp}(h:aJ P o env σ K Kp)(d:∀x∈o.op.operands,ak a x=ak env x):aJ P o a σ K Kp:=λk O b e c=>h k O b (λx f=>by grind) c
def M7(P:abm)(m:Mo)(o:Oper)(env:Env)(σ:ab)(R:aaP)(Kp:aaP):Prop:=
 (∃fo args d,o.op=.call ⟨.value fo,args,d⟩/\cX P m (ak env fo) (args.toList.map (ak env)) σ (λr b=>match r with|.val a=>R a b|.panic v=>Kp v b))\/
 ((∀c,o.op≠.defer c)/\aJ P o env σ R Kp)
def M7.mono{P m o env σ R e Kp}(h:M7 P m o env σ R Kp)(f:∀a σ,R a σ->e a σ):M7 P m o env σ e Kp:=by
 rcases h with⟨fo,args,b,c,d⟩|⟨c,d⟩
 . refine .inl ⟨fo,args,b,c,d.mono λr g i=>?_⟩
   grind
 exact .inr ⟨c,d.mono f⟩
def M7.congr{P m o env a σ R Kp}(h:M7 P m o env σ R Kp)(b:∀x∈o.op.operands,ak a x=ak env x):M7 P m o a σ R Kp:=by
 rcases h with⟨fo,args,c,d,e⟩|⟨d,e⟩
 . refine .inl ⟨fo,args,c,d,?_⟩
   have f:ak a fo=ak env fo:=b fo (by simp_all);have g:args.toList.map (ak a)=args.toList.map (ak env):=ZS λx i=>b x (by simp_all)
   grind
 exact .inr ⟨d,e.congr b⟩
def kY(ops:aaW)(n:Nat)(env:Env)(o:Oper):Prop:=∃j b x d a,o.guard=some (j,b)/\ops[j]?=some a/\a.dst=some d/\d<n/\env d=.lit x/\RB x b
def cO(P:abm)(m:Mo)(ops:aaW)(n:Nat)(Kp:aaP):abf->Env->ab->aaO->Prop
 |[],env,σ,R=>R env σ
 | i::l,env,σ,R=>∃o,ops[i]?=some o/\Oper.ok n o=true/\
   ((bT ops n env o/\M7 P m o env σ (λa b=>cO P m ops n Kp l (bd env o.dst a) b R) Kp)\/(kY ops n env o/\cO P m ops n Kp l (bd env o.dst (.lit (.tuple #[]))) σ R))
section
variable{P:abm}{m:Mo}{fid n:Nat}{ro:aaX}{D:List ye}{rc:Rec}{K:aaN}{k:abb}{ops:aaW}
def Go.rE{Kp}:∀  l   env   σ ,(∀v env σ,Kp v σ->K (.panic v) ⟨env,σ,D,rc⟩) ->
 cO P m ops n Kp l env σ (λenv σ=>Go P m fid n ro k ⟨env,σ,D,rc⟩ K)->Go P m fid n ro (.inRegion ops l::k) ⟨env,σ,D,rc⟩ K
 |[],env,σ,_,h=>.yD h
 | i :: l,env,σ,p,⟨o,q,f,h⟩=>by
   rcases h with⟨B,h⟩|⟨⟨j,b,x,d,R,C,E,hd,s,F,t⟩,h⟩
   . rcases h with⟨fo,args,G,u,w⟩|⟨u,w⟩
     . refine .call q u B f (w.mono λr c H=>?_)
       cases r with
       |val a=>exact Go.rE l _ c p H
       |panic v=>simp_all
     refine .op q B f u ?_;intro I O J A L;refine iU _ (w I O J A L) (λ_ _ _ ⟨v,M,N,Q,g,e,a,c,x,y,z⟩=>⟨v,M,N,Q,g,e,a,c,x,y,Go.rE l _ c p z⟩) (λ_ _ _ ⟨e,a,c,x,y,z⟩=>⟨e,a,c,x,y,p _ _ _ z⟩)
   exact .unwanted q C E hd s F t (Go.rE l _ σ p h)
def DH(P:abm)(o:Oper)(env:Env)(a:AV):Prop:=∀σ,aJ P o env σ (λc b=>c=a/\b=σ) (λ_ _=>False)
def rH(P:abm)(o:Oper)(env:Env)(σ:ab)(a:AV):Prop:=aJ P o env σ (λc b=>c=a/\b=σ) (λ_ _=>False)
def iX(ops:aaW)(j i:Nat):Bool:=match ops[i]? with|some o=>o.after.toList.any λe=>Region.binds .any e && e.on==j|none=>false
def dw(ops:aaW)(o:Oper):abf:=(o.op.operands.toList.filterMap fun|.tmp t=>some t|_=>none)++(match o.guard with|some (j,_)=>(match (ops[j]?).bind (·.dst)with|some d=>[d]|none=>[])|none=>[])
def kM(ops:aaW)(rest S:abf):Bool:=
 rest.all fun i=>match ops[i]? with
  |none=>false
  | some o=>
    rest.all λj=>match ops[j]? with
     |none=>false
     | some a=>match a.dst with
       |none=>true
       | some d=>
         (if (dw ops o).contains d then
           (if S.contains i then(if S.contains j then iX ops j i && Nat.blt j i else iX ops i j)
            else(if S.contains j then iX ops j i else true))else true) &&
         (if S.contains i && i !=j && o.dst==some d then false else true)
def pP(ops:aaW):Bool:=(List.range ops.size).all λi=>match ops[i]? with|none=>false|some o=>o.after.toList.all λe=>!Region.binds .any e||Nat.blt e.on i
def vP{ops}(h:pP ops=true):∀i o,ops[i]?=some o->∀e∈o.after,Region.binds .any e=true->e.on<i:=by
 intro i o b e d hb;have a:i<ops.size:=(zs.1 b).1;have c:=YE.1 h i (YB.2 a);simp only[b]at c;have f:=YE.1 c e (by simp_all)
 simp_all
def iY(ops:aaW):abf->abf->Prop
 |_,[]=>True
 |done,i::l=>(∀j,iX ops j i=true->j∈done)/\i∉done/\iY ops (i::done) l
def oP{env a x}(h:∀t,x=.tmp t->a t=env t):ak a x=ak env x:=by cases x<;>first|rfl|exact h _ rfl
def mem_reads{o}{t:Nat}(h:Operand.tmp t∈o.op.operands):t∈dw ops o:=by unfold dw;refine YH.2 (.inl (List.mem_filterMap.2 ⟨.tmp t,by grind,rfl⟩))
def yH{o a}{j:Nat}{b}{d:Nat}(c:o.guard=some (j,b))(hj:ops[j]?=some a)(hd:a.dst=some d):d∈dw ops o:=by
 unfold dw
 simp_all
def bT.congr{env a o}(h:bT ops n env o)(g:∀t∈dw ops o,a t=env t):bT ops n a o:=by
 unfold bT at h ⊢;cases c:o.guard with
 |none=>trivial
 |some p=>obtain⟨j,b⟩:=p;simp only[c]at h ⊢;obtain⟨i,d,e,f,k,l⟩:=h;exact⟨i,d,e,f,k,by rw[g d (yH c e f)];exact l⟩
def kY.congr{env a o}(h:kY ops n env o)(i:∀t∈dw ops o,a t=env t):kY ops n a o:=by obtain⟨j,b,x,d,k,f,g,hd,c,l,e⟩:=h;exact⟨j,b,x,d,k,f,g,hd,c,by rw[i d (yH f g hd)];exact l,e⟩
def jI  env   dst   a   t :bd env dst a t=if dst=some t then a else env t:=by
 cases dst with
 |none=>simp[bd]
 | some d=>
   by_cases h:t=d
   . simp_all
   simp[bd,Env.upd,h,zj h]
def late(ops:aaW)(rest S:abf)(i:Nat):Bool:=rest.all λj=>S.contains j||iX ops i j
def Ab(P:abm)(ops:aaW)(n:Nat)(rest S:abf)(a:Env)(σ:ab)(i:Nat):Prop:=∃o,ops[i]?=some o/\Oper.ok n o=true/\((bT ops n a o/\∃d,o.dst=some d/\(∀c,o.op≠.defer c)/\(DH P o a (a d)\/(late ops rest S i=true/\rH P o a σ (a d))))\/(kY ops n a o/\∃d,o.dst=some d/\a d=.lit (.tuple #[])))
def jy{rest S}(a:kM ops rest S=true){i j o f}{d:Nat}(b:i∈rest)(c:j∈rest)(hi:ops[i]?=some o)(hj:ops[j]?=some f)(hd:f.dst=some d):
 (d∈dw ops o->(i∈S->(j∈S->iX ops j i=true/\j<i)/\(j∉S->iX ops i j=true))/\(i∉S->j∈S->iX ops j i=true))/\(i∈S->i≠j->o.dst≠some d):=by
 unfold kM at a;rw[YE]at a;have g:=a i b;simp only[hi]at g;have h:=YE.1 g j c;simp only[hj,hd,za]at h;obtain⟨l,n⟩:=h;refine⟨λp=>?_,λk m q=>?_⟩
 . have e:(dw ops o).contains d=true:=by grind
   rw[YG e]at l;refine⟨λk=>⟨λhj=>?_,λhj=>?_⟩,λk hj=>?_⟩
   . simp_all
   . simp_all
   simp_all
 simp_all
def hoist{rest S Kp R}(K:kM ops rest S=true):
 ∀  l done   env b   σ ,(∀i∈l,i∈rest)->iY ops done l->(∀i∈l,i∉done)->l.Nodup->(∀i∈l,∃o,ops[i]?=some o) ->
  (∀i∈l,i∈S->Ab P ops n rest S b σ i)->(∀t,(∀i∈l,i∈S->∀o,ops[i]?=some o->o.dst≠some t)->b t=env t) ->
  cO P m ops n Kp (l.filter λi=>!S.contains i) b σ R->cO P m ops n Kp l env σ R
 | [],done,env,b,σ,_,_,_,_,_,_,T,h=>by
   have:b=env:=funext λt=>T t (λi hi=>by simp at hi)
   simp_all
 | i :: l, done,env,b,σ,c,ha,a8,q,r,U,T,h=>by
   obtain⟨a1,a2,a3⟩:=ha;obtain⟨o,E⟩:=r i (by simp);have V:i∉l:=(ZH.1 q).1
   have s:∀t∈dw ops o,b t=env t:=λt u=>T t λj f L Q w hd=>by
    obtain⟨c1,_⟩:=jy K (c i (by simp)) (c j (by simp[f])) E w hd
    grind
   have F:∀x∈o.op.operands,ak env x=ak b x:=λx hx=>oP λt e=>(s t (mem_reads (by grind))).symm
   have G:∀j∈l,j∉i::done:=λj f hm=>by grind
   by_cases H:i∈S
   . have W:(i::l).filter (λi=>!S.contains i)=l.filter λi=>!S.contains i:=by simp[H]
     rw[W]at h;obtain⟨o',A,B,C⟩:=U i (by simp) H;rw[E]at A;cases A
     have next:∀a d,o.dst=some d->b d=a->cO P m ops n Kp l (bd env o.dst a) σ R:=λa d hd a9=>
      hoist K l (i::done) (bd env o.dst a) b σ (λj f=>c j (by simp[f])) a3 G (ZH.1 q).2 (λj f=>r j (by simp[f])) (λj f=>U j (by simp[f])) (λt u=>by
       rw[jI,hd]
       grind) h
     rcases C with⟨C,d,hd,I,D⟩|⟨C,d,hd,f⟩
     . refine⟨o,E,B,.inl ⟨C.congr λt u=>(s t u).symm,.inr ⟨I,?_⟩⟩⟩
       have:=(show rH P o b σ (b d)from D.elim (λh=>h σ) (λh=>h.2)).congr F;intro kk O ρ X hr;refine iU _ (this kk O ρ X hr) (λ_ _ _ ⟨v,hv,k2,O2,g,Y,a,k,x,y,e1,e2⟩=>⟨v,hv,k2,O2,g,Y,a,k,x,y,?_⟩) (λ_ _ _ ⟨_,_,_,_,_,z⟩=>z.elim)
       grind
     exact⟨o,E,B,.inr ⟨C.congr λt u=>(s t u).symm,next _ d hd f⟩⟩
   have W:(i::l).filter (λi=>!S.contains i)=i::l.filter λi=>!S.contains i:=by simp[H]
   rw[W]at h;obtain⟨o',A,B,C⟩:=h;rw[E]at A;cases A
   have next:∀a k,cO P m ops n Kp (l.filter λi=>!S.contains i) (bd b o.dst a) k R->cO P m ops n Kp l (bd env o.dst a) k R:=λa k h'=>
    hoist K l (i::done) (bd env o.dst a) (bd b o.dst a) k (λj f=>c j (by simp[f])) a3 G (ZH.1 q).2 (λj f=>r j (by simp[f]))
     (fun j f L=>by
       obtain⟨Q,w,M,Z⟩:=U j (by simp[f]) L;have ad:j≠i:=λe=>V (e ▸ f)
       have p:∀t∈dw ops Q,bd b o.dst a t=b t:=λt u=>by
        rw[jI];by_cases hd:o.dst=some t
        . obtain⟨c1,_⟩:=jy K (c j (by simp[f])) (c i (by simp)) w E hd
          grind
        grind
       have N:∀d,Q.dst=some d->bd b o.dst a d=b d:=λd hd=>by
        rw[jI];by_cases a7:o.dst=some d
        . obtain⟨_,c2⟩:=jy K (c j (by simp[f])) (c i (by simp)) w E a7
          grind
        grind
       refine⟨Q,w,M,?_⟩;rcases Z with⟨J,d,hd,I,D⟩|⟨J,d,hd,al⟩
       . refine .inl ⟨J.congr p,d,hd,I,.inl λσ=>?_⟩
         rw[N d hd];rcases D with D|⟨hl,_⟩
         . exact(D σ).congr λx hx=>oP λt e=>p t (mem_reads (by grind))
         have:=YE.1 hl i (c i (by simp))
         grind
       exact .inr ⟨J.congr p,d,hd,by grind⟩)
     (fun t u=>by
       rw[jI,jI]
       grind) h'
   rcases C with⟨C,h⟩|⟨C,h⟩
   . exact⟨o,E,B,.inl ⟨C.congr λt u=>(s t u).symm,(h.congr F).mono λa k=>next a k⟩⟩
   exact⟨o,E,B,.inr ⟨C.congr λt u=>(s t u).symm,next _ σ h⟩⟩
def iY.sub  p :∀  l done a ,iY ops done l->(∀i∈done,i∈a)->(∀i∈l,p i=false->i∈a)->(∀i∈l,p i=true->i∉a)->l.Nodup->iY ops a (l.filter p)
 |[],_,_,_,_,_,_,_=>trivial
 | i :: l,done,a,⟨h,o,f⟩,k,m,g,d=>by
   have n:i∉l:=(ZH.1 d).1;by_cases e:p i=true
   . rw [List.filter_cons_of_pos e]
     refine⟨λj c=>k j (h j c),g i (by simp) e,?_⟩
     exact iY.sub p l (i::done) (i::a) f (λj c=>by
      grind) (λj c b=>by simp_all) (λj c b q=>by
      simp_all) (ZH.1 d).2
   rw[List.filter_cons_of_neg e];exact iY.sub p l (i::done) a f (λj c=>by grind) (λj c b=>m j (by simp[c]) b) (λj c b=>g j (by simp[c]) b) (ZH.1 d).2
def Ac(g:∀i o,ops[i]?=some o->∀e∈o.after,Region.binds .any e=true->e.on<i):∀  fuel t   listed   done ,listed.size=ops.size->(∀i,i<ops.size->(listed.getD i true=true↔i∈done)) ->
 ((List.range ops.size).filter λi=>!listed.getD i true).length<=fuel ->
 iY ops done (Region.linearise.go .any ops fuel t listed [])/\(Region.linearise.go .any ops fuel t listed []).Nodup/\(∀i∈Region.linearise.go .any ops fuel t listed [],i∉done/\i<ops.size)/\∀i,i<ops.size->(i∈Region.linearise.go .any ops fuel t listed []\/i∈done):=by
 intro fuel;induction fuel with
 | zero=>
   intro t listed done k hd y;have l:(List.range ops.size).filter (λi=>!listed.getD i true)=[]:=List.eq_nil_of_length_eq_zero (by omega);unfold Region.linearise.go;refine⟨trivial,aar,λi a=>(by cases a),λi a=>.inr ((hd i a).1 ?_)⟩;have:=aaB.1 l i (YB.2 a)
   simp_all
 | succ fuel z=>
   intro t listed done k hd y;unfold Region.linearise.go;simp only[];generalize p:(List.range ops.size).filter (λi=>!listed.getD i true && ((ops[i]?).map (·.after.all λe=>!Region.binds .any e||listed.getD e.on false)).getD false)=rs
   have d:∀i,i∈rs↔i<ops.size/\listed.getD i true=false/\∃o,ops[i]?=some o/\∀e∈o.after,Region.binds .any e=true->listed.getD e.on false=true:=by
    intro i;rw[<-p,Zj,YB];refine and_congr_right λa=>?_
    rw[za,ZZ];refine and_congr_right λ_=>?_
    have q:ops[i]?=some ops[i]:=YM a;rw[q];simp only[YW,Zt,YK,aag,ZZ,kn,exists_eq_left']
    grind
   have A:∀j,j<ops.size->listed.getD j false=listed.getD j true:=λj c=>by grind
   cases a:rs[t % rs.length]? with
   | none=>
     simp only[]
     have w:rs=[]:=by
      cases rs with
      |nil=>rfl
      | cons x xs=>
        have B:=List.getElem?_eq_none_iff.1 a;have K:t % (x::xs).length<(x::xs).length:=Nat.mod_lt _ (by simp);omega
     refine⟨trivial,aar,λi a=>(by cases a),?_⟩;intro i;induction i using Nat.strongRecOn with
     | ind i C=>
       intro a;refine .inr ((hd i a).1 ?_);cases D:listed.getD i true with
       |true=>rfl
       | false=>
         have:i∈rs:=(d i).2 ⟨a,D,ops[i],YM a,λe l hb=>by
          have E:=g i ops[i] (YM a) e l hb
          grind⟩
         grind
   | some i=>
     simp only[];rw[linearise_go_acc,List.reverse_singleton,aaF];have r:=List.mem_of_getElem? a;obtain⟨s,F,o,q,m⟩:=(d i).1 r;have n:i∉done:=λh=>by grind
     have f:∀j,j<ops.size->((listed.setIfInBounds i true).getD j true=if j=i then true else listed.getD j true):=λj c=>by
      by_cases b:j=i
      . subst b;rw[YG rfl];simp[k,c]
      rw[YA b];exact getD_set_ne true (zj b)
     obtain⟨G,H,u,I⟩:=z (t / rs.length) (listed.setIfInBounds i true) (i::done) (by grind) (λj c=>by
      rw[f j c];by_cases b:j=i
      . simp[b]
      grind) (by
      have J:(List.range ops.size).filter (λj=>!(listed.setIfInBounds i true).getD j true)=((List.range ops.size).filter (λj=>!listed.getD j true)).filter (· !=i):=by
       rw[List.filter_filter];refine ZN λj c=>?_
       rw[f j (YB.1 c)];by_cases b:j=i<;>simp[b]
      rw[J];have:(((List.range ops.size).filter (λj=>!listed.getD j true)).filter (· !=i)).length<((List.range ops.size).filter (λj=>!listed.getD j true)).length:=List.length_filter_lt_length_iff_exists.2 ⟨i,Zj.2 ⟨YB.2 s,by grind⟩,by simp⟩;omega)
     refine⟨⟨λj c=>?_,n,G⟩,ZH.2 ⟨λh=>(u i h).1 (by simp),H⟩,λj c=>?_,λj c=>?_⟩
     . unfold iX at c
       rw[q]at c;obtain⟨e,l,hb⟩:=Zc.1 c;simp only[za,ZJ]at hb;have v:e∈o.after:=by simpa using l
       have B:=m e v hb.1
       grind
     . rcases YQ.1 c with e|e
       . grind
       exact⟨λh=>(u j e).1 (by simp[h]),(u j e).2⟩
     rcases I j c with h|h
     . exact .inl (by simp[h])
     rcases YQ.1 h with e|e
     . exact .inl (by simp[e])
     grind
def Ad(a:∀i o,ops[i]?=some o->∀e∈o.after,Region.binds .any e=true->e.on<i)  t :
 iY ops [] (Region.linearise .any ops t)/\(Region.linearise .any ops t).Nodup/\(∀i,i∈Region.linearise .any ops t↔i<ops.size):=by
 obtain⟨b,c,d,f⟩:=Ac a ops.size t (Array.replicate ops.size false) [] (by simp) (λi g=>by simp[g]) (by grind);refine⟨b,c,λi=>⟨λh=>(d i h).2,λh=>?_⟩⟩;rcases f i h with h|h
 . exact h
 cases h
end
section
variable{P:abm}{m:Mo}{fid n:Nat}{ro:aaX}{D:List ye}{rc:Rec}{K:aaN}{k:abb}{ops:aaW}{Kp:aaP}
def Any(P:abm)(m:Mo)(ops:aaW)(n:Nat)(Kp:aaP)(done rest:abf)(env:Env)(σ:ab)(R:aaO):Prop:=∀l,iY ops done l->l.Nodup->(∀i,i∈l↔i∈rest)->cO P m ops n Kp l env σ R
def Go.draw{id}(j:P.follows .mixedOrders=true)(l:pP ops=true){env σ}
 (h:Any P m ops n (λv σ=>∀env,K (.panic v) ⟨env,σ,D,rc⟩) [] (List.range ops.size) env σ (λenv σ=>Go P m fid n ro k ⟨env,σ,D,rc⟩ K)):Go P m fid n ro (.code (.region id ops true)::k) ⟨env,σ,D,rc⟩ K:=by
 intro Q d O tmps defs kind cs o p q;refine .step (λr s g=>r=d/\s=O/\∃t,g=G ⟨fid,tmps,.inRegion ops (Region.linearise .any ops t)::k,defs,.run,kind,ro⟩ (fy rc cs)) rfl ?_ ?_
 . rintro _ _ _ ⟨rfl,rfl,t,rfl⟩
   obtain⟨u,y,A⟩:=Ad (vP l) t;have:=h _ u y (λi=>by grind);exact Go.rE (D:=D) (rc:=rc) _ env σ (λv env σ z=>z env) this _ _ _ tmps defs kind cs o p q
 intro w a;refine⟨G ⟨fid,tmps,.inRegion ops (Region.linearise .any ops (w.tape w.drawn (.order fid id)))::k,defs,.run,kind,ro⟩ (fy rc cs),{w with drawn:=w.drawn+1},#[],d,O,?_,?_,?_,rfl,rfl,_,rfl⟩
 . simp[G,stepG,stepG.exec,choose,Sem.run,Question.forced,Question.cut,Region.schedule,j]
 . exact{le:=.refl _,size:=YF _,keep:=λ_ _ _=>rfl,tail:=λb n _ _ c e h=>⟨c,h,rfl,λ_ _=>rfl⟩,part:=λb n _ _ c e h=>⟨c,h,rfl,λ_ _=>rfl⟩,shape:=λ_ _=>rfl,own:=λb x h=>.inl ⟨x,h,.refl x⟩,cell:=λ_ _ _ h=>.inl h,sh:=λ_ _ h=>.inl h,evs:=λe h=>by simp at h,tape:=rfl,output:=rfl,os:=rfl,low:=λe h=>by simp at h,tok:=λ_ f h=>⟨f,h⟩}
 exact⟨a.apart,a.cell,a.sh,a.obj,a.tail,a.part⟩
def iZ(P:abm)(m:Mo)(ops:aaW)(n:Nat)(Kp:aaP)(i:Nat)(env:Env)(σ:ab)(R:aaO):Prop:=
 ∃ o,ops[i]?=some o/\Oper.ok n o=true/\
   ((bT ops n env o/\M7 P m o env σ (λa b=>R (bd env o.dst a) b) Kp)\/(kY ops n env o/\R (bd env o.dst (.lit (.tuple #[]))) σ))
section
variable(L:iT P)
instance(n:Int):Decidable (fits n):=by unfold fits;infer_instance
def vQ(op:BinOp)(kd:IntKind)(a b:Int):aaR:=
 match op,kd with
 |.add,.i64=>if fits (a+b)then some (.int .i64 (a+b))else none
 |.sub,.i64=>if fits (a-b)then some (.int .i64 (a-b))else none
 |.mul,.i64=>if fits (a*b)then some (.int .i64 (a*b))else none
 |.eql,_=>some (.bool (a==b))
 |.neq,_=>some (.bool (a !=b))
 |.lss,_=>some (.bool (decide (a<b)))
 |.leq,_=>some (.bool (decide (a<=b)))
 |.gtr,_=>some (.bool (decide (a>b)))
 |.geq,_=>some (.bool (decide (a>=b)))
 |.shl,_=>if 0<=b then some (.int kd (kd.wrap (a*2 ^ (min b.toNat kd.bits))))else none
 |.shr,_=>if 0<=b then some (.int kd (a.fdiv (2 ^ (min b.toNat kd.bits))))else none
 |op,kd=>oA op kd a b
def Ae{op kd a b v R}(h:vQ op kd a b=some v)(c:R v):qN op kd a b R:=by
 unfold vQ at h;unfold qN;split at h
 . grind
 . grind
 . grind
 . simp_all
 . simp_all
 . simp_all
 . simp_all
 . simp_all
 . simp_all
 . simp_all
 . simp_all
 simp_all
def uQ(mu:abf)(o:Oper)(env:Env):abc:=
 match o.op with
 |.move x|.assign x=>some (ak env x)
 | .pick c a b=>match ak env c with
   |.lit (.bool x)=>some (if x then ak env a else ak env b)
   |_=>none
 |.box _ x=>if(match o.dst with|some d=>mu.contains d|none=>false)=true then none else if(ak env x).cells.all AV.flat=true then some (.cp (ak env x) 0)else none
 | .load t p=>match L.tt t,ak env p with
   |some i,.cp v off=>cI v.cells off i.size i.agg
   |some i,.kp _ l hole off=>M5 l hole off i.size i.agg
   |_,_=>none
 | .fieldAddr s x j=>match L.tt s with
   | some ⟨.struct,_,_,_,jx⟩=>(match jx[j]? with
     |some f=>if f.2.1≠0 then rq (ak env x) f.1 else none
     |none=>none)
   |_=>none
 | .field s x j=>match L.tt s,ak env x with
   | some ⟨.struct,_,_,_,jx⟩,.agg l=>(match jx[j]? with
     |some f=>(match L.tt f.2.2 with|some n=>cI l f.1 n.size n.agg|none=>none)
     |none=>none)
   |_,_=>none
 | .indexAddr t x h=>match L.tt t with
   | some ⟨.slice e,_,_,_,_⟩=>(match L.tt e,ak env x,ak env h with
     |some g,.sl q es _,.lit (.int _ z)=>if q=g.size/\0<=z then(es[z.toNat]?).map (λa=>.cp a 0)else none
     |some g,.gq b off len _,.lit (.int _ z)=>if 0<=z/\z<len then some (.ref b (off+z.toNat*g.size))else none
     |_,_,_=>none)
   | some ⟨.array k e,_,_,_,_⟩=>(match L.tt e,ak env h with
     |some g,.lit (.int _ z)=>if 0<=z/\z<k then rq (ak env x) (z.toNat*g.size)else none
     |_,_=>none)
   |_=>none
 | .index t x h=>match L.tt t with
   | some ⟨.array k e,_,_,_,_⟩=>(match L.tt e,ak env x,ak env h with
     |some g,.agg l,.lit (.int _ z)=>if 0<=z/\z<k then cI l (z.toNat*g.size) g.size g.agg else none
     |_,_,_=>none)
   |_=>none
 | .binOp op t x y _=>match L.tt t with
   | some ⟨.int _,_,_,_,_⟩=>(match ak env x,ak env y with
     |.lit (.int kd a),.lit (.int m b)=>if kd=m\/op=.shl\/op=.shr then(vQ op kd a b).map .lit else none
     |_,_=>none)
   |_=>none
 | .unOp .not _ x=>match ak env x with
   |.lit (.bool b)=>some (.lit (.bool !b))
   |_=>none
 | .convert s t x=>match L.tt s,L.tt t,ak env x with
   |some ⟨.int _,_,_,_,_⟩,some ⟨.int kd,_,_,_,_⟩,.lit (.int _ a)=>some (.lit (.int kd (kd.wrap a)))
   |_,_,_=>none
 | .makeInterface t x=>match L.tt t with
   |some i=>if i.kind≠.iface then some (.kz t (ak env x))else none
   |none=>none
 |.makeFunc f fs cs=>some (.fn f (fs.toList.map (ak env)) (cs.toList.map (ak env)))
 | .extract x j=>match ak env x with
   |.cH l=>l[j]?
   |_=>none
 | .nilCheck x=>match ak env x with
   |.cp v off=>some (.cp v off)
   |.ref b off=>some (.ref b off)
   |.kp b l hole off=>some (.kp b l hole off)
   |_=>none
 | .call c=>match c.callee,c.args.toList with
   | .builtin .len,[x]=>(match c.argTypes[0]? with
     | some t=>(match L.tt t with
       | some ⟨.slice _,_,_,_,_⟩=>(match ak env x with
         |.sl _ es _=>some (.lit (.int .i64 es.length))
         |.lit (.slice none 0 0)=>some (.lit (.int .i64 0))
         |.gq _ _ len _=>some (.lit (.int .i64 len))
         |_=>none)
       |_=>none)
     |none=>none)
   |_,_=>none
 |_=>none
def vR{mu o env a}(h:uQ L mu o env=some a):(∀c,o.op≠.defer c)/\DH P o env a:=by
 have key:rC L o=true/\∀(K:aaP) σ,K a σ->RD L mu o env σ K (λ_ _=>False):=by
  unfold uQ at h;unfold rC RD;split at h
  . simp_all
  . simp_all
  . next c x y b=>
    simp only[b]
    grind
  . next t x b=>
    simp only[b]
    grind
  . next t p b=>
    simp only[b];split at h
    . simp_all
    . simp_all
    cases h
  . next s x j b=>
    simp only[b]
    grind
  . next s x j b=>
    simp only[b]
    grind
  . next t x n b=>
    simp only[b];split at h
    . next e g i l m d=>
      simp only[d]
      grind
    . next k e g i l m d=>
      simp only[d]
      grind
    cases h
  . next t x n b=>
    simp only[b];split at h
    . grind
    cases h
  . next op t x y E b=>
    simp only[b];split at h
    . next F g i l m d=>
      simp only[d];split at h
      . next kd u q v r w=>
        simp only[r,w];split at h
        . next z=>obtain⟨y,A,G⟩:=YI.1 h;refine⟨by simp_all,λK σ H=>⟨z,Ae A (by simp_all)⟩⟩
        cases h
      cases h
    cases h
  . next t x b=>
    simp only[b]
    grind
  . next s t x b=>
    simp only[b]
    grind
  . next t x b=>
    simp only[b]
    grind
  . simp_all
  . next x j b=>
    simp only[b]
    grind
  . next x b=>
    simp only[b]
    grind
  . next c b=>
    simp only[b];split at h
    . next x B C=>
      simp only[B,C]
      grind
    cases h
  cases h
 refine⟨λc e=>?_,λσ=>Gx L key.1 (key.2 (λD f=>D=a/\f=σ) σ ⟨rfl,rfl⟩)⟩
 simp_all
def vS(o:Oper)(env:Env)(σ:ab):abc:=
 match o.op with
 | .load t p=>match L.tt t with
   |some i=>qp i σ (ak env p)
   |none=>none
 |_=>none
def uj{o env σ a}(h:vS L o env σ=some a):(∀c,o.op≠.defer c)/\rH P o env σ a:=by
 unfold vS at h;split at h
 . next t p b=>
   split at h
   . next i d=>exact⟨λc e=>(by simp_all),z9 L b d h ⟨rfl,rfl⟩⟩
   cases h
 cases h
def jo(mu:abf)(ops:aaW)(n:Nat)(lt:Bool)(σ:ab):abf->Env->(Env->Prop)->Prop
 |[],env,K=>K env
 | i :: S,env,K=>match ops[i]? with
   | some o=>Oper.ok n o=true/\o.dst.isSome=true/\qO ops n env o (match uQ L mu o env with
      |some a=>jo mu ops n lt σ S (bd env o.dst a) K
      | none=>lt=true/\(match vS L o env σ with
        |some a=>jo mu ops n lt σ S (bd env o.dst a) K
        |none=>False)) (jo mu ops n lt σ S (bd env o.dst (.lit (.tuple #[]))) K)
   |none=>False
def ascending:abf->Bool
 |i::j::l=>Nat.blt i j && ascending (j::l)
 |_=>true
def oQ{i}:∀{l},ascending (i::l)=true->ascending l=true/\∀j∈l,i<j
 |[],_=>⟨rfl,λ_ h=>by cases h⟩
 | a::l,h=>by
   simp only[ascending,za,Nat.blt_eq]at h;obtain⟨c,b⟩:=h;have d:=oQ b
   grind
def vT{mu rest σ lt}  m  (A:kM ops rest m=true) (l:lt=true->∀i∈m,late ops rest m i=true):∀  S   env   K ,ascending S=true->(∀i∈S,i∈m/\i∈rest)->jo L mu ops n lt σ S env K ->
 ∃f,K f/\(∀i∈S,Ab P ops n rest m f σ i)/\∀t,(∀i∈S,∀o,ops[i]?=some o->o.dst≠some t)->f t=env t
 |[],env,K,_,_,h=>⟨env,h,λ_ U=>(by cases U),λ_ _=>rfl⟩
 | i :: S, env,K,B,p,h=>by
   obtain⟨B,V⟩:=oQ B;unfold jo at h;split at h
   . next o w=>
     obtain⟨C,D,h⟩:=h;obtain⟨d,hd⟩:=Option.isSome_iff_exists.1 D
     have main:∀a,jo L mu ops n lt σ S (bd env o.dst a) K->((bT ops n env o/\(∀c,o.op≠.defer c)/\(DH P o env a\/(late ops rest m i=true/\rH P o env σ a)))\/(kY ops n env o/\a=.lit (.tuple #[])))->∃f,K f/\(∀j∈i::S,Ab P ops n rest m f σ j)/\∀t,(∀j∈i::S,∀o,ops[j]?=some o->o.dst≠some t)->f t=env t:=by
      intro a W q;obtain⟨f,X,h2,E⟩:=vT m A l S _ K B (λj k=>p j (by simp[k])) W
      have g:∀t∈dw ops o,f t=env t:=λt F=>by
       have G:∀j∈S,∀y,ops[j]?=some y->y.dst≠some t:=λj k y s u=>by
        obtain⟨Y,_⟩:=jy A (p i (by simp)).2 (p j (by simp[k])).2 w s u
        grind
       rw[E t G,jI];by_cases H:o.dst=some t
       . obtain⟨Y,_⟩:=jy A (p i (by simp)).2 (p i (by simp)).2 w w H
         grind
       grind
      have r:f d=a:=by
       rw[E d (λj k y s u=>by
        obtain⟨_,c2⟩:=jy A (p i (by simp)).2 (p j (by simp[k])).2 w s u
        grind),jI,YG hd]
      refine⟨f,X,λj k=>?_,λt F=>?_⟩
      . rcases YQ.1 k with rfl|k
        . refine⟨o,w,C,?_⟩
          rcases q with⟨q,I,J⟩|⟨q,rfl⟩
          . refine .inl ⟨q.congr g,d,hd,I,?_⟩
            rw[r];have R:∀σ,aJ P o env σ (λM v=>M=a/\v=σ) (λ_ _=>False)->aJ P o f σ (λM v=>M=a/\v=σ) (λ_ _=>False):=λσ h=>h.congr λx T=>oP λt e=>g t (mem_reads (by grind))
            exact J.imp (λh σ=>R σ (h σ)) (λh=>⟨h.1,R σ h.2⟩)
          exact .inr ⟨q.congr g,d,hd,r⟩
        grind
      rw[E t (λj k=>F j (by simp[k])),jI,YA (F i (by simp) o w)]
     rcases rD h with⟨q,h⟩|⟨j,b,x,Z,y,hg,k,N,O,T,Q,h⟩
     . split at h
       . next a z=>exact main a h (.inl ⟨q,(vR L z).1,.inl (vR L z).2⟩)
       obtain⟨hl,h⟩:=h;split at h
       . next a z=>exact main a h (.inl ⟨q,(uj L z).1,.inr ⟨l hl i (p i (by simp)).1,(uj L z).2⟩⟩)
       grind
     exact main (.lit (.tuple #[])) h (.inr ⟨⟨j,b,x,Z,y,hg,k,N,O,T,Q⟩,rfl⟩)
   simp_all
def Any.hoist  mu   S  {done rest env σ R}(hd:∀i∈rest,i∉done) (j:∀i∈S,i∈rest) (p:∀i∈rest,(ops[i]?).isSome=true) (q:ascending S=true) (k:kM ops rest S=true){lt}(c:lt=true->∀i∈S,late ops rest S i=true)
 (h:jo L mu ops n lt σ S env (λb=>Any P m ops n Kp (S++done) (rest.filter λi=>!S.contains i) b σ R)):Any P m ops n Kp done rest env σ R:=by
 intro l d f e;obtain⟨b,r,s,u⟩:=vT L S k c S env _ q (λi a=>⟨a,j i a⟩) h
 refine cr.hoist k l done env b σ (λi a=>(e i).1 a) d (λi a=>hd i ((e i).1 a)) f (λi a=>Option.isSome_iff_exists.1 (p i ((e i).1 a))) (λi _ g=>s i g)
  (λt v=>u t λi a o w=>v i ((e i).2 (j i a)) a o w) ?_
 refine r _ (iY.sub (λi=>!S.contains i) l done (S++done) d (λi a=>by simp[a]) (λi _ x=>by simp_all) (λi a x=>?_) f) (f.filter _) (λi=>by simp_all)
 simp_all
def Af(ops:aaW)(done rest S:abf):Bool:=(rest.all λi=>!done.contains i && (ops[i]?).isSome) && (S.all λi=>rest.contains i) && ascending S && kM ops rest S
def Any.take  mu   S  {done rest env σ R}  lt  (d:Af ops done rest S=true) (a:lt=true->(S.all λi=>late ops rest S i)=true)
 (h:jo L mu ops n lt σ S env (λb=>Any P m ops n Kp (S++done) (rest.filter λi=>!S.contains i) b σ R)):Any P m ops n Kp done rest env σ R:=by
 simp only[Af,za,YE]at d;obtain⟨⟨⟨f,k⟩,g⟩,j⟩:=d;exact Any.hoist L mu S (λi c=>by simp_all) (λi c=>by simp_all) (λi c=>(f i c).2) g j (λe i c=>YE.1 (a e) i c) h
end
end
attribute [simp] jo uQ vS vQ
section
variable{P:abm}{m:Mo}{n:Nat}{ops:aaW}{Kp:aaP}
def cO.mono{R c}(b:∀env σ,R env σ->c env σ):∀  l   env   σ ,cO P m ops n Kp l env σ R->cO P m ops n Kp l env σ c
 |[],env,σ,h=>b _ _ h
 |i::l,env,σ,⟨o,d,e,f⟩=>⟨o,d,e,f.imp (λh=>⟨h.1,h.2.mono λa g=>cO.mono b l _ _⟩) (λh=>⟨h.1,cO.mono b l _ _ h.2⟩)⟩
def jo.mono(L:iT P){mu lt σ K c}(b:∀env,K env->c env):∀{S env},jo L mu ops n lt σ S env K->jo L mu ops n lt σ S env c
 |[],env,h=>b _ h
 | i :: S,env,h=>by
   unfold jo at h ⊢;split at h
   . next o d=>
     try simp only[d]
     refine⟨h.1,h.2.1,?_⟩;have h:=h.2.2;unfold qO at h ⊢
     have main:∀{x:abc}{y:abc},(match x with|some a=>jo L mu ops n lt σ S (bd env o.dst a) K|none=>lt=true/\(match y with|some a=>jo L mu ops n lt σ S (bd env o.dst a) K|none=>False)) ->
      (match x with|some a=>jo L mu ops n lt σ S (bd env o.dst a) c|none=>lt=true/\(match y with|some a=>jo L mu ops n lt σ S (bd env o.dst a) c|none=>False)):=by
      intro x y h;cases x with
      |some a=>exact jo.mono L b h
      | none=>
        refine⟨h.1,?_⟩;cases y with
        |some a=>exact jo.mono L b h.2
        |none=>exact h.2
     split at h
     . exact main h
     split at h
     . refine⟨h.1,?_⟩
       have h:=h.2;split at h
       . exact⟨λe=>main (h.1 e),λe=>jo.mono L b (h.2 e)⟩
       . exact jo.mono L b h
       exact h
     exact h
   exact h
inductive ny where
 |done
 |take (S:abf) (lt:Bool) (p:ny)
 |one (i:Nat) (p:ny)
 |both (i:Nat) (p q:ny)
structure Entry where
 id:Nat
 Ug:ny
def eI(ops:aaW):ny->abf->abf->abf->Bool
 |.done,_,_,rest=>rest.isEmpty
 |.take S lt p,ex,done,rest=>ex.isEmpty && Af ops done rest S && (!lt||S.all λi=>late ops rest S i) && eI ops p [] (S++done) (rest.filter λi=>!S.contains i)
 |.one i p,ex,done,rest=>rest.contains i && (rest.all λj=>!done.contains j) && (rest.all λj=>j==i||ex.contains j||(rest.any λx=>iX ops x j)) && eI ops p [] (i::done) (rest.filter (· !=i))
 |.both i p q,ex,done,rest=>rest.contains i && eI ops p [] (i::done) (rest.filter (· !=i)) && eI ops q (i::ex) done rest
def rI(ops:aaW)(e:Entry):Bool:=pP ops && eI ops e.Ug [] [] (List.range ops.size)
def Uh(P:abm)(m:Mo)(ops:aaW)(n:Nat)(Kp:aaP)(ex done rest:abf)(env:Env)(σ:ab)(R:aaO):Prop:=∀l,iY ops done l->l.Nodup->(∀i,i∈l↔i∈rest)->(∀i a,l=i::a->i∉ex)->cO P m ops n Kp l env σ R
def iC(P:abm)(m:Mo)(ops:aaW)(n:Nat)(Kp:aaP)(p:ny)(env:Env)(σ:ab)(R:aaO):Prop:=∀ex done rest,eI ops p ex done rest=true->Uh P m ops n Kp ex done rest env σ R
def IZ{i}{l rest:abf}(a:(i::l).Nodup)(b:∀j,j∈i::l↔j∈rest)  j :j∈l↔j∈rest.filter (· !=i):=by grind
def cO.I0{i}{l ex done rest:abf}{p env σ R}(c:iY ops done (i::l))(b:(i::l).Nodup)(d:∀j,j∈i::l↔j∈rest)
 (e:eI ops p [] (i::done) (rest.filter (· !=i))=true) (h:iZ P m ops n Kp i env σ (λenv σ=>iC P m ops n Kp p env σ R)):cO P m ops n Kp (i::l) env σ R:=by
 have next:∀env σ,iC P m ops n Kp p env σ R->cO P m ops n Kp l env σ R:=λenv σ h=>h [] _ _ e l c.2.2 (ZH.1 b).2 (IZ b d) (λ_ _ _ h=>by cases h)
 obtain⟨o,f,g,k⟩:=h;exact⟨o,f,g,k.imp (λh=>⟨h.1,h.2.mono λa q=>next _ _⟩) (λh=>⟨h.1,next _ _ h.2⟩)⟩
def iC.done{env σ R}(h:R env σ):iC P m ops n Kp .done env σ R:=λex done rest a l _ _ b _=>by
 simp only[eI,List.isEmpty_iff]at a;subst a;cases l with
 |nil=>exact h
 |cons i l=>exact absurd ((b i).1 (by simp)) (by simp)
def iC.take(L:iT P)  mu  {S lt p env σ R}(h:jo L mu ops n lt σ S env (λd=>iC P m ops n Kp p d σ R)):iC P m ops n Kp (.take S lt p) env σ R:=by
 intro ex done rest f;simp only[eI,za]at f;obtain⟨⟨⟨j,g⟩,k⟩,i⟩:=f;have:=Any.take (m:=m) (Kp:=Kp) (R:=R) L mu S lt g (λe=>by simp_all) (jo.mono L (λd h=>λl a b c=>h [] _ _ i l a b c (λ_ _ _ h=>by cases h)) h);exact λl a b c _=>this l a b c
def iC.one{i p env σ R}(h:iZ P m ops n Kp i env σ (λenv σ=>iC P m ops n Kp p env σ R)):iC P m ops n Kp (.one i p) env σ R:=by
 intro ex done rest d l e g f r;simp only[eI,za,YE,aag,ZJ,Zc]at d;obtain⟨⟨⟨s,hd⟩,k⟩,o⟩:=d;have q:i∈rest:=by simp_all
 cases l with
 |nil=>simp_all
 | cons j l=>
   have a:j∈rest:=(f j).1 (by simp)
   have b:j=i:=by
    rcases k j a with(h|h)|⟨x,c,h⟩
    . exact h
    . simp_all
    have:=hd x c;exact absurd (e.1 x h) (by simp_all)
   subst b;exact cO.I0 (ex:=ex) e g f o h
def iC.both{i p q env σ R}(h:iZ P m ops n Kp i env σ (λenv σ=>iC P m ops n Kp p env σ R))(g:iC P m ops n Kp q env σ R):iC P m ops n Kp (.both i p q) env σ R:=by
 intro ex done rest b l c d f s;simp only[eI,za]at b;obtain⟨⟨t,k⟩,o⟩:=b;have r:i∈rest:=by simp_all
 cases l with
 |nil=>simp_all
 | cons j l=>
   by_cases a:j=i
   . subst a
     exact cO.I0 (ex:=ex) c d f k h
   exact g _ _ _ o _ c d f λx u e=>by simp_all
def qu{id}:∀{k k'},exitTo id k=some k'->∀x∈k',x∈k
 |[],k',h=>by simp_all
 | i::k,k',h=>by
   have again:exitTo id k=some k'->∀x∈k',x∈i::k:=λh x a=>Zz _ (qu h x a)
   cases i<;>simp only[exitTo]at h<;>first|exact again h|skip
   grind
end
section
variable{P:abm}(L:iT P)
def nz(fn:Func)(k:Nat):Bool:=Nat.ble k fn.ntmps && fn.results.toList.all (ResultVar.ok fn.ntmps)
end
attribute [simp] List.find?
def jJ{k O r c e x}(p:O r=some (.obj (.cells c e x))):km k O (k.dX r (e,c.size)) O:=λw h=>by
 have t:=h.obj _ _ p;have g:w.shape? r=some (e,c.size):=by simp[World.shape?,t]
 refine⟨⟨h.apart,h.cell,λb s hb=>?_,h.obj,λb n hb=>?_,λb n hb=>?_⟩,⟨⟨λ_ _ _ h=>h,λb s d=>?_⟩,YF _,λ_ _ _=>rfl,λ_ _ _ _ c _ h=>⟨c,h,rfl,λ_ _=>rfl⟩,λ_ _ _ _ c _ h=>⟨c,h,rfl,λ_ _=>rfl⟩,λ_ _=>rfl,λb x u=>.inl ⟨x,u,.refl x⟩,λb i v y=>.inl y,λb s d=>?_,by simp,rfl,rfl,rfl,by simp,λ_ f h=>⟨f,h⟩⟩⟩
 . by_cases a:b=r
   . subst a;simp[ao.dX]at hb;simp_all
   exact h.sh b s (by simpa[ao.dX,a]using hb)
 . obtain⟨j,l,m,o⟩:=h.tail b n hb
   refine⟨j,l,m,?_⟩;have:b≠r:=λq=>by simp_all
   simpa[ao.dX,this]using o
 . obtain⟨j,l,m,o⟩:=h.part b n hb
   refine⟨j,l,m,?_⟩;have:b≠r:=λq=>by simp_all
   simpa[ao.dX,this]using o
 . by_cases a:b=r
   . subst a
     have:=h.sh _ _ d;rw[g]at this;cases this;simp[ao.dX]
   simpa[ao.dX,a]using d
 by_cases a:b=r
 . simp_all
 exact .inl (by simpa[ao.dX,a]using d)
section
variable{P:abm}{m:Mo}{Q:aaG}{k:ao}{O:ai}{g:abd}
def T.freeze{r n c e}(d:O r=some (.obj (.cells c e (0,0))))(b:g.status=.running)
 (h:∀k' O',k.Le k'->k'.sh r=some (e,c.size)->(∀j v,j<n->c[j]?=some v->k'.cell r j=some v)->O'=O.set r (.tail n)->T P m Q k' O' g):T P m Q k O g:=by
 by_cases a:∃w,Sat k O w
 . obtain⟨w,f⟩:=a
   have i:∀j,k.cell r j=none:=λj=>by
    cases q:k.cell r j with
    |none=>rfl
    |some v=>exact(f.apart _ _ _ q (.inl ⟨_,d⟩)).elim
   have o:=(jJ (k:=k) d w f).2.le;have l:(k.dX r (e,c.size)).Le ((k.dX r (e,c.size)).vF r c n):=.vF i;exact .ghost (jJ d) (.ghost (nu (n:=n) d (by simp[ao.dX])) (h _ _ (o.trans l) (by simp[ao.vF,ao.dX]) (λj v p s=>by simp[ao.vF,p,s]) rfl))
 exact .step (λ_ _ _=>False) b (λ_ _ _ h=>h.elim) λw f=>absurd ⟨w,f⟩ a
end
def ja:∀{es},(∀e∈es,e.cells=[e])->flatten es=es
 |[],_=>rfl
 | e::es,h=>by
   have c:=h e (by simp);have a:=ja (es:=es) λx b=>h x (by simp[b])
   simp only[flatten]at a ⊢
   simp_all
def V.I1{k v kk es sp}(h:V k v (.sl kk es sp)):(∃a,v=.slice a 0 0/\es=[]/\(sp=.any\/(sp=.exact/\a.isSome=true)))\/∃(b off cap N:Nat) (E:TypeId) (c:Nat->Value),v=.slice (some ⟨b,off,none⟩) es.length cap/\es.length<=cap/\k.sh b=some (E,N)/\off+cap*kk<=N/\(∀e∈es,e.cells.length=kk)/\
 (∀j,j<(flatten es).length->k.cell b (off+j)=some (c j)/\cr.flat (c j)=true)/\(∀  j  a,(flatten es)[j]?=some a->V k (c j) a)/\sp.fits b off es.length kk cap:=by
 cases h with
 |sl b off cap _ N E _ _ c d f g i l m n=>exact .inr ⟨b,off,cap,N,E,c,rfl,d,f,g,i,l,m,n⟩
 |slnil a _ _ h=>grind
inductive Fz(b:Nat)(l:abj):AV->AV->Prop
 |refl (a:AV):Fz b l a a
 | sl (off cap kk:Nat) (es:abj) (sp:kW):es.length<=cap->off+cap*kk<=l.length->(∀e∈es,e.cells.length=kk)->(∀(j:Nat) a,(flatten es)[j]?=some a->l[off+j]?=some a)->(sp=.any\/(sp=.exact/\cap=es.length)) ->
    Fz b l (.gq b off es.length cap) (.sl kk es sp)
 |fn (f:Fn) (a1 a2 c1 c2:abj):a1.length=a2.length->c1.length=c2.length->(∀(i:Nat) a a',a1[i]?=some a->a2[i]?=some a'->Fz b l a a')->(∀(i:Nat) a a',c1[i]?=some a->c2[i]?=some a'->Fz b l a a')->Fz b l (.fn f a1 c1) (.fn f a2 c2)
 |rows (es es':abj) (sp:kW):es.length=es'.length->(∀e∈es,e.cells=[e])->(∀e∈es',e.cells=[e])->(∀(i:Nat) a a',es[i]?=some a->es'[i]?=some a'->Fz b l a a')->Fz b l (.sl 1 es sp) (.sl 1 es' sp)
 |cp (base off:Nat) (v:AV):base+v.cells.length<=l.length->(∀(j:Nat) a,v.cells[j]?=some a->l[base+j]?=some a)->Fz b l (.ref b (base+off)) (.cp v off)
 |agg (l1 l2:abj):l1.length=l2.length->(∀(i:Nat) a a',l1[i]?=some a->l2[i]?=some a'->Fz b l a a')->Fz b l (.agg l1) (.agg l2)
 |cH (l1 l2:abj):l1.length=l2.length->(∀(i:Nat) a a',l1[i]?=some a->l2[i]?=some a'->Fz b l a a')->Fz b l (.cH l1) (.cH l2)
def Ag(k:ao)(b:Nat)(E:TypeId)(l:abj):Prop:=k.sh b=some (E,l.length)/\∀(j:Nat) a,l[j]?=some a->∃u,k.cell b j=some u/\V k u a/\cr.flat u=true
def Fz.sound{k b E l a a'}(h:Fz b l a a')(o:Ag k b E l):∀{v},V k v a->V k v a':=by
 induction h with
 |refl a=>simp_all
 | sl off cap T es sp g n p r s=>
   intro v d;cases d
   exact V.ofRow g o.1 n p (λj a q=>o.2 _ _ (r j a q)) (by
    rcases s with rfl|⟨rfl,s⟩
    . trivial
    exact s)
 | rows es t sp g n p _ z=>
   intro v d;have f1:=ja n;have U:=ja p;rcases d.I1 with⟨W,rfl,rfl,F⟩|⟨G,off,cap,N,H,c,rfl,X,I,J,Y,A,K,Z⟩
   . grind
   rw[f1]at A K;rw[g];refine .sl G off cap 1 N H t sp c (by omega) I J (λe he=>by simp_all) (λj B=>A j (by simp_all)) (λj a q=>?_) (by simp_all)
   grind
 | cp base off x hlen g=>
   intro v d;cases d;refine .cp b base off _ _ x (λj=>(k.cell b (base+j)).getD undef) o.1 hlen (λj B=>?_) (λj a q=>?_)
   . obtain⟨u,n,p,r⟩:=o.2 _ _ (g j x.cells[j] (by simp[B]))
     simp_all
   obtain⟨u,n,p,r⟩:=o.2 _ _ (g j a q)
   simp_all
 | fn f a1 L c1 M g n _ _ O P=>
   intro v d;cases d with
   | fn _ Q R _ _ C D g3 g4=>
     refine .fn f Q R L M (by omega) (λi u a' w m=>?_) (by omega) (λi u a' w m=>?_)
     . grind
     grind
 | agg S y g _ z=>
   intro v d;cases d with
   | agg c _ C D=>
     refine .agg c y (by omega) λi u a' w m=>?_
     grind
 | cH S y g _ z=>
   intro v d;cases d with
   | cH c _ C D=>
     refine .cH c y (by omega) λi u a' w m=>?_
     grind
def MO(b:Nat)(l:abj)(σ σ':ab):Prop:=∀c y,σ' c=some y->c≠b/\(σ c=some y\/∃d e,σ c=some (.cells d)/\y=.cells e/\d.length=e.length/\∀(i:Nat) a f,d[i]?=some a->e[i]?=some f->Fz b l a f)
def MO.del  b   l   σ :MO b l σ (σ.del b):=λc y h=>by
 unfold ab.del at h
 simp_all
def MO.sound{k O b E l σ σ'}(h:MO b l σ σ')(t:Ag k b E l)(f:Rel k O σ)  x :Rel k (O.set b x) σ':=⟨λc y g j=>by
 obtain⟨d,h⟩:=h c y g;rcases h with h|⟨m,q,n,rfl,r,u⟩
 . obtain⟨z,o,a⟩:=f.1 c y h j
   exact⟨z,by simp[ai.set,d,o],a⟩
 . obtain⟨z,o,a⟩:=f.1 c _ n (by simp)
   cases a with
   | cells w e _ F A B=>
     refine⟨_,by simp only[ai.set,d,Rp];exact o,.cells w e q (by omega) (λi v C D p=>?_) B⟩;have s:i<m.length:=by grind
     exact(u i m[i] C (by simp[s]) p).sound t (A i v _ D (by simp[s])),λc y g j=>by
 obtain⟨d,h⟩:=h c _ g;rcases h with h|⟨m,q,_,h,_⟩
 . obtain⟨n,r⟩:=f.2 c y h j
   exact⟨by simp[ai.set,d,n],r⟩
 simp_all⟩
section
variable{P:abm}{m:Mo}
def T.Ah{Q k O g σ b l}(q:Rel k O σ)(hb:σ b=some (.cells l))(f:g.status=.running)
 (h:∀k' O',k.Le k'->(∀v a a',V k v a->Fz b l a a'->V k' v a')->(∀σ',MO b l σ σ'->Rel k' O' σ')->T P m Q k' O' g):T P m Q k O g:=by
 obtain⟨y,s,t⟩:=q.1 b _ hb (by simp);cases t with
 | cells c e _ u w x=>
   refine T.freeze (n:=c.size) s f λk' O' d o z p=>?_
   have r:Ag k' b e l:=⟨by rw[o,u],λj a A=>by
    have i:j<c.size:=by grind
    exact⟨c[j],z j _ i (by simp[i]),(w j _ a (by simp[i]) A).mono d,x j _ (by simp[i])⟩⟩
   refine h k' O' d (λv a a' B C=>C.sound r (B.mono d)) λσ' D=>?_
   rw[p];exact D.sound r (q.mono d) _
def Go.freeze{fid n ro todo K env a σ σ' D rc}  b   l  (hb:σ b=some (.cells l)) (d:∀t,Fz b l (env t) (a t)) (g:MO b l σ σ')
 (h:Go P m fid n ro todo ⟨a,σ',D,rc⟩ K):Go P m fid n ro todo ⟨env,σ,D,rc⟩ K:=by
 intro Q k O tmps defs kind cs i e j;refine T.Ah e.rel hb rfl λo p c q f=>?_
 exact h Q o p tmps defs kind cs i ⟨e.size,λt r=>q _ _ _ (e.env t r) (d t),f σ' g,e.ds.mono c,e.rc.mono c⟩ (j.mono c)
def Fz.upd{b l}{env:Env}{t a'}(h:Fz b l (env t) a')  u :Fz b l (env u) (env.upd t a' u):=by
 unfold Env.upd;split
 . simp_all
 exact .refl _
inductive mO(KF:aaQ):aaQ
 |done {r:mC}{σ:ab}:KF r σ->mO KF r σ
 |freeze {a a':AV}{σ σ':ab}(b:Nat) (l:abj):σ b=some (.cells l)->Fz b l a a'->MO b l σ σ'->mO KF (.val a') σ'->mO KF (.val a) σ
 |qk {a a':AV}{σ:ab}:a.W a'->mO KF (.val a') σ->mO KF (.val a) σ
 |less {r:mC}{σ σ':ab}:σ'.Le σ->mO KF r σ'->mO KF r σ
def aB.thaw{f args σ t}(h:aB P m f args σ (mO t)):aB P m f args σ t:=by
 intro Q k O o c rest kind y z A I J
 have key:∀r i,mO t r i->∀e j g,k.Le e->Rel e j i->(match r with
  |.val a=>V e g a->T P m Q e j (jG kind c rest g)
  |.panic a=>V e g a->T P m Q e j (G (c.raise [⟨g,false,false⟩]) rest)):=by
  intro r i B;induction B with
  |@done r σ K=>grind
  | freeze b l hb C u _ p=>
    intro e j g n q v;refine T.Ah q hb (by cases kind<;>rfl) λD E s w x=>?_
    exact p D E g (n.trans s) (x _ u) (w _ _ _ v C)
  |qk F _ p=>intro e j g n q v;exact p e j g n q (F _ _ v)
  |@less r σ i u _ p=>intro e j g n q;exact p e j g n (q.le u)
 exact h Q k O o c rest kind y z A (λe j g H i a b c d=>key _ _ d e j g a c b) (λe j g H i a b c d=>key _ _ d e j g a c b)
end
def I2(σ:ab)(a:AV)(kk:Nat)(es:abj):Prop:=DG a kk es\/∃b off cap l,a=.gq b off es.length cap/\σ b=some (.cells l)/\(∀e∈es,e.cells.length=kk)/\∀(j:Nat) x,(flatten es)[j]?=some x->l[off+j]?=some x
def cD(σ0 σ:ab)(a:AV)(kk:Nat)(es:abj):Prop:=σ0.Le σ/\((es=[]/\(a=.nil\/a=.sl kk [] .exact))\/∃b cap rest,a=.gq b 0 es.length cap/\σ0 b=none/\es.length<=cap/\(∀e∈es,e.cells.length=kk)/\σ b=some (.cells (flatten es++rest))/\rest.length=(cap-es.length)*kk)
def cD.rd{σ0 σ a kk es}(h:cD σ0 σ a kk es):I2 σ a kk es:=by
 rcases h.2 with⟨rfl,rfl|rfl⟩|⟨b,cap,rest,rfl,_,_,c,d,_⟩
 . exact .inl (.inl ⟨rfl,rfl⟩)
 . exact .inl (.inr ⟨_,rfl⟩)
 refine .inr ⟨b,0,cap,_,rfl,d,c,λj x e=>?_⟩
 grind
def cD.empty  σ   kk :cD σ σ (.sl kk [] .exact) kk []:=⟨λ_ _ h=>h,.inl ⟨rfl,.inr rfl⟩⟩
def cD.thaw{σ0 σ a kk es e}(h:cD σ0 σ a kk es)(d:e (.val (.sl kk es .any)) σ0):mO e (.val a) σ:=by
 rcases h.2 with⟨rfl,rfl|rfl⟩|⟨b,cap,rest,rfl,l,g,f,i,m⟩
 . exact .less h.1 (.qk (lR kk) (.done d))
 . exact .less h.1 (.qk (jH kk _ _) (.done d))
 have n:=bG f;refine .freeze b _ i (.sl 0 cap kk es .any g ?_ f (λj x o=>?_) (.inl rfl)) (MO.del b _ σ) (.less (λc y k=>?_) (.done d))
 . have:cap*kk=es.length*kk+(cap-es.length)*kk:=by rw[<-Nat.add_mul];simp_all
   simp_all
 . grind
 have:c≠b:=λq=>by simp_all
 simp only[ab.del,this,Rp];exact h.1 c y k
section
variable{P:abm}(L:iT P){k:ao}{O:ai}{Kp:aaH}
def V.Pz{v b off len cap}(h:V k v (.gq b off len cap)):v=.slice (some ⟨b,off,none⟩) len cap:=by cases h;rfl
def V.I3{v}(h:V k v .nil):v=.slice none 0 0:=by cases h;rfl
def I2.facts{σ v a kk es}(h:I2 σ a kk es)(c:V k v a):∃base cap,v=.slice base es.length cap/\∀e∈es,e.cells.length=kk:=by
 rcases h with(⟨rfl,rfl⟩|⟨sp,rfl⟩)|⟨b,off,cap,l,rfl,d,f,g⟩
 . cases c;simp_all
 . rcases c.kA with⟨i,rfl,rfl,_⟩|⟨b,off,cap,N,E,rfl,j,m,n,o,_⟩
   . simp_all
   simp_all
 cases c;simp_all
def qP{K σ v a kk es}(g:V k v a)(i:Rel k O σ)(d:I2 σ a kk es)
 (m:∀c ,c.size=es.length*kk->(∀(j:Nat) u x,c[j]?=some u->(flatten es)[j]?=some x->V k u x)->(∀(j:Nat) u,c[j]?=some u->flat u=true)->K c k O):dD P (Builtin.firstCells kk es.length v) k O K Kp:=by
 rcases d with d|⟨b,off,cap,l,rfl,n,o,p⟩
 . exact pN g d (YF _) m
 cases g;obtain⟨y,q,r⟩:=i.1 b _ n (by simp);cases r with
 | cells s e _ t w z=>
   unfold Builtin.firstCells loadCells;have A:=bG o;refine iV (l:=flatten es) (base:=off) (off:=0) (λj x B=>?_) (es.length*kk) 0 #[] (by omega) λvs C D E=>?_
   . have f:=p j x B
     have F:off+j<s.size:=by grind
     exact oH.own (k:=k) q t w z (off+j) x f|>.imp λv h=>by grind
   grind
end
section
variable{P:abm}(L:iT P){o:Oper}{env:Env}{σ:ab}{K:aaP}{Kp:aaP}
def rJ{s x G t t2 e e2 it W g σ0 es xs}(ho:o.op=.call ⟨.builtin .append,#[s,x],G⟩)(h0:G[0]?=some t)(N:G[1]?=some t2)(ht:L.tt t=some it)(hk:it.kind=.slice e)
 (ay:L.tt t2=some W) (aC:W.kind=.slice e2) (H:L.tt e=some g) (hb:g.bytes<=1024) (hlen:es.length+xs.length<=1073741824) (hs:cD σ0 σ (ak env s) g.size es) (hx:I2 σ (ak env x) g.size xs)
 (hz:(kX g.zero).cells.all AV.flat=true) (hK:∀a' σ',cD σ0 σ' a' g.size (es++xs)->K a' σ'):aJ P o env σ K Kp:=λk O ρ p J=>by
 have A:=p s (by simp_all)
 have Q:=p x (by simp_all)
 have:execOp ρ o=(do pure (Next.value (<-Builtin.append_ G o.type #[ρ s,ρ x]))):=by simp[execOp,ho,resolve,invoke,builtin]
 rw[this];refine af ?_;have aE:g.zero.cells.size=g.size:=by obtain⟨_,_,_,_,_,_,h⟩:=L.facts H;exact h
 obtain⟨base,cap,B,aL⟩:=hs.rd.facts A;obtain⟨aO,bB,M,b0⟩:=hx.facts Q;have w:=hs.1;unfold Builtin.append_;simp only[h0,N,aac,ZX,aax];refine af (aD L ht λd _ hd=>?_)
 rw[bM hd hk,B];dsimp only;refine af (bF L H ?_);refine af (aD L ay λd2 _ X=>?_)
 rw[bM X aC];refine af (ag ?_);dsimp only;simp only[LK,Rp,Bool.not_false,YD];refine af (s:=Builtin.lenOf (ρ x)) ?_;rw[M];refine ag ?_;rw[<-M];have C:=bG aL;have b1:=bG b0
 by_cases n:es.length+xs.length<=cap
 ·
  rw[YG n];refine af (qP Q J hx λc D b2 Y=>?_)
  rcases hs.2 with⟨rfl,m⟩|⟨b,Z,rest,m,b3,hc,_,I,E⟩
  . have c5:cap=0:=by
     rcases m with m|m
     . rw[m,B]at A;have:=A.I3;simp_all
     rw[m,B]at A
     rcases A.kA with⟨_,q1,_,_⟩|⟨_,_,Z,_,_,q1,_,_,_,_,_,q7⟩
     . grind
     cases q1;exact q7
    have a7:xs=[]:=by simp_all
    subst a7
    have b4:c.toList=[]:=by simp_all
    have c7:V k (.slice base 0 cap) (ak env s):=by simp_all
    cases base with
    |none=>dsimp only;refine ag (ag ⟨_,.inl rfl,.here ⟨.refl k,ak env s,σ,?_,J,hK _ _ ⟨w,.inl ⟨rfl,m⟩⟩⟩⟩);omega
    |some ad=>dsimp only;rw[b4];refine af (ag ?_);refine ag (ag ⟨_,.inl rfl,.here ⟨.refl k,ak env s,σ,?_,J,hK _ _ ⟨w,.inl ⟨rfl,m⟩⟩⟩⟩);omega
  rw[m,B]at A;have hinv:=A.Pz;simp only[Value.slice.injEq,true_and]at hinv;obtain⟨rfl,rfl⟩:=hinv;obtain⟨y,hO,hy⟩:=J.1 b _ I (by simp)
  cases hy with
  | cells cc et _ g1 g2 g3=>
    dsimp only;rw[ib]
    have R:cc.size=cap*g.size:=by rw[g1,YL,C,E,<-Nat.add_mul];grind
    have hmul:(es.length+xs.length)*g.size<=cc.size:=by rw[R];exact Zw _ n
    rw[aav]at hmul;refine af (oI c.toList 0 cc O hO (by grind) (λu hu=>?_) λO' c' b5 b6 b7=>?_)
    . obtain⟨j,hj,rfl⟩:=Za.1 hu
      exact Y j _ (by grind)
    have c9:xs.length*g.size<=rest.length:=by grind
    refine ag (ag ⟨_,.inl rfl,.here ⟨.refl k,.gq b 0 (es++xs).length cap,σ.set b (.cells (flatten (es++xs)++rest.drop (xs.length*g.size))),?_,?_,hK _ _ ⟨?_,.inr ⟨b,cap,rest.drop (xs.length*g.size),rfl,b3,by grind,λz hz=>?_,by simp[ab.set],?_⟩⟩⟩⟩)
    . rw[show es.length+xs.length=(es++xs).length by simp]
      exact .gq ..
    . rw[b5]
      refine J.set (.cells c' et _ ?_ (λi v a p m=>?_) (λi v p=>?_))
      . rw[b6,g1,flatten_append];grind
      . rw[b7]at p
        simp only[ZP,Array.length_toList,D,Nat.add_zero]at p;rw[flatten_append,ZA]at m
        by_cases N:i<es.length*g.size
        . grind
        rw[YR (by omega),C]at m
        by_cases h2:i<es.length*g.size+xs.length*g.size
        . grind
        rw[YA (by omega)]at p
        rw[YR (by omega),List.getElem?_drop]at m
        refine g2 i v a p ?_;rw[YR (by omega),C,<-m]
        congr 1;omega
      grind
    . intro b' y hy
      have:b'≠b:=λq=>by grind
      simp[ab.set,this,w b' y hy]
    . grind
    rw[List.length_drop,E,YL,<-Nat.sub_mul];grind
 rw[YA n]
 have a8:¬((es.length+xs.length:Nat):Int)>IntKind.i64.max:=by have:IntKind.i64.max=9223372036854775807:=rfl;omega
 refine af (cN L H λinfo _ _ ca _=>?_)
 rw[YA (λq=>a8 q.1)]
 refine af (cN L H λS _ _ a9 _=>?_)
 have T:=nextslicecap_le (Nat.lt_of_not_le n)
 have U:¬(Builtin.nextslicecap (es.length+xs.length) cap*S.bytes>2 ^ 48):=by rw[a9];have N:Builtin.nextslicecap (es.length+xs.length) cap*g.bytes<=(4*(es.length+xs.length)+2000)*1024:=Nat.mul_le_mul T hb;omega
 rw[YA U];refine af (s:=choose _) (λt=>?_)
 have F:(Question.appendCap (es.length+xs.length) cap e).forced=false:=rfl;rw[F];simp only[LK,Rp];have b8:∃f,(Question.appendCap (es.length+xs.length) cap e).cut t=f/\es.length+xs.length<=f:=⟨_,rfl,by simp only[Question.cut];omega⟩
 obtain⟨f,al,c6⟩:=b8;rw[al];refine ag ?_;refine af (cN L H λb9 _ _ _ _=>?_)
 refine af (oJ ?_);refine af (qP (a:=ak env s) (by simp_all) J hs.rd λc D b2 Y=>?_)
 refine af (qP Q J hx λd bm X cb=>?_)
 refine af (cM L H ?_);have bw:=vM (k:=k) hz
 have bx:(Builtin.zeroCells g.zero.cells (f-(es.length+xs.length))).size=(f-(es.length+xs.length))*g.size:=by simp[Builtin.zeroCells,aE]
 have cg:∀(i:Nat) v,(Builtin.zeroCells g.zero.cells (f-(es.length+xs.length)))[i]?=some v->flat v=true:=by
  intro i v p;have hi:=(zs.1 p).1;simp only[Builtin.zeroCells]at p;obtain⟨cm,H⟩:=zs.1 p;simp at H;subst H
  have av:0<g.zero.cells.size:=by grind
  have hm:i % g.zero.cells.size<g.zero.cells.size:=Nat.mod_lt _ av;rw[getElem!_pos g.zero.cells _ hm];exact bw.2.2 (i % g.zero.cells.size) _ (by simp[hm])
 refine af (iW (l:=flatten (es++xs)++List.replicate ((f-(es.length+xs.length))*g.size) .cu) J ?_ (λi v a p m=>?_) (λi v p=>?_) λr k' O' hn bA ax=>ag (ag ⟨_,.inl rfl,.here ⟨bA,.gq r 0 (es++xs).length f,_,?_,ax,hK _ _ ⟨λb' y hy=>?_,.inr ⟨r,f,List.replicate ((f-(es.length+xs.length))*g.size) .cu,rfl,?_,by grind,λz hz=>?_,by simp[ab.set],?_⟩⟩⟩⟩))
 . simp only[Array.size_append,D,bm,bx,flatten_append,YL,C,b1,List.length_replicate]
 . rw[flatten_append,ZA]at m
   rw[Array.append_assoc]at p
   by_cases N:i<es.length*g.size
   . rw[Zn (by omega)]at m
     grind
   rw[YR (by omega),C]at m
   rw[ZL (by omega),D]at p
   by_cases h2:i-es.length*g.size<xs.length*g.size
   . grind
   rw[YR (by omega)]at m
   have:=List.mem_of_getElem? m;rw[List.mem_replicate]at this;rw[this.2];exact .cu _
 . rw[Array.append_assoc]at p
   by_cases N:i<es.length*g.size
   . grind
   rw[ZL (by omega),D]at p
   grind
 . rw[show es.length+xs.length=(es++xs).length by simp];exact .gq ..
 . have N:=w b' y hy
   have:b'≠r:=λq=>by grind
   simp[ab.set,this,N]
 . cases q:σ0 r with
   |none=>rfl
   |some y=>have:=w r y q;grind
 . grind
 simp
end
def BI(env:Env)(len cap:Nat)(lo hi mx:Option abn)(l h m:Nat):Prop:=
 (match mx with|none=>m=cap|some o=>(∃kd,ak env o=.lit (.int kd (m:Int)))/\m<=cap)/\
 (match hi with|none=>mx=none/\h=len|some o=>(∃kd,ak env o=.lit (.int kd (h:Int)))/\h<=m)/\
 (match lo with|none=>l=0|some o=>(∃kd,ak env o=.lit (.int kd (l:Int)))/\l<=h)
def BI.le{env len cap lo hi mx l h m}(hb:BI env len cap lo hi mx l h m)(a:len<=cap):l<=h/\h<=m/\m<=cap:=by
 obtain⟨b,c,d⟩:=hb
 grind
section
variable{P:abm}(L:iT P){k:ao}{O:ai}{Kp:aaH}
def pQ{K v kd}{z y:Nat}{c}(a:V k v (.lit (.int kd (z:Int))))(b:z<=y)(d:K z k O):dD P (Instr.sliceBound v y c) k O K Kp:=by
 rw[c8 a];unfold Instr.sliceBound;refine af (ag ?_);dsimp only;rw[YG ⟨by omega,by omega⟩];exact ag (by simp_all)
def kZ{K env ρ isSlice len cap lo hi mx l h m}(hb:BI env len cap lo hi mx l h m)
 (e:∀o,(lo=some o\/hi=some o\/mx=some o)->V k (ρ o) (ak env o)) (j:K (l,h,m) k O):dD P (Instr.sliceBounds isSlice len cap (lo.map ρ) (hi.map ρ) (mx.map ρ)) k O K Kp:=by
 obtain⟨f,g,i⟩:=hb;unfold Instr.sliceBounds
 have a:∀c,dD P (do
  let l <-match lo.map ρ with
   |some v=>Instr.sliceBound v h c
   |none=>pure 0
  pure (l,h,m):Sem (Nat × Nat × Nat)) k O K Kp:=by
  intro c;cases lo with
  |none=>simp only at i;subst i;exact af (ag (ag j))
  |some o=>obtain⟨⟨kd,b⟩,d⟩:=i;have:=e o (.inl rfl);rw[b]at this;exact af (pQ this d (ag j))
 cases mx with
 | none=>
   simp only at f;subst f;refine af (ag ?_);cases hi with
   |none=>obtain⟨_,rfl⟩:=g;exact af (ag (a _))
   |some o=>obtain⟨⟨kd,b⟩,d⟩:=g;have:=e o (.inr (.inl rfl));rw[b]at this;exact af (pQ this d (a _))
 | some p=>
   obtain⟨⟨s,q⟩,r⟩:=f;have n:=e p (.inr (.inr rfl));rw[q]at n;refine af (pQ n r ?_);cases hi with
   |none=>simp_all
   |some o=>obtain⟨⟨kd,b⟩,d⟩:=g;have:=e o (.inr (.inl rfl));rw[b]at this;exact af (pQ this d (a _))
end
def rK{kk}:∀{es}(_:∀e∈es,e.cells.length=kk)  l ,flatten (es.drop l)=(flatten es).drop (l*kk)
 |[],_,l=>by simp[flatten]
 |a::es,h,0=>by simp
 |a::es,h,l+1=>by rw[List.drop_succ_cons,rK (λe b=>h e (by simp[b])) l,flatten_cons,aav,Nat.one_mul,Nat.add_comm,<-List.drop_drop,<-h a (by simp),List.drop_left]
def rL{kk}:∀{es}(_:∀e∈es,e.cells.length=kk)  l ,flatten (es.take l)=(flatten es).take (l*kk)
 |[],_,l=>by simp[flatten]
 |a::es,h,0=>by simp[flatten]
 | a::es,h,l+1=>by
   have c:=h a (by simp);have d:(l+1)*kk=l*kk+kk:=by grind
   rw[List.take_succ_cons,flatten_cons,rL (λe b=>h e (by simp[b])) l,flatten_cons,aaz,ZB (l:=a.cells) (by omega)]
   simp_all
section
variable{P:abm}(L:iT P){o:Oper}{env:Env}{σ:ab}{K:aaP}{Kp:aaP}
def mP{t x lo hi mx}(a:o.op=.slice t x lo hi mx):x∈o.op.operands/\∀y,(lo=some y\/hi=some y\/mx=some y)->y∈o.op.operands:=by simp_all
def V.I4{k:ao}{b off cap kk N E l h m:Nat}{es sp}(p:k.sh b=some (E,N))(s:off+cap*kk<=N)(g:∀e∈es,e.cells.length=kk)
 (t:∀  j  a,(flatten es)[j]?=some a->∃v,k.cell b (off+j)=some v/\V k v a/\cr.flat v=true) (u:l<=h) (w:h<=m) (x:m<=cap) (q:h<=es.length) (c:sp=.any\/(sp=.exact/\m=h)):
 V k (.slice (if m=l then some ⟨b,off,none⟩else(some (⟨b,off,none⟩:Addr)).map (·.add (l*kk))) (h-l) (m-l)) (.sl kk ((es.drop l).take (h-l)) sp):=by
 have hlen:((es.drop l).take (h-l)).length=h-l:=by simp;omega
 have d:∀e∈(es.drop l).take (h-l),e.cells.length=kk:=λe i=>g e (List.mem_of_mem_drop (List.mem_of_mem_take i))
 by_cases f:m=l
 . rw[YG f]
   have r:h-l=0:=by omega
   have n:m-l=0:=by omega
   rw[r,n];have:(es.drop l).take 0=[]:=by simp
   rw[this];refine V.ofRow (kk:=kk) (es:=[]) (cap:=0) (by simp) p (by omega) (by simp) (λj a o=>by simp[flatten]at o) (by rcases c with rfl|⟨rfl,_⟩<;>simp[kW.fits])
 rw[YA f,YW,ib]
 conv=>lhs;rw[<-hlen]
 refine V.ofRow (by omega) p ?_ d (λj a o=>?_) ?_
 . have:=Zw kk (show l+(m-l)<=cap by omega)
   grind
 . rw[rL (λe i=>g e (List.mem_of_mem_drop i)),rK g]at o
   grind
 rcases c with rfl|⟨rfl,rfl⟩
 . trivial
 show m-l=_;rw[hlen]
def DI{t e:Nat}{x lo hi it g es sp l h}(r:o.op=.slice t x lo hi none)(u:L.tt t=some it)(v:it.kind=.slice e)(w:L.tt e=some g)
 (D:ak env x=.sl g.size es sp) (hb:∀cap,es.length<=cap->BI env es.length cap lo hi none l h cap) (i:h<=es.length) (y:K (.sl g.size ((es.drop l).take (h-l)) .any) σ):aJ P o env σ K Kp:=
 aJ.val (s:=λc=>Instr.sliceAt t (c x) (lo.map c) (hi.map c) none) (λc=>by simp[execOp,r]) λk O c j z=>by
  obtain⟨F,A⟩:=mP r;have B:=j x F;rw[D]at B;unfold Instr.sliceAt;refine af (aD L u λT _ m=>?_);rw[bM m v];dsimp only;unfold Instr.slice;refine af (aD L u λd _ hd=>?_);rw[bM hd v];rcases B.kA with⟨G,n,rfl,_⟩|⟨b,off,cap,N,E,n,C,H,I,J,M,U⟩
  . rw[n]
    have a:=hb 0 (by simp);have:=a.le (by simp);have p:l=0:=by omega
    have q:h=0:=by omega
    cases G<;>(
     dsimp only;refine af (kZ (mx:=none) a (λo f=>j o (A o (by simpa using f))) ?_);dsimp only;refine af (bF L w (ag (.here ⟨.refl k,_,σ,?_,z,y⟩)));subst p;subst q;simp only[YD,Nat.sub_zero,List.drop_zero,List.take_nil];exact .slnil _ _ _ (.inl rfl))
  rw[n];dsimp only;have a:=hb cap C;obtain⟨Q,R,S⟩:=a.le C;refine af (kZ (mx:=none) a (λo f=>j o (A o (by omega))) ?_);dsimp only;refine af (bF L w (ag (.here ⟨.refl k,_,σ,?_,z,y⟩)));exact V.I4 H I J M Q R S i (.inl rfl)
def BJ{t e:Nat}{x lo hi mx it n es sp l h}(z:o.op=.slice t x lo hi (some mx))(A:L.tt t=some it)(B:it.kind=.slice e)(p:L.tt e=some n)
 (G:ak env x=.sl n.size es sp) (hb:∀cap,es.length<=cap->BI env es.length cap lo hi (some mx) l h h) (q:h<=es.length) (r:∀a,(a=.sl n.size ((es.drop l).take (h-l)) .exact\/(es=[]/\a=.nil))->K a σ):aJ P o env σ K Kp:=
 aJ.val (s:=λg=>Instr.sliceAt t (g x) (lo.map g) (hi.map g) (some (g mx))) (λg=>by simp[execOp,z]) λk O g m u=>by
  obtain⟨H,v⟩:=mP z;have C:=m x H;rw[G]at C;unfold Instr.sliceAt;refine af (aD L A λU _ w=>?_);rw[bM w B];dsimp only;unfold Instr.slice;refine af (aD L A λd _ hd=>?_);rw[bM hd B];rcases C.kA with⟨D,y,rfl,_⟩|⟨b,off,cap,N,E,y,F,I,J,M,Q,W⟩
  . rw[y]
    have c:=hb 0 (by simp);have:=c.le (by simp);have i:l=0:=by omega
    have j:h=0:=by omega
    cases D with
    | none=>
      dsimp only;refine af (kZ (mx:=some mx) c (λo f=>m o (v o f)) ?_);dsimp only;refine af (bF L p (ag (.here ⟨.refl k,.nil,σ,?_,u,r _ (.inr ⟨rfl,rfl⟩)⟩)));subst i;subst j;simp only[YD,Nat.sub_zero];exact .lit _
    | some D=>
      dsimp only;refine af (kZ (mx:=some mx) c (λo f=>m o (v o f)) ?_);dsimp only;refine af (bF L p (ag (.here ⟨.refl k,_,σ,?_,u,r _ (.inl rfl)⟩)));subst i;subst j;simp only[YD,Nat.sub_zero,List.drop_zero,List.take_nil];exact .slnil _ _ _ (.inr ⟨rfl,rfl⟩)
  rw[y];dsimp only;have c:=hb cap F;obtain⟨R,S,T⟩:=c.le F;refine af (kZ (mx:=some mx) c (λo f=>m o (v o f)) ?_);dsimp only;refine af (bF L p (ag (.here ⟨.refl k,_,σ,?_,u,r _ (.inl rfl)⟩)));exact V.I4 I J M Q R S T q (.inr ⟨rfl,rfl⟩)
end
section
variable{P:abm}(L:iT P){o:Oper}{env:Env}{σ:ab}{K:aaP}{Kp:aaP}
def Ai{op}{t C e:Nat}{x y i kk es sp}(D:o.op=.binOp op t x y C)(F:L.tt t=some i)(G:i.kind=.slice e)(H:ak env y=.nil)
 (I:ak env x=.sl kk es sp) (j:op=.eql\/op=.neq) (J:es=[]->K (.lit (.bool (op==.eql))) σ) (r:K (.lit (.bool (op==.neq))) σ):aJ P o env σ K Kp:=
 aJ.val (s:=λg=>do eqGuard op t x y (g x) (g y);binOp op t (g x) (g y)) (λg=>by simp[execOp,D]) λk O g l M=>by
  have A:=l x (by simp_all)
  have B:=l y (by simp_all)
  rw[H]at B;rw[I]at A;have Q:g y=.slice none 0 0:=B.I3
  have m:∃a n c,g x=.slice a n c/\(a.isNone=true->es=[]):=by
   rcases A.kA with⟨W,m,h,_⟩|⟨b,off,cap,N,E,m,_⟩
   . simp_all
   simp_all
  obtain⟨a,n,c,m,X⟩:=m;rw[m,Q];have S:eqGuard op t x y (.slice a n c) (.slice none 0 0)=pure ():=by rcases j with rfl|rfl<;>simp[eqGuard]
  rw[S];refine af (ag ?_)
  have p:∀(R:Bool->ao->ai->Prop) (u:aaH),R a.isNone k O->dD P (Op.equal t (.slice a n c) (.slice none 0 0)) k O R u:=λR u T=>by
   show dD P (Op.equalIn (9999+1) t (.slice a n c) (.slice none 0 0)) k O R u;rw[Op.equalIn];refine af (aD L F λd _ hd=>?_)
   rw[bM hd G];cases a<;>exact ag T
  have fin:∀b:Bool,K (.lit (.bool b)) σ->dD P (do pure (.bool b)) k O (λv q w=>lQ q w λz U=>k.Le z/\∃a f,V z v a/\Rel z U f/\K a f) (λv q w=>k.Le q/\∃a f,V q v a/\Rel q w f/\Kp a f):=λb hb=>ag (.here ⟨.refl k,_,σ,.lit _,M,hb⟩)
  rcases j with rfl|rfl
  . refine af (s:=Op.equal t (.slice a n c) (.slice none 0 0)) (p _ _ (fin _ ?_))
    cases Y:a.isNone with
    |true=>simp_all
    |false=>exact r
  refine af (s:=Op.equal t (.slice a n c) (.slice none 0 0)) (p _ _ (fin (!a.isNone) ?_))
  grind
def Gy{i d}(h:dv P i d=true)(a:i.kind=.bool):d=.bool:=by cases d<;>simp_all [dv]
def yI{op}{t n:Nat}{x y i p q}(r:o.op=.binOp op t x y n)(u:L.tt t=some i)(v:i.kind=.bool)(w:ak env x=.lit (.bool p))(z:ak env y=.lit (.bool q)){b}(c:(op=.eql/\b=(p==q))\/(op=.neq/\b=!(p==q)))(h:K (.lit (.bool b)) σ):aJ P o env σ K Kp:=
 aJ.val (s:=λa=>do eqGuard op t x y (a x) (a y);binOp op t (a x) (a y)) (λa=>by simp[execOp,r]) λk O a e j=>by
  have l:=e x (by simp_all)
  have m:=e y (by simp_all)
  rw[w]at l;rw[z]at m;rw[qM l,qM m];have A:eqGuard op t x y (.bool p) (.bool q)=pure ():=by rcases c with⟨rfl,_⟩|⟨rfl,_⟩<;>simp[eqGuard]
  rw[A];refine af (ag ?_)
  have f:∀(R:Bool->ao->ai->Prop) (g:aaH),R (p==q) k O->dD P (Op.equal t (.bool p) (.bool q)) k O R g:=λR g B=>by
   show dD P (Op.equalIn (9999+1) t (.bool p) (.bool q)) k O R g;rw[Op.equalIn];refine af (aD L u λd _ hd=>?_)
   rw[Gy hd v];exact ag B
  rcases c with⟨rfl,rfl⟩|⟨rfl,rfl⟩
  . exact af (s:=Op.equal t (.bool p) (.bool q)) (f _ _ (ag (.here ⟨.refl k,_,σ,.lit _,j,h⟩)))
  exact af (s:=Op.equal t (.bool p) (.bool q)) (f _ _ (ag (.here ⟨.refl k,_,σ,.lit _,j,h⟩)))
end
inductive uR{α:Sort _}(a:α):Type
 |mk
def yh{α:Type}(x:Option α)(K:α->Prop)(u:uR K:=.mk):Prop:=∃a,x=some a/\K a
@[simp] theorem Gz{α a}{K:α->Prop}{u}:yh (some a) K u=K a:=by simp[yh]
@[simp] theorem GA{α K u}:yh (none:Option α) K u=False:=by simp[yh]
@[simp] theorem rN{α β f}{x:Option α}{K:β->Prop}{u}:yh (x.map f) K u=yh x (λa=>K (f a)):=by cases x<;>simp
def uk(x:Bool)(A B:Prop)(u:uR A:=.mk)(v:uR B:=.mk):Prop:=(x=true->A)/\(x=false->B)
@[simp] theorem nA{A B u v}:uk true A B u v=A:=by simp[uk]
@[simp] theorem lU{A B u v}:uk false A B u v=B:=by simp[uk]
def Ui(σ:ab)(F:aba)(u:uR F:=.mk):Prop:=∀b,σ b=none->F b
section
variable{P:abm}(L:iT P){o:Oper}{env:Env}{σ:ab}{K:aaP}{Kp:aaP}
def sX{x}{q t:Nat}{i}(z:o.op=.typeAssert x q t true)(r:L.tt t=some i)(A:i.kind≠.iface)(B:ak env x=.lit .nilIface)
 (C:K (.cH [kX i.zero,.lit (.bool false)]) σ):aJ P o env σ K Kp:=
 aJ.val (s:=λl=>Instr.typeAssert (l x) q t true) (λl=>by simp[execOp,z]) λk O l m D=>by
  have f:=m x (by simp_all);rw[B]at f;generalize l x=v at f;cases f;unfold Instr.typeAssert;refine af (aD L r λdd _ hd=>?_);have E:∀ms,dd≠.interface ms:=λms e=>by subst e;simp[dv]at hd;exact A hd
  have pair:∀{u:Value}{b:Bool}{a:AV},V k u a->V k (.tuple #[u,.bool b]) (.cH [a,.lit (.bool b)]):=λ{u b a} h=>.cH _ _ rfl λj w c f y=>by
   match j with
   |0=>simp_all
   |1=>simp at f y;subst f;subst y;exact .lit _
   |j+2=>simp at f
  have fin:dD P ((do pure (.tuple #[<-zeroValue t,.bool false]):Sem Value)) k O (λv g n=>lQ g n λp F=>k.Le p/\∃a d,V p v a/\Rel p F d/\K a d) (λv g n=>k.Le g/\∃a d,V g v a/\Rel g n d/\Kp a d):=af (cM L r (ag (.here ⟨.refl k,_,σ,pair (.kX k _),D,C⟩)))
  simp_all
end
def M8(a:TI)(len:Nat)(parts:List (Nat × AV)):Bool:=decide (len*a.size<=16777216) && (kX a.zero).cells.all AV.flat && (decide (len*a.size=0)||decide ((kX a.zero).cells.length=a.size)) && (parts.map (·.1)==List.range len) && parts.all λp=>decide (p.2.cells.length=a.size) && p.2.cells.all AV.flat
def um{size}:∀  parts   l   s ,(parts.map (·.1)=List.range' s parts.length)->(∀p∈parts,p.2.cells.length=size/\p.2.cells.all AV.flat=true)->(s+parts.length)*size=l.length ->
 ko (λj=>some (j*size,size)) l parts=some (l.take (s*size)++flatten (parts.map (·.2)))
 |[],l,s,_,_,c=>by simp[ko,flatten]at c ⊢;simp_all
 | (i,a)::parts,l,s,d,g,c=>by
   simp only[aaw,Zh,List.range'_succ,List.cons.injEq]at d;obtain⟨rfl,d⟩:=d;obtain⟨h,k⟩:=g (i,a) (by simp);simp only[Zh]at c;have e:i*size+size<=l.length:=by grind
   have b:i*size+a.cells.length<=l.length:=by simp_all
   simp only[ko];rw[YG ⟨h,e,k⟩];rw[um parts (aH l (i*size) a.cells) (i+1) d (λp f=>g p (by simp[f])) (by rw[mD b,<-c];grind)];congr 1;rw[aaw,flatten_cons,<-List.append_assoc];congr 1;have:(i+1)*size=i*size+a.cells.length:=by grind
   rw[this];unfold aH;rw[ZA,aaz,aaz];have m:(List.take (i*size) l).length=i*size:=by grind
   rw[m,ZB (by omega)];congr 1;have n:i*size+a.cells.length-i*size=a.cells.length:=by omega
   grind
section
variable{P:abm}(L:iT P)
def DJ{o env σ K Kp t len e parts it a}(f:o.op=.buildSlice t len parts)(g:L.tt t=some it)(i:it.kind=.slice e)(j:L.tt e=some a)
 (h:M8 a len (parts.toList.map λp=>(p.1,ak env p.2))=true) (k:K (.sl a.size (parts.toList.map λp=>ak env p.2) .exact) σ):aJ P o env σ K Kp:=by
 simp only[M8,za,aag,YE,aab,ZJ,KD]at h;obtain⟨⟨⟨⟨l,r⟩,m⟩,d⟩,n⟩:=h;have hlen:parts.toList.length=len:=by have:=congrArg List.length d;grind
 have b:∀p∈(parts.toList.map λp=>(p.1,ak env p.2)),p.2.cells.length=a.size/\p.2.cells.all AV.flat=true:=λp c=>⟨(n p c).1,by grind⟩
 refine yg L f g i j l (by grind) m (es:=parts.toList.map λp=>ak env p.2) ⟨by grind,λx q=>?_⟩ ?_ k
 . obtain⟨p,c,rfl⟩:=YN.1 q
   exact(b (p.1,ak env p.2) (YN.2 ⟨p,c,rfl⟩)).1
 rw[um (size:=a.size) _ _ 0 (by rw[aab,d,YV,hlen,List.range_eq_range']) b (by grind)]
 simp[Function.comp_def]
inductive Out where
 |ok (a:AV) (σ:ab)
 |no
 |ig (p:Prop) (x:Out)
 |new (σ:ab) (c:abj)
 |panic (v:AV) (σ:ab)
def Out.opt(x:abc)(σ:ab):Out:=match x with|some a=>.ok a σ|none=>.no
def qQ(x:Out)(K Kp:aaP)(u:uR K:=.mk)(v:uR Kp:=.mk):Prop:=
 match x with
 |.ok a σ=>K a σ
 |.no=>False
 |.ig p x=>p/\qQ x K Kp u v
 |.new σ c=>Ui σ λb=>K (.ref b 0) (σ.set b (.cells c))
 |.panic v σ=>Kp v σ
section
variable{K Kp:aaP}{u:uR K}{v:uR Kp}
@[simp] theorem T6{a σ}:qQ (.ok a σ) K Kp u v=K a σ:=propext YP
@[simp] theorem T7:qQ .no K Kp u v=False:=propext YP
@[simp] theorem mQ{p x}:qQ (.ig p x) K Kp u v=(p/\qQ x K Kp):=propext YP
@[simp] theorem ij{x σ}:qQ (.opt x σ) K Kp u v=yh x (λa=>K a σ):=by cases x<;>simp[Out.opt]
end
def DK(op:BinOp)(kd:IntKind)(a b:Int)(σ:ab):Out:=
 match op,kd with
 |.add,.i64=>.ig (fits (a+b)) (.ok (.lit (.int .i64 (a+b))) σ)
 |.sub,.i64=>.ig (fits (a-b)) (.ok (.lit (.int .i64 (a-b))) σ)
 |.mul,.i64=>.ig (fits (a*b)) (.ok (.lit (.int .i64 (a*b))) σ)
 |.eql,_=>.ok (.lit (.bool (a==b))) σ
 |.neq,_=>.ok (.lit (.bool (a !=b))) σ
 |.lss,_=>.ok (.lit (.bool (decide (a<b)))) σ
 |.leq,_=>.ok (.lit (.bool (decide (a<=b)))) σ
 |.gtr,_=>.ok (.lit (.bool (decide (a>b)))) σ
 |.geq,_=>.ok (.lit (.bool (decide (a>=b)))) σ
 |.shl,_=>.ig (0<=b) (.ok (.lit (.int kd (kd.wrap (a*2 ^ (min b.toNat kd.bits))))) σ)
 |.shr,_=>.ig (0<=b) (.ok (.lit (.int kd (a.fdiv (2 ^ (min b.toNat kd.bits))))) σ)
 |op,kd=>.opt ((oA op kd a b).map .lit) σ
def I5{op kd a b σ K Kp}(h:qQ (DK op kd a b σ) K Kp):qN op kd a b λv=>K (.lit v) σ:=by
 have key:∀x:aaR,qQ (.opt (x.map .lit) σ) K Kp->∃v,x=some v/\K (.lit v) σ:=λx h=>by rw[ij,rN]at h;exact h
 cases op<;>first|exact key _ h|exact h|(cases kd<;>first|exact h|exact key _ h)
def Aj(mu:abf)(o:Oper)(env:Env)(σ:ab):Out:=
 match o.op with
 |.move x=>.ok (ak env x) σ
 |.assign x=>.ok (ak env x) σ
 | .pick c a b=>match ak env c with
   |.lit (.bool x)=>.ok (if x then ak env a else ak env b) σ
   |_=>.no
 | .alloc t=>match L.tt t with
   |some i=>.ig ((kX i.zero).cells.all AV.flat=true) (.new σ (kX i.zero).cells)
   |none=>.no
 |.box _ x=>.ig ((ak env x).cells.all AV.flat=true) (if(match o.dst with|some d=>mu.contains d|none=>false)=true then .new σ (ak env x).cells else .ok (.cp (ak env x) 0) σ)
 | .load t p=>match L.tt t with
   |some i=>.opt (qp i σ (ak env p)) σ
   |none=>.no
 | .store t p x=>match L.tt t with
   |some i=>(match qL i σ (ak env p) (ak env x)with|some n=>.ok (.lit undef) n|none=>.no)
   |none=>.no
 | .fieldAddr s x j=>match L.tt s with
   | some ⟨.struct,_,_,_,jx⟩=>(match jx[j]? with
     |some f=>.ig (f.2.1≠0) (.opt (rq (ak env x) f.1) σ)
     |none=>.no)
   |_=>.no
 | .field s x j=>match L.tt s,ak env x with
   | some ⟨.struct,_,_,_,jx⟩,.agg l=>(match jx[j]? with
     |some f=>(match L.tt f.2.2 with|some q=>.opt (cI l f.1 q.size q.agg) σ|none=>.no)
     |none=>.no)
   |_,_=>.no
 | .indexAddr t x m=>match L.tt t with
   | some ⟨.slice e,_,_,_,_⟩=>(match L.tt e,ak env x,ak env m with
     |some g,.sl u es _,.lit (.int _ z)=>.ig (u=g.size/\0<=z) (.opt ((es[z.toNat]?).map λa=>.cp a 0) σ)
     |some g,.gq b off len _,.lit (.int _ z)=>.ig (0<=z/\z<len) (.ok (.ref b (off+z.toNat*g.size)) σ)
     |_,_,_=>.no)
   | some ⟨.array k e,_,_,_,_⟩=>(match L.tt e,ak env m with
     |some g,.lit (.int _ z)=>.ig (0<=z/\z<k) (.opt (rq (ak env x) (z.toNat*g.size)) σ)
     |_,_=>.no)
   |_=>.no
 | .index t x m=>match L.tt t with
   | some ⟨.array k e,_,_,_,_⟩=>(match L.tt e,ak env x,ak env m with
     |some g,.agg l,.lit (.int _ z)=>.ig (0<=z/\z<k) (.opt (cI l (z.toNat*g.size) g.size g.agg) σ)
     |_,_,_=>.no)
   |_=>.no
 | .binOp op t x y _=>match ak env x,ak env y with
   | .lit (.bool a),.lit (.bool b)=>(match L.tt t with
     | some ⟨.bool,_,_,_,_⟩=>(match op with
       |.eql=>.ok (.lit (.bool (a==b))) σ
       |.neq=>.ok (.lit (.bool (!(a==b)))) σ
       |_=>.no)
     |_=>.no)
   |.lit (.int kd a),.lit (.int h b)=>.ig (kd=h\/op=.shl\/op=.shr) (if(match o.dst with|some d=>mu.contains d|none=>false)=true then .opt ((oA op kd a b).map .lit) σ else DK op kd a b σ)
   |_,_=>.no
 | .unOp .not _ x=>match ak env x with
   |.lit (.bool b)=>.ok (.lit (.bool !b)) σ
   |_=>.no
 | .convert _ t x=>match L.tt t,ak env x with
   |some ⟨.int kd,_,_,_,_⟩,.lit (.int _ a)=>.ok (.lit (.int kd (kd.wrap a))) σ
   |_,_=>.no
 | .makeInterface t x=>match L.tt t with
   |some i=>.ig (i.kind≠.iface) (.ok (.kz t (ak env x)) σ)
   |none=>.no
 |.makeFunc f fs cs=>.ok (.fn f (fs.toList.map (ak env)) (cs.toList.map (ak env))) σ
 | .extract x j=>match ak env x with
   |.cH l=>.opt (l[j]?) σ
   |_=>.no
 | .typeAssert x _ t true=>match L.tt t,ak env x with
   |some i,.kz d y=>.ig (i.kind≠.iface) (.ok (if d=t then .cH [y,.lit (.bool true)]else .cH [kX i.zero,.lit (.bool false)]) σ)
   |some i,.lit .nilIface=>.ig (i.kind≠.iface) (.ok (.cH [kX i.zero,.lit (.bool false)]) σ)
   |_,_=>.no
 |.nilCheck x=>match ak env x with|.cp v off=>.ok (.cp v off) σ|.ref b off=>.ok (.ref b off) σ|.kp b l hole off=>.ok (.kp b l hole off) σ|.fn (.func f) l r=>.ok (.fn (.func f) l r) σ|_=>.no
 | .panic x=>match ak env x with
   |.kz t y=>.panic (.kz t y) σ
   |_=>.no
 | .build t parts=>match L.tt t with
   |some i=>.ig (i.kind=.struct/\(kX i.zero).cells.all AV.flat=true) (.opt ((ko (λj=>(i.jx[j]?).map λx=>(x.1,x.2.1)) (kX i.zero).cells (parts.toList.map λp=>(p.1,ak env p.2))).map .agg) σ)
   |none=>.no
 | .buildSlice t len parts=>match L.tt t with
   | some ⟨.slice e,_,_,_,_⟩=>(match L.tt e with
     |some g=>.ig (M8 g len (parts.toList.map λp=>(p.1,ak env p.2))=true) (.ok (.sl g.size (parts.toList.map λp=>ak env p.2) .exact) σ)
     |none=>.no)
   |_=>.no
 | .call c=>match c.callee,c.args.toList with
   | .builtin .len,[x]=>(match ak env x with
     |.sl _ es _=>.ok (.lit (.int .i64 es.length)) σ
     |.lit (.slice none 0 0)=>.ok (.lit (.int .i64 0)) σ
     |.gq _ _ len _=>.ok (.lit (.int .i64 len)) σ
     |_=>.no)
   | .builtin .min,[x,y]=>(match ak env x,ak env y with
     |.lit (.int kd a),.lit (.int h b)=>.ig (kd=h) (.ok (.lit (.int kd (if b<a then b else a))) σ)
     |_,_=>.no)
   | .builtin .max,[x,y]=>(match ak env x,ak env y with
     |.lit (.int kd a),.lit (.int h b)=>.ig (kd=h) (.ok (.lit (.int kd (if b>a then b else a))) σ)
     |_,_=>.no)
   |_,_=>.no
 |_=>.no
def oR(o:Oper):Bool:=
 match o.op with
 |.buildSlice t _ _=>match L.tt t with|some ⟨.slice _,_,_,_,_⟩=>true|_=>false
 |.binOp _ t _ _ _=>match L.tt t with|some ⟨.int _,_,_,_,_⟩=>true|some ⟨.bool,_,_,_,_⟩=>true|_=>false
 |_=>rC L o
def vU{mu o env σ K Kp}(A:oR L o=true)(h:qQ (Aj L mu o env σ) K Kp):aJ P o env σ K Kp:=by
 unfold Aj at h;unfold oR rC at A;split at h
 . next x g=>exact vb (.inl g) h
 . next x g=>exact vb (.inr g) h
 . next c a b g=>
   split at h
   . next x m=>exact Ft g m h
   exact h.elim
 . next t g=>
   split at h
   . next i w=>exact Bx L g w h.1 h.2
   exact h.elim
 . next t x g=>
   obtain⟨B,C⟩:=h;generalize (match o.dst with|some d=>mu.contains d|none=>false)=q at C;cases q
   . exact IT g B C
   exact vH g B C
 . next t p g=>
   split at h
   . next i w=>rw[ij]at h;obtain⟨a,B,C⟩:=h;exact z9 L g w B C
   exact h.elim
 . next t p x g=>
   split at h
   . next i w=>
     split at h
     . next Z B=>exact Bw L g w B h
     exact h.elim
   exact h.elim
 . next s x j g=>
   split at h
   . next I J M jx w=>
     split at h
     . next f U=>rw[mQ,ij]at h;obtain⟨B,a,C,S⟩:=h;exact ru L g w rfl U B C S
     exact h.elim
   exact h.elim
 . next s x j g=>
   split at h
   . next I J M jx l w m=>
     split at h
     . next f U=>
       split at h
       . next fi V=>rw[ij]at h;obtain⟨a,B,C⟩:=h;exact By L g w rfl U V m B C
       exact h.elim
     exact h.elim
   exact h.elim
 . next t x ix g=>
   split at h
   . next e I J M N w=>
     split at h
     . next T kk es sp kd z F m D=>rw[mQ,ij,rN]at h;obtain⟨⟨rfl,G⟩,a,B,C⟩:=h;exact vI L g w rfl F m D G B C
     . next T b off len cap kd z F m D=>exact uh L g w rfl F m D h.1 h.2
     exact h.elim
   . next k e I J M N w=>
     split at h
     . next T kd z F D=>rw[mQ,ij]at h;obtain⟨G,a,B,C⟩:=h;exact ug L g w rfl F D G B C
     exact h.elim
   exact h.elim
 . next t x ix g=>
   split at h
   . next k e I J M N w=>
     split at h
     . next T l kd z F m D=>rw[mQ,ij]at h;obtain⟨G,a,B,C⟩:=h;exact Bz L g w rfl F m D G B C
     exact h.elim
   exact h.elim
 . next op t x y t2 g=>
   split at h
   . next a b m u=>
     split at h
     . next I J M N E=>
       split at h
       . exact yI L g E rfl m u (.inl ⟨rfl,rfl⟩) h
       . exact yI L g E rfl m u (.inr ⟨rfl,rfl⟩) h
       exact h.elim
     exact h.elim
   . next kd a H b m u=>
     obtain⟨a7,h⟩:=h;have n:(op≠.shl/\op≠.shr)->H=kd:=λhh=>by simp_all
     generalize (match o.dst with|some d=>mu.contains d|none=>false)=q at h;cases q with
     | true=>
       simp only[YD,ij,rN]at h;obtain⟨v,R,W⟩:=h;rw[n ⟨(λe=>by subst e;cases R),(λe=>by subst e;cases R)⟩]at u;exact cR g m u R W
     |false=>
     simp only[LK,Rp]at h;have h:=I5 h;unfold qN at h;split at h
     . rw[n (by simp)]at u;exact mM g m u (.inl ⟨rfl,rfl⟩) h.1 h.2
     . rw[n (by simp)]at u;exact mM g m u (.inr (.inl ⟨rfl,rfl⟩)) h.1 h.2
     . rw[n (by simp)]at u;exact mM g m u (.inr (.inr ⟨rfl,rfl⟩)) h.1 h.2
     . rw[n (by simp)]at u;exact cR g m u rfl h
     . rw[n (by simp)]at u;exact cR g m u rfl h
     . rw[n (by simp)]at u;exact cR g m u rfl h
     . rw[n (by simp)]at u;exact cR g m u rfl h
     . rw[n (by simp)]at u;exact cR g m u rfl h
     . rw[n (by simp)]at u;exact cR g m u rfl h
     . exact rv g m u h.1 (.inl ⟨rfl,rfl⟩) h.2
     . exact rv g m u h.1 (.inr ⟨rfl,rfl⟩) h.2
     next B C S Y h5 h6 h7 h8 h9 a8 a9=>
     obtain⟨v,R,W⟩:=h;rw[n ⟨λe=>by simp_all,λe=>by simp_all⟩]at u;exact cR g m u R W
   exact h.elim
 . next t x g=>
   split at h
   . next b m=>exact IW g m h
   exact h.elim
 . next s t x g=>
   simp only[g]at A;split at h
   . next kd I J M N H a E m=>
     split at A
     . next ks b1 b2 b3 b4 kt c1 c2 c3 c4 hs X=>rw[E]at X;exact vJ L g hs E rfl rfl m h
     cases A
   exact h.elim
 . next t x g=>
   split at h
   . next i w=>exact mN L g w h.1 h.2
   exact h.elim
 . next f fs cs g=>exact ui g h
 . next x j g=>
   split at h
   . next l m=>rw[ij]at h;obtain⟨a,B,C⟩:=h;exact vK g m B C
   exact h.elim
 . next x xt t g=>
   split at h
   . next i d y w m=>exact qt L g w h.1 m h.2
   . next i w m=>exact sX L g w h.1 m h.2
   exact h.elim
 . next x g=>
   split at h
   . next v off m=>exact eS g (.inl ⟨_,_,m⟩) (by simp_all)
   . next b off m=>exact eS g (.inr (.inl ⟨_,_,m⟩)) (by simp_all)
   . next b l hole off m=>exact eS g (.inr (.inr (.inr ⟨_,_,_,_,m⟩))) (by simp_all)
   . next f l r m=>exact eS g (.inr (.inr (.inl ⟨_,_,_,m⟩))) (by simp_all)
   exact h.elim
 . next x g=>
   split at h
   . next t y m=>exact BA g m h
   exact h.elim
 . next t parts g=>
   split at h
   . next i w=>rw[mQ,ij,rN]at h;obtain⟨⟨B,C⟩,l,S,Y⟩:=h;exact BC L g w B C S Y
   exact h.elim
 . next t len parts g=>
   split at h
   . next e I J M N E=>
     split at h
     . next T F=>exact DJ L g E rfl F h.1 h.2
     exact h.elim
   exact h.elim
 . next c g=>
   simp only[g]at A;split at h
   . next x O Q=>
     simp only[O,Q]at A;have e:=kL O Q;split at A
     . next t G=>
       split at A
       . next e' I J M N E=>
         rw[e]at g;split at h
         . next kk es sp m=>exact Aa L g G E rfl (.inl m) h
         . next m=>exact Aa L (kk:=0) (sp:=.any) (es:=[]) g G E rfl (.inr ⟨m,rfl⟩) h
         . next b off len cap m=>exact yF L g G E rfl m h
         exact h.elim
       cases A
     cases A
   . next x y O Q=>
     rw[kL O Q]at g;split at h
     . next kd a H b m u=>obtain⟨rfl,h⟩:=h;exact pM g m u (.inl ⟨rfl,rfl⟩) h
     exact h.elim
   . next x y O Q=>
     rw[kL O Q]at g;split at h
     . next kd a H b m u=>obtain⟨rfl,h⟩:=h;exact pM g m u (.inr ⟨rfl,rfl⟩) h
     exact h.elim
   exact h.elim
 exact h.elim
end
def kB(pl:List Entry):Code->Bool
 |.seq a b=>kB pl a && kB pl b
 |.block _ c=>kB pl c
 |.scope c=>kB pl c
 |.cond _ a b=>kB pl a && kB pl b
 |.loop c=>kB pl c
 |.rangeFunc _ _ a c=>kB pl a && kB pl c
 |.region id ops true=>match pl.find? λe=>e.id==id with|some e=>rI ops e|none=>true
 |_=>true
def js(pl:List Entry)(todo:abb):Bool:=todo.all fun|.code c=>kB pl c|_=>true
def I6{pl id k k'}(h:exitTo id k=some k')(a:js pl k=true):js pl k'=true:=by unfold js at a ⊢;rw[YE]at a ⊢;exact λx b=>a x (qu h x b)
def aa(P:abm)(m:Mo)(fid n:Nat)(ro:aaX)(hold:List Entry)(todo:abb)(s:St)(K:aaN):Prop:=js hold todo=true->Go P m fid n ro todo s K
def vV(ops:aaW)(n:Nat)(env:Env)(o:Oper):Option Bool:=
 match o.guard with
 |none=>some true
 | some (j,b)=>match (ops[j]?).bind (·.dst)with
   | some d=>if d<n then(match env d with
     |.lit (.bool x)=>some (if b then x else !x)
     |.lit (.tuple _)=>some false
     |_=>none)else none
   |none=>none
def GB(x:Option Bool)(A B:Prop)(u:uR A:=.mk)(v:uR B:=.mk):Prop:=match x with|some b=>uk b A B u v|none=>False
@[simp] theorem mR{b A B u v}:GB (some b) A B u v=uk b A B:=propext YP
@[simp] theorem RO{A B u v}:GB none A B u v=False:=propext YP
def vW{ops n env o go no go' a u v}(f:go->go')(g:no->a)(h:GB (vV ops n env o) go no u v):qO ops n env o go' a:=by
 unfold vV at h;unfold qO;cases i:o.guard with
 |none=>simp_all
 | some p=>
   obtain⟨j,b⟩:=p;rw[i]at h;simp only at h ⊢;cases hd:(ops[j]?).bind (·.dst)with
   |none=>simp_all
   | some d=>
     rw[hd]at h;simp only at h ⊢;by_cases c:d<n
     . rw[YG c]at h
       refine⟨c,?_⟩;split at h
       . next x k=>
         simp only[k];refine⟨λe=>?_,λe=>?_⟩
         . simp_all
         cases x<;>cases b<;>simp at e
         . simp_all
         simp_all
       . simp_all
       simp_all
     simp_all
def yJ{ops n env o go no u v}(h:GB (vV ops n env o) go no u v):
 (bT ops n env o/\go)\/∃j b x d a,o.guard=some (j,b)/\ops[j]?=some a/\a.dst=some d/\d<n/\env d=.lit x/\RB x b/\no:=
 rD (vW id id h)
section
variable{P:abm}{m:Mo}{fid n:Nat}{ro:aaX}{D:List ye}{rc:Rec}{K:aaN}{k:abb}{ops:aaW}
def Go.RP{Kp i is env σ}(A:∀v env σ,Kp v σ->K (.panic v) ⟨env,σ,D,rc⟩)
 (h:cO P m ops n Kp [i] env σ (λenv σ=>Go P m fid n ro (.inRegion ops is::k) ⟨env,σ,D,rc⟩ K)):Go P m fid n ro (.inRegion ops (i::is)::k) ⟨env,σ,D,rc⟩ K:=by
 obtain⟨o,l,f,h⟩:=h;rcases h with⟨w,h⟩|⟨⟨j,b,x,d,Q,B,C,hd,p,E,q⟩,h⟩
 . rcases h with⟨fo,args,F,s,t⟩|⟨s,t⟩
   . refine .call l s w f (t.mono λr c G=>?_)
     cases r with
     |val a=>exact G
     |panic v=>simp_all
   refine .op l w f s ?_;intro H O I u J;refine iU _ (t H O I u J) (λ_ _ _ ⟨v,L,M,N,g,e,a,c,x,y,z⟩=>⟨v,L,M,N,g,e,a,c,x,y,z⟩) (λ_ _ _ ⟨e,a,c,x,y,z⟩=>⟨e,a,c,x,y,A _ _ _ z⟩)
 exact .unwanted l B C hd p E q h
end
section
variable{P:abm}(L:iT P)
def DL(mu:abf)(lt:Bool)(o:Oper)(env:Env)(σ:ab):abc:=
 match o.op with
 |.load t p=>if lt then(match L.tt t with|some i=>qp i σ (ak env p)|none=>none)else uQ L mu o env
 |_=>uQ L mu o env
def Ak(mu:abf)(ops:aaW)(n:Nat)(lt:Bool)(σ:ab)(K:Env->Prop)(u:uR K:=.mk):abf->Env->Prop
 |[],env=>K env
 | i::S,env=>match ops[i]? with
   |some o=>(Oper.ok n o && o.dst.isSome)=true/\GB (vV ops n env o) (yh (DL L mu lt o env σ) λa=>Ak mu ops n lt σ K u S (bd env o.dst a)) (Ak mu ops n lt σ K u S (bd env o.dst (.lit (.tuple #[]))))
   |none=>False
def DN{mu lt o env σ a}(h:DL L mu lt o env σ=some a):uQ L mu o env=some a\/(uQ L mu o env=none/\lt=true/\vS L o env σ=some a):=by
 unfold DL at h;split at h
 . next t p d=>
   cases lt
   . grind
   simp only[YD]at h;split at h
   . next i e=>
     have f:vS L o env σ=some a:=by simp_all
     cases b:uQ L mu o env with
     |none=>grind
     | some g=>
       left;unfold uQ at b;simp only[d,e]at b;split at b
       . next j v off c k=>
         cases c
         simp_all
       . simp_all
       cases b
   cases h
 grind
def mS{mu ops n lt σ K u}:∀{S env},Ak L mu ops n lt σ K u S env->jo L mu ops n lt σ S env K
 |[],env,h=>h
 | i :: S,env,h=>by
   unfold Ak at h;unfold jo;split at h
   . next o e=>
     try simp only[e]
     obtain⟨b,f⟩:=h;rw[za]at b;refine⟨b.1,b.2,?_⟩
     have main:(yh (DL L mu lt o env σ) λa=>Ak L mu ops n lt σ K u S (bd env o.dst a))->(match uQ L mu o env with
      |some a=>jo L mu ops n lt σ S (bd env o.dst a) K
      | none=>lt=true/\(match vS L o env σ with
        |some a=>jo L mu ops n lt σ S (bd env o.dst a) K
        |none=>False)):=by
      rintro⟨a,g,d⟩;rcases DN L g with h|⟨h,j,c⟩
      . simp only[h];exact mS d
      simp only[h,c];exact⟨j,mS d⟩
     exact vW main mS f
   simp_all
def uo:Op->Bool
 |.defer _|.go _|.send _ _|.recv _ _ _|.select _ _=>false
 |.call c=>match c.callee with|.builtin .recover=>false|.builtin .close=>false|.invoke _ _=>false|_=>true
 |_=>true
def M9(m:Mo)(o:Oper)(env:Env)(σ:ab)(R:aaP)(Kp:aaP):Prop:=
 match o.op with
 |.call ⟨.value fo,args,_⟩=>cX P m (ak env fo) (args.toList.map (ak env)) σ λr b=>match r with|.val a=>R a b|.panic v=>Kp v b
 |_=>aJ P o env σ R Kp
def Fu{m o env σ R Kp}(b:uo o.op=true)(h:M9 (P:=P) m o env σ R Kp):M7 P m o env σ R Kp:=by
 unfold M9 at h;split at h
 . next fo args a d=>exact .inl ⟨fo,args,a,d,h⟩
 exact .inr ⟨(λc e=>by rw[e]at b;cases b),h⟩
def aN(P:abm)(m:Mo)(ops:aaW)(n:Nat)(Kp:aaP)(p:ny)(env:Env)(σ:ab)(R:aaO):Prop:=iC P m ops n Kp p env σ R
def Na(m:Mo)(mu:abf)(ops:aaW)(n:Nat)(Kp:aaP)(i:Nat)(p:ny)(env:Env)(σ:ab)(go:aaO)(R:aaO)(u:uR go:=.mk):Prop:=
 match ops[i]? with
 | some o=>Oper.ok n o=true/\GB (vV ops n env o) (if oR L o=true then qQ (Aj L mu o env σ) (λa b=>go (bd env o.dst a) b) Kp else
    if uo o.op=true then M9 (P:=P) m o env σ (λa b=>aN P m ops n Kp p (bd env o.dst a) b R) Kp else iZ P m ops n Kp i env σ (λenv σ=>aN P m ops n Kp p env σ R)) (go (bd env o.dst (.lit (.tuple #[]))) σ)
 |none=>False
def gS(m:Mo)(mu:abf)(ops:aaW)(n:Nat)(Kp:aaP):ny->Env->ab->aaO->Prop
 |.done,env,σ,R=>R env σ
 |.take S lt p,env,σ,R=>Ak L mu ops n lt σ (λa=>gS m mu ops n Kp p a σ R) .mk S env
 |.one i p,env,σ,R=>Na L m mu ops n Kp i p env σ (λenv σ=>gS m mu ops n Kp p env σ R) R
 |.both i p q,env,σ,R=>Na L m mu ops n Kp i p env σ (λenv σ=>gS m mu ops n Kp p env σ R) R/\gS m mu ops n Kp q env σ R
def sY{m mu ops n Kp p R}(r:∀{env σ},gS L m mu ops n Kp p env σ R->iC P m ops n Kp p env σ R){i env σ}
 (h:Na L m mu ops n Kp i p env σ (λenv σ=>gS L m mu ops n Kp p env σ R) R):iZ P m ops n Kp i env σ (λenv σ=>iC P m ops n Kp p env σ R):=by
 unfold Na at h;split at h
 . next o g=>
   obtain⟨d,h⟩:=h;rcases yJ h with⟨s,h⟩|⟨j,b,x,t,u,v,w,k,l,y,q,h⟩
   . split at h
     . next f=>
       refine⟨o,g,d,.inl ⟨s,.inr ⟨λc e=>?_,(vU L f h).mono λa z=>r⟩⟩⟩;unfold oR rC at f;simp_all
     split at h
     . next A=>exact⟨o,g,d,.inl ⟨s,Fu A h⟩⟩
     exact h
   exact⟨o,g,d,.inr ⟨⟨j,b,x,t,u,v,w,k,l,y,q⟩,r h⟩⟩
 exact h.elim
def iC.gS{m:Mo}(mu:abf){ops:aaW}{n:Nat}{Kp:aaP}{R:aaO}:∀{p:ny}{env:Env}{σ:ab},gS L m mu ops n Kp p env σ R->iC P m ops n Kp p env σ R
 |.done,_,_,h=>.done h
 |.take S lt p,_,_,h=>iC.take L mu (jo.mono L (λa h=>iC.gS mu h) (mS L h))
 |.one i p,_,_,h=>iC.one (sY L (iC.gS mu) h)
 |.both i p q,_,_,h=>iC.both (sY L (iC.gS mu) h.1) (iC.gS mu h.2)
def aN.go{m}  mu  {ops n Kp R p env σ}(h:gS L m mu ops n Kp p env σ R):aN P m ops n Kp p env σ R:=iC.gS L mu h
def br(m:Mo)(fid n:Nat)(ro:aaX)(mu:abf)(hold:List Entry):Nat->abb->St->aaN->Prop
 |0,todo,s,K=>aa P m fid n ro hold todo s K
 | f + 1,todo,s,K=>match todo with
   |[]=>K (.leave none) s
   |.code .ret::_=>K (.leave (some .ret)) s
   |.code .skip::k=>br m fid n ro mu hold f k s K
   |.code (.label _)::k=>br m fid n ro mu hold f k s K
   |.inBlock _::k=>br m fid n ro mu hold f k s K
   |.inScope _::k=>br m fid n ro mu hold f k s K
   |.code (.seq a b)::k=>br m fid n ro mu hold f (.code a::.code b::k) s K
   |.code (.block id c)::k=>br m fid n ro mu hold f (.code c::.inBlock id::k) s K
   |.code (.scope c)::k=>br m fid n ro mu hold f (.code c::.inScope c::k) s K
   | .code (.exit id)::k=>match exitTo id k with
     |some g=>br m fid n ro mu hold f g s K
     |none=>K (.leave (some (.exit id))) s
   | .code (.cond c a b)::k=>Operand.ok n c=true/\(match ak s.env c with
     |.lit (.bool x)=>uk x (br m fid n ro mu hold f (.code a::k) s K) (br m fid n ro mu hold f (.code b::k) s K)
     |_=>False)
   |.code (.region _ ops false)::k=>br m fid n ro mu hold f (.inRegion ops (List.range ops.size)::k) s K
   | .code (.region id ops true)::k=>match hold.find? λe=>e.id==id with
     |some ⟨_,p⟩=>gS L m mu ops n (λv σ=>∀env,K (.panic v) {s with env,σ}) p s.env s.σ (λenv σ=>aa P m fid n ro hold k {s with env,σ} K)
     |none=>aa P m fid n ro hold (.code (.region id ops true)::k) s K
   |.inRegion _ []::k=>br m fid n ro mu hold f k s K
   | .inRegion ops (i::is)::k=>match ops[i]? with
     | some o=>Oper.ok n o=true/\
       GB (vV ops n s.env o) (if oR L o=true then qQ (Aj L mu o s.env s.σ) (λa d=>br m fid n ro mu hold f (.inRegion ops is::k) {s with env:=bd s.env o.dst a,σ:=d} K) (λa d=>K (.panic a) {s with σ:=d})
        else if uo o.op=true then M9 (P:=P) m o s.env s.σ (λa d=>aa P m fid n ro hold (.inRegion ops is::k) {s with env:=bd s.env o.dst a,σ:=d} K) (λa d=>∀env,K (.panic a) {s with env,σ:=d})
        else aa P m fid n ro hold (.inRegion ops (i::is)::k) s K) (br m fid n ro mu hold f (.inRegion ops is::k) {s with env:=bd s.env o.dst (.lit (.tuple #[]))} K)
     |none=>aa P m fid n ro hold (.inRegion ops (i::is)::k) s K
   |todo=>aa P m fid n ro hold todo s K
def Go.br{m:Mo}{fid n:Nat}{ro:aaX}(mu:abf)(hold:List Entry):∀(f:Nat){todo:abb}{s:St}{K:aaN},js hold todo=true->br L m fid n ro mu hold f todo s K->Go P m fid n ro todo s K
 |0,_,_,_,g,h=>h g
 | f + 1,todo,s,K,g,h=>by
   unfold cr.br at h;split at h
   . exact .leave (.inl ⟨rfl,rfl⟩) h
   . exact .leave (.inr (.inl ⟨_,rfl,rfl⟩)) h
   . exact .skip (Go.br mu hold f (by simpa[js,kB]using g) h)
   . exact .label (Go.br mu hold f (by simpa[js,kB]using g) h)
   . exact .inBlock (Go.br mu hold f (by simpa[js,kB]using g) h)
   . exact .inScope (Go.br mu hold f (by simpa[js,kB]using g) h)
   . exact .seq (Go.br mu hold f (by simpa[js,kB,and_assoc]using g) h)
   . exact .block (Go.br mu hold f (by simpa[js,kB]using g) h)
   . exact .scope (Go.br mu hold f (by simpa[js,kB]using g) h)
   . split at h
     . next S A=>exact .exit A (Go.br mu hold f (I6 A (by simp only[js,Zl,za]at g ⊢;exact g.2)) h)
     next A=>exact .leave (.inr (.inr ⟨_,_,rfl,A,rfl⟩)) h
   . next c a b k=>
     obtain⟨B,u⟩:=h;split at u
     . next x C=>
       refine .cond C B ?_;cases x
       . exact Go.br mu hold f (by simp only[js,Zl,za,kB]at g ⊢;simp_all) (u.2 rfl)
       exact Go.br mu hold f (by simp only[js,Zl,za,kB]at g ⊢;simp_all) (u.1 rfl)
     simp_all
   . exact .region (Go.br mu hold f (by simpa[js,kB]using g) h)
   . next id ops k=>
     split at h
     . next E p N=>
       have F:rI ops ⟨E,p⟩=true:=by simp only[js,Zl,kB,N,za]at g;exact g.1
       simp only[rI,za]at F;obtain⟨env,σ,D,rc⟩:=s;refine Go.draw L.mixed F.1 λl B u O=>?_
       exact cO.mono (λenv σ h=>h (by simp only[js,Zl,za]at g ⊢;exact g.2)) _ _ _ (iC.gS L mu h _ _ _ F.2 l B u O (λ_ _ _ h=>by cases h))
     exact h g
   . exact .yD (Go.br mu hold f (by simpa[js,kB]using g) h)
   . next ops i is k=>
     split at h
     . next o G=>
       obtain⟨w,h⟩:=h;have q:js hold (.inRegion ops is::k)=true:=by simpa[js,kB]using g
       rcases yJ h with⟨M,t⟩|⟨j,b,x,d,T,t,Q,hd,H,C,I,h⟩
       . split at t
         . next y=>
           refine .op G M w (λc e=>?_) ?_
           . unfold oR rC at y;simp_all
           exact(vU L y t).mono λa r J=>Go.br mu hold f q J
         split at t
         . next R=>
           have z:cO P m ops n (λa r=>∀env,K (.panic a) {s with env,σ:=r}) [i] s.env s.σ (λenv r=>Go P m fid n ro (.inRegion ops is::k) {s with env,σ:=r} K):=⟨o,G,w,.inl ⟨M,(Fu R t).mono λa r J=>J q⟩⟩
           exact Go.RP (λv env σ h=>h env) z
         exact t g
       exact .unwanted G t Q hd H C I (Go.br mu hold f q h)
     exact h g
   exact h g
end

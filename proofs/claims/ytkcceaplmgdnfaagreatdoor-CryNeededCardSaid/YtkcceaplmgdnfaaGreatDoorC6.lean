import Derived.Orders
import Derived.Test.YtkcceaplmgdnfaaGreatDoorC5
set_option linter.all false
namespace Go.bQ
open Go.Conc
def aI.congr{P:acD}{o:Oper}{env a:Env}{σ:aa}{K Kp:abU}(h:aI P o env σ K Kp)(d:∀x∈o.op.operands,an a x=an env x):aI P o a σ K Kp:=λk O b e c=>h k O b (λx f=>by grind) c
def Oc(P:acD)(m:Mo)(o:Oper)(env:Env)(σ:aa)(R:abU)(Kp:abU):Prop:=
 (∃fo args d,o.op=.call ⟨.value fo,args,d⟩/\bZ P m (an env fo) (args.toList.map (an env)) σ (λr b=>match r with|.val a=>R a b|.panic v=>Kp v b))\/
 ((∀c,o.op≠.defer c)/\aI P o env σ R Kp)
def Oc.mono{P:acD}{m:Mo}{o:Oper}{env:Env}{σ:aa}{R e Kp:abU}(h:Oc P m o env σ R Kp)(f:∀a σ,R a σ->e a σ):Oc P m o env σ e Kp:=by
 rcases h with⟨fo,args,b,c,d⟩|⟨c,d⟩
 . refine .inl ⟨fo,args,b,c,d.mono λr g i=>?_⟩
   grind
 . exact .inr ⟨c,d.mono f⟩
def Oc.congr{P:acD}{m:Mo}{o:Oper}{env a:Env}{σ:aa}{R Kp:abU}(h:Oc P m o env σ R Kp)(b:∀x∈o.op.operands,an a x=an env x):Oc P m o a σ R Kp:=by
 rcases h with⟨fo,args,c,d,e⟩|⟨d,e⟩
 . refine .inl ⟨fo,args,c,d,?_⟩
   have f:an a fo=an env fo:=b fo (by simp_all);have g:args.toList.map (an a)=args.toList.map (an env):=aba λx i=>b x (by simp_all)
   grind
 . exact .inr ⟨d,e.congr b⟩
def lz(ops:acd)(n:Nat)(env:Env)(o:Oper):Prop:=∃j b x d a,o.guard=some (j,b)/\ops[j]?=some a/\a.dst=some d/\d<n/\env d=.lit x/\SH x b
def cV(P:acD)(m:Mo)(ops:acd)(n:Nat)(Kp:abU):acr->Env->aa->abP->Prop
 |[],env,σ,R=>R env σ
 | i::l,env,σ,R=>∃o,ops[i]?=some o/\Oper.ok n o=true/\
   ((bW ops n env o/\Oc P m o env σ (λa b=>cV P m ops n Kp l (bc env o.dst a) b R) Kp)\/(lz ops n env o/\cV P m ops n Kp l (bc env o.dst (.lit (.tuple #[]))) σ R))
section
variable{P:acD}{m:Mo}{fid n:Nat}{ro:acf}{D:acz}{rc:Rec}{K:abK}{k:acm}{ops:acd}
def Go.sd{Kp:abU}:∀(l:acr) (env:Env) (σ:aa),(∀v env σ,Kp v σ->K (.panic v) ⟨env,σ,D,rc⟩) ->
 cV P m ops n Kp l env σ (λenv σ=>Go P m fid n ro k ⟨env,σ,D,rc⟩ K)->Go P m fid n ro (.inRegion ops l::k) ⟨env,σ,D,rc⟩ K
 |[],env,σ,_,h=>.zv h
 | i :: l,env,σ,p,⟨o,q,f,h⟩=>by
   rcases h with⟨B,h⟩|⟨⟨j,b,x,d,R,C,E,hd,s,F,t⟩,h⟩
   . rcases h with⟨fo,args,G,u,w⟩|⟨u,w⟩
     . refine .call q u B f (w.mono λr c H=>?_)
       cases r with
       |val a=>exact Go.sd l _ c p H
       |panic v=>simp_all
     . refine .op q B f u ?_
       intro I O J A L;refine jd _ (w I O J A L) (λ_ _ _ ⟨v,M,N,Q,g,e,a,c,x,y,z⟩=>⟨v,M,N,Q,g,e,a,c,x,y,Go.sd l _ c p z⟩) (λ_ _ _ ⟨e,a,c,x,y,z⟩=>⟨e,a,c,x,y,p _ _ _ z⟩)
   . exact .unwanted q C E hd s F t (Go.sd l _ σ p h)
def EF(P:acD)(o:Oper)(env:Env)(a:AV):Prop:=∀σ,aI P o env σ (λc b=>c=a/\b=σ) (λ_ _=>False)
def se(P:acD)(o:Oper)(env:Env)(σ:aa)(a:AV):Prop:=aI P o env σ (λc b=>c=a/\b=σ) (λ_ _=>False)
def jg(ops:acd)(j i:Nat):Bool:=match ops[i]? with|some o=>o.after.toList.any λe=>Region.binds .any e && e.on==j|none=>false
def dG(ops:acd)(o:Oper):acr:=(o.op.operands.toList.filterMap fun|.tmp t=>some t|_=>none)++(match o.guard with|some (j,_)=>(match (ops[j]?).bind (·.dst)with|some d=>[d]|none=>[])|none=>[])
def kW(ops:acd)(rest S:acr):Bool:=
 rest.all fun i=>match ops[i]? with
  |none=>false
  | some o=>
    rest.all λj=>match ops[j]? with
     |none=>false
     | some a=>match a.dst with
       |none=>true
       | some d=>
         (if (dG ops o).contains d then
           (if S.contains i then(if S.contains j then jg ops j i && Nat.blt j i else jg ops i j)
            else(if S.contains j then jg ops j i else true))else true) &&
         (if S.contains i && i !=j && o.dst==some d then false else true)
def qk(ops:acd):Bool:=(List.range ops.size).all λi=>match ops[i]? with|none=>false|some o=>o.after.toList.all λe=>!Region.binds .any e||Nat.blt e.on i
def wM{ops:acd}(h:qk ops=true):∀i o,ops[i]?=some o->∀e∈o.after,Region.binds .any e=true->e.on<i:=by
 intro i o b e d hb;have a:i<ops.size:=(Array.getElem?_eq_some_iff.1 b).1;have c:=List.all_eq_true.1 h i (List.mem_range.2 a);simp only[b]at c;have f:=List.all_eq_true.1 c e (by simp_all)
 simp_all
def jh(ops:acd):acr->acr->Prop
 |_,[]=>True
 |done,i::l=>(∀j,jg ops j i=true->j∈done)/\i∉done/\jh ops (i::done) l
def pw{env a:Env}{x:acE}(h:∀t,x=.tmp t->a t=env t):an a x=an env x:=by cases x<;>first|rfl|exact h _ rfl
def mem_reads{o:Oper}{t:Nat}(h:Operand.tmp t∈o.op.operands):t∈dG ops o:=by unfold dG;refine List.mem_append.2 (.inl (List.mem_filterMap.2 ⟨.tmp t,by grind,rfl⟩))
def zz{o a:Oper}{j:Nat}{b:Bool}{d:Nat}(c:o.guard=some (j,b))(hj:ops[j]?=some a)(hd:a.dst=some d):d∈dG ops o:=by
 unfold dG
 simp_all
def bW.congr{env a:Env}{o:Oper}(h:bW ops n env o)(g:∀t∈dG ops o,a t=env t):bW ops n a o:=by
 unfold bW at h ⊢;cases c:o.guard with
 |none=>trivial
 |some p=>obtain⟨j,b⟩:=p;simp only[c]at h ⊢;obtain⟨i,d,e,f,k,l⟩:=h;exact⟨i,d,e,f,k,by rw[g d (zz c e f)];exact l⟩
def lz.congr{env a:Env}{o:Oper}(h:lz ops n env o)(i:∀t∈dG ops o,a t=env t):lz ops n a o:=by obtain⟨j,b,x,d,k,f,g,hd,c,l,e⟩:=h;exact⟨j,b,x,d,k,f,g,hd,c,by rw[i d (zz f g hd)];exact l,e⟩
def jX(env:Env)(dst:ach)(a:AV)(t:Nat):bc env dst a t=if dst=some t then a else env t:=by
 cases dst with
 |none=>simp[bc]
 | some d=>
   by_cases h:t=d
   . simp_all
   . simp[bc,Env.upd,h,za h]
def late(ops:acd)(rest S:acr)(i:Nat):Bool:=rest.all λj=>S.contains j||jg ops i j
def AS(P:acD)(ops:acd)(n:Nat)(rest S:acr)(a:Env)(σ:aa)(i:Nat):Prop:=∃o,ops[i]?=some o/\Oper.ok n o=true/\((bW ops n a o/\∃d,o.dst=some d/\(∀c,o.op≠.defer c)/\(EF P o a (a d)\/(late ops rest S i=true/\se P o a σ (a d))))\/(lz ops n a o/\∃d,o.dst=some d/\a d=.lit (.tuple #[])))
def jP{rest S:acr}(a:kW ops rest S=true){i j:Nat}{o f:Oper}{d:Nat}(b:i∈rest)(c:j∈rest)(hi:ops[i]?=some o)(hj:ops[j]?=some f)(hd:f.dst=some d):
 (d∈dG ops o->(i∈S->(j∈S->jg ops j i=true/\j<i)/\(j∉S->jg ops i j=true))/\(i∉S->j∈S->jg ops j i=true))/\(i∈S->i≠j->o.dst≠some d):=by
 unfold kW at a;rw[ZP]at a;have g:=a i b;simp only[hi]at g;have h:=List.all_eq_true.1 g j c;simp only[hj,hd,zj]at h;obtain⟨l,n⟩:=h;refine⟨λp=>?_,λk m q=>?_⟩
 . have e:(dG ops o).contains d=true:=by grind
   rw[if_pos e]at l;refine⟨λk=>⟨λhj=>?_,λhj=>?_⟩,λk hj=>?_⟩
   . simp_all
   . simp_all
   simp_all
 simp_all
def hoist{rest S:acr}{Kp:abU}{R:abP}(K:kW ops rest S=true):
 ∀ (l done:acr) (env b:Env) (σ:aa),(∀i∈l,i∈rest)->jh ops done l->(∀i∈l,i∉done)->l.Nodup->(∀i∈l,∃o,ops[i]?=some o) ->
   (∀i∈l,i∈S->AS P ops n rest S b σ i)->(∀t,(∀i∈l,i∈S->∀o,ops[i]?=some o->o.dst≠some t)->b t=env t) ->
   cV P m ops n Kp (l.filter λi=>!S.contains i) b σ R->cV P m ops n Kp l env σ R
 | [],done,env,b,σ,_,_,_,_,_,_,T,h=>by
   have:b=env:=funext λt=>T t (λi hi=>by simp at hi)
   simp_all
 | i :: l, done,env,b,σ,c,ha,a8,q,r,U,T,h=>by
   obtain⟨a1,a2,a3⟩:=ha;obtain⟨o,E⟩:=r i (by simp);have V:i∉l:=(List.nodup_cons.1 q).1
   have s:∀t∈dG ops o,b t=env t:=λt u=>T t λj f L Q w hd=>by
    obtain⟨c1,_⟩:=jP K (c i (by simp)) (c j (by simp[f])) E w hd
    grind
   have F:∀x∈o.op.operands,an env x=an b x:=λx hx=>pw λt e=>(s t (mem_reads (by grind))).symm
   have G:∀j∈l,j∉i::done:=λj f hm=>by grind
   by_cases H:i∈S
   . have W:(i::l).filter (λi=>!S.contains i)=l.filter λi=>!S.contains i:=by simp[H]
     rw[W]at h;obtain⟨o',A,B,C⟩:=U i (by simp) H;rw[E]at A;cases A
     have next:∀a d,o.dst=some d->b d=a->cV P m ops n Kp l (bc env o.dst a) σ R:=λa d hd a9=>
      hoist K l (i::done) (bc env o.dst a) b σ (λj f=>c j (by simp[f])) a3 G (List.nodup_cons.1 q).2 (λj f=>r j (by simp[f])) (λj f=>U j (by simp[f])) (λt u=>by
       rw[jX,hd]
       grind) h
     rcases C with⟨C,d,hd,I,D⟩|⟨C,d,hd,f⟩
     . refine⟨o,E,B,.inl ⟨C.congr λt u=>(s t u).symm,.inr ⟨I,?_⟩⟩⟩
       have:=(show se P o b σ (b d)from D.elim (λh=>h σ) (λh=>h.2)).congr F;intro kk O ρ X hr;refine jd _ (this kk O ρ X hr) (λ_ _ _ ⟨v,hv,k2,O2,g,Y,a,k,x,y,e1,e2⟩=>⟨v,hv,k2,O2,g,Y,a,k,x,y,?_⟩) (λ_ _ _ ⟨_,_,_,_,_,z⟩=>z.elim)
       grind
     . exact⟨o,E,B,.inr ⟨C.congr λt u=>(s t u).symm,next _ d hd f⟩⟩
   . have W : (i::l).filter (λi=>!S.contains i)=i::l.filter λi=>!S.contains i:=by simp[H]
     rw[W]at h;obtain⟨o',A,B,C⟩:=h;rw[E]at A;cases A
     have next:∀a k,cV P m ops n Kp (l.filter λi=>!S.contains i) (bc b o.dst a) k R->cV P m ops n Kp l (bc env o.dst a) k R:=λa k h'=>
      hoist K l (i::done) (bc env o.dst a) (bc b o.dst a) k (λj f=>c j (by simp[f])) a3 G (List.nodup_cons.1 q).2 (λj f=>r j (by simp[f]))
       (fun j f L=>by
         obtain⟨Q,w,M,Z⟩:=U j (by simp[f]) L;have ad:j≠i:=λe=>V (e ▸ f)
         have p:∀t∈dG ops Q,bc b o.dst a t=b t:=λt u=>by
          rw[jX];by_cases hd:o.dst=some t
          . obtain⟨c1,_⟩:=jP K (c j (by simp[f])) (c i (by simp)) w E hd
            grind
          grind
         have N:∀d,Q.dst=some d->bc b o.dst a d=b d:=λd hd=>by
          rw[jX];by_cases a7:o.dst=some d
          . obtain⟨_,c2⟩:=jP K (c j (by simp[f])) (c i (by simp)) w E a7
            grind
          grind
         refine⟨Q,w,M,?_⟩;rcases Z with⟨J,d,hd,I,D⟩|⟨J,d,hd,al⟩
         . refine .inl ⟨J.congr p,d,hd,I,.inl λσ=>?_⟩
           rw[N d hd];rcases D with D|⟨hl,_⟩
           . exact(D σ).congr λx hx=>pw λt e=>p t (mem_reads (by grind))
           . have:=List.all_eq_true.1 hl i (c i (by simp))
             grind
         . exact .inr ⟨J.congr p,d,hd,by grind⟩)
       (fun t u=>by
         rw[jX,jX]
         grind) h'
     rcases C with⟨C,h⟩|⟨C,h⟩
     . exact⟨o,E,B,.inl ⟨C.congr λt u=>(s t u).symm,(h.congr F).mono λa k=>next a k⟩⟩
     . exact⟨o,E,B,.inr ⟨C.congr λt u=>(s t u).symm,next _ σ h⟩⟩
def jh.sub(p:Nat->Bool):∀(l done a:acr),jh ops done l->(∀i∈done,i∈a)->(∀i∈l,p i=false->i∈a)->(∀i∈l,p i=true->i∉a)->l.Nodup->jh ops a (l.filter p)
 |[],_,_,_,_,_,_,_=>trivial
 | i :: l,done,a,⟨h,o,f⟩,k,m,g,d=>by
   have n:i∉l:=(List.nodup_cons.1 d).1;by_cases e:p i=true
   . rw [List.filter_cons_of_pos e]
     refine⟨λj c=>k j (h j c),g i (by simp) e,?_⟩
     exact jh.sub p l (i::done) (i::a) f (λj c=>by
      grind) (λj c b=>by simp_all) (λj c b q=>by
      simp_all) (List.nodup_cons.1 d).2
   . rw[List.filter_cons_of_neg e]
     exact jh.sub p l (i::done) a f (λj c=>by grind) (λj c b=>m j (by simp[c]) b) (λj c b=>g j (by simp[c]) b) (List.nodup_cons.1 d).2
def AT(g:∀i o,ops[i]?=some o->∀e∈o.after,Region.binds .any e=true->e.on<i):∀(fuel t:Nat) (listed:Array Bool) (done:acr),listed.size=ops.size->(∀i,i<ops.size->(listed.getD i true=true↔i∈done)) ->
 ((List.range ops.size).filter λi=>!listed.getD i true).length<=fuel ->
 jh ops done (Region.linearise.go .any ops fuel t listed [])/\(Region.linearise.go .any ops fuel t listed []).Nodup/\(∀i∈Region.linearise.go .any ops fuel t listed [],i∉done/\i<ops.size)/\∀i,i<ops.size->(i∈Region.linearise.go .any ops fuel t listed []\/i∈done):=by
 intro fuel;induction fuel with
 | zero=>
   intro t listed done k hd y;have l:(List.range ops.size).filter (λi=>!listed.getD i true)=[]:=List.eq_nil_of_length_eq_zero (by omega);unfold Region.linearise.go;refine⟨trivial,abg,λi a=>(by cases a),λi a=>.inr ((hd i a).1 ?_)⟩;have:=List.filter_eq_nil_iff.1 l i (List.mem_range.2 a)
   simp_all
 | succ fuel z=>
   intro t listed done k hd y;unfold Region.linearise.go;simp only[];generalize p:(List.range ops.size).filter (λi=>!listed.getD i true && ((ops[i]?).map (·.after.all λe=>!Region.binds .any e||listed.getD e.on false)).getD false)=rs
   have d:∀i,i∈rs↔i<ops.size/\listed.getD i true=false/\∃o,ops[i]?=some o/\∀e∈o.after,Region.binds .any e=true->listed.getD e.on false=true:=by
    intro i;rw[<-p,aaX,abf];refine and_congr_right λa=>?_
    rw[zj,aaN];refine and_congr_right λ_=>?_
    have q:ops[i]?=some ops[i]:=ZJ a;rw[q];simp only[ZR,aaf,ZH,aaY,aaN,kn,exists_eq_left']
    grind
   have A:∀j,j<ops.size->listed.getD j false=listed.getD j true:=λj c=>by grind
   cases a:rs[t % rs.length]? with
   | none=>
     simp only[]
     have w:rs=[]:=by
      cases rs with
      |nil=>rfl
      | cons x xs=>
        have B:=List.getElem?_eq_none_iff.1 a;have K:t % (x::xs).length<(x::xs).length:=Nat.mod_lt _ (by simp);omega
     refine⟨trivial,abg,λi a=>(by cases a),?_⟩;intro i;induction i using Nat.strongRecOn with
     | ind i C=>
       intro a;refine .inr ((hd i a).1 ?_);cases D:listed.getD i true with
       |true=>rfl
       | false=>
         have:i∈rs:=(d i).2 ⟨a,D,ops[i],ZJ a,λe l hb=>by
          have E:=g i ops[i] (ZJ a) e l hb
          grind⟩
         grind
   | some i=>
     simp only[];rw[linearise_go_acc,List.reverse_singleton,abw];have r:=List.mem_of_getElem? a;obtain⟨s,F,o,q,m⟩:=(d i).1 r;have n:i∉done:=λh=>by grind
     have f:∀j,j<ops.size->((listed.setIfInBounds i true).getD j true=if j=i then true else listed.getD j true):=λj c=>by
      by_cases b:j=i
      . subst b;rw[if_pos rfl];simp[k,c]
      . rw[if_neg b];exact getD_set_ne true (za b)
     obtain⟨G,H,u,I⟩:=z (t / rs.length) (listed.setIfInBounds i true) (i::done) (by grind) (λj c=>by
      rw[f j c];by_cases b:j=i
      . simp[b]
      grind) (by
      have J:(List.range ops.size).filter (λj=>!(listed.setIfInBounds i true).getD j true)=((List.range ops.size).filter (λj=>!listed.getD j true)).filter (· !=i):=by
       rw[List.filter_filter];refine aaA λj c=>?_
       rw[f j (List.mem_range.1 c)];by_cases b:j=i<;>simp[b]
      rw[J];have:(((List.range ops.size).filter (λj=>!listed.getD j true)).filter (· !=i)).length<((List.range ops.size).filter (λj=>!listed.getD j true)).length:=List.length_filter_lt_length_iff_exists.2 ⟨i,List.mem_filter.2 ⟨List.mem_range.2 s,by grind⟩,by simp⟩;omega)
     refine⟨⟨λj c=>?_,n,G⟩,List.nodup_cons.2 ⟨λh=>(u i h).1 (by simp),H⟩,λj c=>?_,λj c=>?_⟩
     . unfold jg at c
       rw[q]at c;obtain⟨e,l,hb⟩:=List.any_eq_true.1 c;simp only[zj,beq_iff_eq]at hb;have v:e∈o.after:=by simpa using l
       have B:=m e v hb.1
       grind
     . rcases List.mem_cons.1 c with e|e
       . grind
       . exact⟨λh=>(u j e).1 (by simp[h]),(u j e).2⟩
     . rcases I j c with h|h
       . exact .inl (by simp[h])
       . rcases List.mem_cons.1 h with e|e
         . exact .inl (by simp[e])
         grind
def AU(a:∀i o,ops[i]?=some o->∀e∈o.after,Region.binds .any e=true->e.on<i)(t:Nat):
 jh ops [] (Region.linearise .any ops t)/\(Region.linearise .any ops t).Nodup/\(∀i,i∈Region.linearise .any ops t↔i<ops.size):=by
 obtain⟨b,c,d,f⟩:=AT a ops.size t (Array.replicate ops.size false) [] (by simp) (λi g=>by simp[g]) (by grind);refine⟨b,c,λi=>⟨λh=>(d i h).2,λh=>?_⟩⟩;rcases f i h with h|h
 . exact h
 . cases h
end
section
variable{P:acD}{m:Mo}{fid n:Nat}{ro:acf}{D:acz}{rc:Rec}{K:abK}{k:acm}{ops:acd}{Kp:abU}
def Any(P:acD)(m:Mo)(ops:acd)(n:Nat)(Kp:abU)(done rest:acr)(env:Env)(σ:aa)(R:abP):Prop:=∀l,jh ops done l->l.Nodup->(∀i,i∈l↔i∈rest)->cV P m ops n Kp l env σ R
def Go.draw{id:Nat}(j:P.follows .mixedOrders=true)(l:qk ops=true){env:Env}{σ:aa}
 (h:Any P m ops n (λv σ=>∀env,K (.panic v) ⟨env,σ,D,rc⟩) [] (List.range ops.size) env σ (λenv σ=>Go P m fid n ro k ⟨env,σ,D,rc⟩ K)):Go P m fid n ro (.code (.region id ops true)::k) ⟨env,σ,D,rc⟩ K:=by
 intro Q d O tmps defs kind cs o p q;refine .step (λr s g=>r=d/\s=O/\∃t,g=G ⟨fid,tmps,.inRegion ops (Region.linearise .any ops t)::k,defs,.run,kind,ro⟩ (fP rc cs)) rfl ?_ ?_
 . rintro _ _ _ ⟨rfl,rfl,t,rfl⟩
   obtain⟨u,y,A⟩:=AU (wM l) t;have:=h _ u y (λi=>by grind);exact Go.sd (D:=D) (rc:=rc) _ env σ (λv env σ z=>z env) this _ _ _ tmps defs kind cs o p q
 . intro w a
   refine⟨G ⟨fid,tmps,.inRegion ops (Region.linearise .any ops (w.tape w.drawn (.order fid id)))::k,defs,.run,kind,ro⟩ (fP rc cs),{w with drawn:=w.drawn+1},#[],d,O,?_,?_,?_,rfl,rfl,_,rfl⟩
   . simp[G,stepG,stepG.exec,choose,Sem.run,Question.forced,Question.cut,Region.schedule,j]
   . exact{le:=.refl _,size:=ZF _,keep:=λ_ _ _=>rfl,tail:=λb n _ _ c e h=>⟨c,h,rfl,λ_ _=>rfl⟩,part:=λb n _ _ c e h=>⟨c,h,rfl,λ_ _=>rfl⟩,shape:=λ_ _=>rfl,own:=λb x h=>.inl ⟨x,h,.refl x⟩,cell:=λ_ _ _ h=>.inl h,sh:=λ_ _ h=>.inl h,evs:=λe h=>by simp at h,tape:=rfl,output:=rfl,os:=rfl,low:=λe h=>by simp at h,tok:=λ_ f h=>⟨f,h⟩}
   . exact⟨a.apart,a.cell,a.sh,a.obj,a.tail,a.part⟩
def ji(P:acD)(m:Mo)(ops:acd)(n:Nat)(Kp:abU)(i:Nat)(env:Env)(σ:aa)(R:abP):Prop:=
 ∃ o,ops[i]?=some o/\Oper.ok n o=true/\
   ((bW ops n env o/\Oc P m o env σ (λa b=>R (bc env o.dst a) b) Kp)\/(lz ops n env o/\R (bc env o.dst (.lit (.tuple #[]))) σ))
section
variable(L:iZ P)
instance(n:Int):Decidable (fits n):=by unfold fits;infer_instance
def wO(op:BinOp)(kd:IntKind)(a b:Int):abV:=
 match op,kd with
 |.add,.i64=>if fits (a+b)then some (.int .i64 (a+b))else none
 |.sub,.i64=>if fits (a-b)then some (.int .i64 (a-b))else none
 |.mul,.i64=>if fits (a*b)then some (.int .i64 (a*b))else none
 |.eql,_=>some (.bool (a==b))
 |.neq,_=>some (.bool (a !=b))
 |.lss,_=>some (.bool (decide (a<b)))
 |.leq,_=>some (.bool (decide (a<=b)))
 |.gtr,_=>some (.bool (decide (a>b)))
 |.geq,_=>some (.bool (decide (a>=b)))
 |.shl,_=>if 0<=b then some (.int kd (kd.wrap (a*2 ^ (min b.toNat kd.bits))))else none
 |.shr,_=>if 0<=b then some (.int kd (a.fdiv (2 ^ (min b.toNat kd.bits))))else none
 |op,kd=>pf op kd a b
def AW{op:BinOp}{kd:IntKind}{a b:Int}{v:Value}{R:Value->Prop}(h:wO op kd a b=some v)(c:R v):rB op kd a b R:=by
 unfold wO at h;unfold rB;split at h
 . grind
 . grind
 . grind
 . simp_all
 . simp_all
 . simp_all
 . simp_all
 . simp_all
 . simp_all
 . simp_all
 . simp_all
 simp_all
def vz(mu:acr)(o:Oper)(env:Env):acn:=
 match o.op with
 |.move x|.assign x=>some (an env x)
 | .pick c a b=>match an env c with
   |.lit (.bool x)=>some (if x then an env a else an env b)
   |_=>none
 |.box _ x=>if(match o.dst with|some d=>mu.contains d|none=>false)=true then none else if(an env x).cells.all AV.flat=true then some (.cp (an env x) 0)else none
 | .load t p=>match L.tt t,an env p with
   |some i,.cp v off=>cN v.cells off i.size i.agg
   |some i,.kp _ l hole off=>Oa l hole off i.size i.agg
   |_,_=>none
 | .fieldAddr s x j=>match L.tt s with
   | some ⟨.struct,_,_,_,jO⟩=>(match jO[j]? with
     |some f=>if f.2.1≠0 then rX (an env x) f.1 else none
     |none=>none)
   |_=>none
 | .field s x j=>match L.tt s,an env x with
   | some ⟨.struct,_,_,_,jO⟩,.agg l=>(match jO[j]? with
     |some f=>(match L.tt f.2.2 with|some n=>cN l f.1 n.size n.agg|none=>none)
     |none=>none)
   |_,_=>none
 | .indexAddr t x h=>match L.tt t with
   | some ⟨.slice e,_,_,_,_⟩=>(match L.tt e,an env x,an env h with
     |some g,.sl q es _,.lit (.int _ z)=>if q=g.size/\0<=z then(es[z.toNat]?).map (λa=>.cp a 0)else none
     |some g,.gW b off len _,.lit (.int _ z)=>if 0<=z/\z<len then some (.ref b (off+z.toNat*g.size))else none
     |_,_,_=>none)
   | some ⟨.array k e,_,_,_,_⟩=>(match L.tt e,an env h with
     |some g,.lit (.int _ z)=>if 0<=z/\z<k then rX (an env x) (z.toNat*g.size)else none
     |_,_=>none)
   |_=>none
 | .index t x h=>match L.tt t with
   | some ⟨.array k e,_,_,_,_⟩=>(match L.tt e,an env x,an env h with
     |some g,.agg l,.lit (.int _ z)=>if 0<=z/\z<k then cN l (z.toNat*g.size) g.size g.agg else none
     |_,_,_=>none)
   |_=>none
 | .binOp op t x y _=>match L.tt t with
   | some ⟨.int _,_,_,_,_⟩=>(match an env x,an env y with
     |.lit (.int kd a),.lit (.int m b)=>if kd=m\/op=.shl\/op=.shr then(wO op kd a b).map .lit else none
     |_,_=>none)
   |_=>none
 | .unOp .not _ x=>match an env x with
   |.lit (.bool b)=>some (.lit (.bool !b))
   |_=>none
 | .convert s t x=>match L.tt s,L.tt t,an env x with
   |some ⟨.int _,_,_,_,_⟩,some ⟨.int kd,_,_,_,_⟩,.lit (.int _ a)=>some (.lit (.int kd (kd.wrap a)))
   |_,_,_=>none
 | .makeInterface t x=>match L.tt t with
   |some i=>if i.kind≠.iface then some (.lZ t (an env x))else none
   |none=>none
 |.makeFunc f fs cs=>some (.fn f (fs.toList.map (an env)) (cs.toList.map (an env)))
 | .extract x j=>match an env x with
   |.cB l=>l[j]?
   |_=>none
 | .nilCheck x=>match an env x with
   |.cp v off=>some (.cp v off)
   |.ref b off=>some (.ref b off)
   |.kp b l hole off=>some (.kp b l hole off)
   |_=>none
 | .call c=>match c.callee,c.args.toList with
   | .builtin .len,[x]=>(match c.argTypes[0]? with
     | some t=>(match L.tt t with
       | some ⟨.slice _,_,_,_,_⟩=>(match an env x with
         |.sl _ es _=>some (.lit (.int .i64 es.length))
         |.lit (.slice none 0 0)=>some (.lit (.int .i64 0))
         |.gW _ _ len _=>some (.lit (.int .i64 len))
         |_=>none)
       |_=>none)
     |none=>none)
   |_,_=>none
 |_=>none
def wP{mu:acr}{o:Oper}{env:Env}{a:AV}(h:vz L mu o env=some a):(∀c,o.op≠.defer c)/\EF P o env a:=by
 have key:sa L o=true/\∀(K:abU) σ,K a σ->SI L mu o env σ K (λ_ _=>False):=by
  unfold vz at h;unfold sa SI;split at h
  . simp_all
  . simp_all
  . next c x y b=>
    simp only[b]
    grind
  . next t x b=>
    simp only[b]
    grind
  . next t p b=>
    simp only[b];split at h
    . simp_all
    . simp_all
    . cases h
  . next s x j b=>
    simp only[b]
    grind
  . next s x j b=>
    simp only[b]
    grind
  . next t x n b=>
    simp only[b];split at h
    . next e g i l m d=>
      simp only[d]
      grind
    . next k e g i l m d=>
      simp only[d]
      grind
    . cases h
  . next t x n b=>
    simp only[b];split at h
    . grind
    . cases h
  . next op t x y E b=>
    simp only[b];split at h
    . next F g i l m d=>
      simp only[d];split at h
      . next kd u q v r w=>
        simp only[r,w];split at h
        . next z=>obtain⟨y,A,G⟩:=Option.map_eq_some_iff.1 h;refine⟨by simp_all,λK σ H=>⟨z,AW A (by simp_all)⟩⟩
        . cases h
      . cases h
    . cases h
  . next t x b=>
    simp only[b]
    grind
  . next s t x b=>
    simp only[b]
    grind
  . next t x b=>
    simp only[b]
    grind
  . simp_all
  . next x j b=>
    simp only[b]
    grind
  . next x b=>
    simp only[b]
    grind
  . next c b=>
    simp only[b];split at h
    . next x B C=>
      simp only[B,C]
      grind
    . cases h
  . cases h
 refine⟨λc e=>?_,λσ=>Hz L key.1 (key.2 (λD f=>D=a/\f=σ) σ ⟨rfl,rfl⟩)⟩
 simp_all
def wQ(o:Oper)(env:Env)(σ:aa):acn:=
 match o.op with
 | .load t p=>match L.tt t with
   |some i=>qQ i σ (an env p)
   |none=>none
 |_=>none
def uS{o:Oper}{env:Env}{σ:aa}{a:AV}(h:wQ L o env σ=some a):(∀c,o.op≠.defer c)/\se P o env σ a:=by
 unfold wQ at h;split at h
 . next t p b=>
   split at h
   . next i d=>exact⟨λc e=>(by simp_all),AQ L b d h ⟨rfl,rfl⟩⟩
   . cases h
 . cases h
def jC(mu:acr)(ops:acd)(n:Nat)(lt:Bool)(σ:aa):acr->Env->(Env->Prop)->Prop
 |[],env,K=>K env
 | i :: S,env,K=>match ops[i]? with
   | some o=>Oper.ok n o=true/\o.dst.isSome=true/\rC ops n env o (match vz L mu o env with
      |some a=>jC mu ops n lt σ S (bc env o.dst a) K
      | none=>lt=true/\(match wQ L o env σ with
        |some a=>jC mu ops n lt σ S (bc env o.dst a) K
        |none=>False)) (jC mu ops n lt σ S (bc env o.dst (.lit (.tuple #[]))) K)
   |none=>False
def ascending:acr->Bool
 |i::j::l=>Nat.blt i j && ascending (j::l)
 |_=>true
def px{i:Nat}:∀{l:acr},ascending (i::l)=true->ascending l=true/\∀j∈l,i<j
 |[],_=>⟨rfl,λ_ h=>by cases h⟩
 | a::l,h=>by
   simp only[ascending,zj,Nat.blt_eq]at h;obtain⟨c,b⟩:=h;have d:=px b
   grind
def wR{mu rest:acr}{σ:aa}{lt:Bool}(m:acr)(A:kW ops rest m=true)(l:lt=true->∀i∈m,late ops rest m i=true):∀(S:acr) (env:Env) (K:Env->Prop),ascending S=true->(∀i∈S,i∈m/\i∈rest)->jC L mu ops n lt σ S env K ->
 ∃f,K f/\(∀i∈S,AS P ops n rest m f σ i)/\∀t,(∀i∈S,∀o,ops[i]?=some o->o.dst≠some t)->f t=env t
 |[],env,K,_,_,h=>⟨env,h,λ_ U=>(by cases U),λ_ _=>rfl⟩
 | i :: S, env,K,B,p,h=>by
   obtain⟨B,V⟩:=px B;unfold jC at h;split at h
   . next o w=>
     obtain⟨C,D,h⟩:=h;obtain⟨d,hd⟩:=Option.isSome_iff_exists.1 D
     have main:∀a,jC L mu ops n lt σ S (bc env o.dst a) K->((bW ops n env o/\(∀c,o.op≠.defer c)/\(EF P o env a\/(late ops rest m i=true/\se P o env σ a)))\/(lz ops n env o/\a=.lit (.tuple #[])))->∃f,K f/\(∀j∈i::S,AS P ops n rest m f σ j)/\∀t,(∀j∈i::S,∀o,ops[j]?=some o->o.dst≠some t)->f t=env t:=by
      intro a W q;obtain⟨f,X,h2,E⟩:=wR m A l S _ K B (λj k=>p j (by simp[k])) W
      have g:∀t∈dG ops o,f t=env t:=λt F=>by
       have G:∀j∈S,∀y,ops[j]?=some y->y.dst≠some t:=λj k y s u=>by
        obtain⟨Y,_⟩:=jP A (p i (by simp)).2 (p j (by simp[k])).2 w s u
        grind
       rw[E t G,jX];by_cases H:o.dst=some t
       . obtain⟨Y,_⟩:=jP A (p i (by simp)).2 (p i (by simp)).2 w w H
         grind
       grind
      have r:f d=a:=by
       rw[E d (λj k y s u=>by
        obtain⟨_,c2⟩:=jP A (p i (by simp)).2 (p j (by simp[k])).2 w s u
        grind),jX,if_pos hd]
      refine⟨f,X,λj k=>?_,λt F=>?_⟩
      . rcases List.mem_cons.1 k with rfl|k
        . refine⟨o,w,C,?_⟩
          rcases q with⟨q,I,J⟩|⟨q,rfl⟩
          . refine .inl ⟨q.congr g,d,hd,I,?_⟩
            rw[r];have R:∀σ,aI P o env σ (λM v=>M=a/\v=σ) (λ_ _=>False)->aI P o f σ (λM v=>M=a/\v=σ) (λ_ _=>False):=λσ h=>h.congr λx T=>pw λt e=>g t (mem_reads (by grind))
            exact J.imp (λh σ=>R σ (h σ)) (λh=>⟨h.1,R σ h.2⟩)
          . exact .inr ⟨q.congr g,d,hd,r⟩
        grind
      . rw[E t (λj k=>F j (by simp[k])),jX,if_neg (F i (by simp) o w)]
     rcases sc h with⟨q,h⟩|⟨j,b,x,Z,y,hg,k,N,O,T,Q,h⟩
     . split at h
       . next a z=>exact main a h (.inl ⟨q,(wP L z).1,.inl (wP L z).2⟩)
       . obtain⟨hl,h⟩:=h
         split at h
         . next a z=>exact main a h (.inl ⟨q,(uS L z).1,.inr ⟨l hl i (p i (by simp)).1,(uS L z).2⟩⟩)
         grind
     . exact main (.lit (.tuple #[])) h (.inr ⟨⟨j,b,x,Z,y,hg,k,N,O,T,Q⟩,rfl⟩)
   simp_all
def Any.hoist(mu:acr)(S:acr){done rest:acr}{env:Env}{σ:aa}{R:abP}(hd:∀i∈rest,i∉done)(j:∀i∈S,i∈rest)(p:∀i∈rest,(ops[i]?).isSome=true)(q:ascending S=true)(k:kW ops rest S=true){lt:Bool}(c:lt=true->∀i∈S,late ops rest S i=true)
 (h:jC L mu ops n lt σ S env (λb=>Any P m ops n Kp (S++done) (rest.filter λi=>!S.contains i) b σ R)):Any P m ops n Kp done rest env σ R:=by
 intro l d f e;obtain⟨b,r,s,u⟩:=wR L S k c S env _ q (λi a=>⟨a,j i a⟩) h
 refine bQ.hoist k l done env b σ (λi a=>(e i).1 a) d (λi a=>hd i ((e i).1 a)) f (λi a=>Option.isSome_iff_exists.1 (p i ((e i).1 a))) (λi _ g=>s i g)
  (λt v=>u t λi a o w=>v i ((e i).2 (j i a)) a o w) ?_
 refine r _ (jh.sub (λi=>!S.contains i) l done (S++done) d (λi a=>by simp[a]) (λi _ x=>by simp_all) (λi a x=>?_) f) (f.filter _) (λi=>by simp_all)
 simp_all
def AX(ops:acd)(done rest S:acr):Bool:=(rest.all λi=>!done.contains i && (ops[i]?).isSome) && (S.all λi=>rest.contains i) && ascending S && kW ops rest S
def Any.take(mu:acr)(S:acr){done rest:acr}{env:Env}{σ:aa}{R:abP}(lt:Bool)(d:AX ops done rest S=true)(a:lt=true->(S.all λi=>late ops rest S i)=true)
 (h:jC L mu ops n lt σ S env (λb=>Any P m ops n Kp (S++done) (rest.filter λi=>!S.contains i) b σ R)):Any P m ops n Kp done rest env σ R:=by
 simp only[AX,zj,ZP]at d;obtain⟨⟨⟨f,k⟩,g⟩,j⟩:=d;exact Any.hoist L mu S (λi c=>by simp_all) (λi c=>by simp_all) (λi c=>(f i c).2) g j (λe i c=>List.all_eq_true.1 (a e) i c) h
end
end
attribute [simp] jC vz wQ wO
section
variable{P:acD}{m:Mo}{n:Nat}{ops:acd}{Kp:abU}
def cV.mono{R c:abP}(b:∀env σ,R env σ->c env σ):∀(l:acr) (env:Env) (σ:aa),cV P m ops n Kp l env σ R->cV P m ops n Kp l env σ c
 |[],env,σ,h=>b _ _ h
 |i::l,env,σ,⟨o,d,e,f⟩=>⟨o,d,e,f.imp (λh=>⟨h.1,h.2.mono λa g=>cV.mono b l _ _⟩) (λh=>⟨h.1,cV.mono b l _ _ h.2⟩)⟩
def jC.mono(L:iZ P){mu:acr}{lt:Bool}{σ:aa}{K c:Env->Prop}(b:∀env,K env->c env):∀{S:acr}{env:Env},jC L mu ops n lt σ S env K->jC L mu ops n lt σ S env c
 |[],env,h=>b _ h
 | i :: S,env,h=>by
   unfold jC at h ⊢;split at h
   . next o d=>
     try simp only[d]
     refine⟨h.1,h.2.1,?_⟩;have h:=h.2.2;unfold rC at h ⊢
     have main:∀{x:acn}{y:acn},(match x with|some a=>jC L mu ops n lt σ S (bc env o.dst a) K|none=>lt=true/\(match y with|some a=>jC L mu ops n lt σ S (bc env o.dst a) K|none=>False)) ->
      (match x with|some a=>jC L mu ops n lt σ S (bc env o.dst a) c|none=>lt=true/\(match y with|some a=>jC L mu ops n lt σ S (bc env o.dst a) c|none=>False)):=by
      intro x y h;cases x with
      |some a=>exact jC.mono L b h
      | none=>
        refine⟨h.1,?_⟩;cases y with
        |some a=>exact jC.mono L b h.2
        |none=>exact h.2
     split at h
     . exact main h
     . split at h
       . refine⟨h.1,?_⟩
         have h:=h.2;split at h
         . exact⟨λe=>main (h.1 e),λe=>jC.mono L b (h.2 e)⟩
         . exact jC.mono L b h
         . exact h
       . exact h
   . exact h
inductive jD where
 |done
 |take (S:acr) (lt:Bool) (p:jD)
 |one (i:Nat) (p:jD)
 |both (i:Nat) (p q:jD)
structure Entry where
 id:Nat
 Vl:jD
def fh(ops:acd):jD->acr->acr->acr->Bool
 |.done,_,_,rest=>rest.isEmpty
 |.take S lt p,ex,done,rest=>ex.isEmpty && AX ops done rest S && (!lt||S.all λi=>late ops rest S i) && fh ops p [] (S++done) (rest.filter λi=>!S.contains i)
 |.one i p,ex,done,rest=>rest.contains i && (rest.all λj=>!done.contains j) && (rest.all λj=>j==i||ex.contains j||(rest.any λx=>jg ops x j)) && fh ops p [] (i::done) (rest.filter (· !=i))
 |.both i p q,ex,done,rest=>rest.contains i && fh ops p [] (i::done) (rest.filter (· !=i)) && fh ops q (i::ex) done rest
def sf(ops:acd)(e:Entry):Bool:=qk ops && fh ops e.Vl [] [] (List.range ops.size)
def Vm(P:acD)(m:Mo)(ops:acd)(n:Nat)(Kp:abU)(ex done rest:acr)(env:Env)(σ:aa)(R:abP):Prop:=∀l,jh ops done l->l.Nodup->(∀i,i∈l↔i∈rest)->(∀i a,l=i::a->i∉ex)->cV P m ops n Kp l env σ R
def iM(P:acD)(m:Mo)(ops:acd)(n:Nat)(Kp:abU)(p:jD)(env:Env)(σ:aa)(R:abP):Prop:=∀ex done rest,fh ops p ex done rest=true->Vm P m ops n Kp ex done rest env σ R
def J1{i:Nat}{l rest:acr}(a:(i::l).Nodup)(b:∀j,j∈i::l↔j∈rest)(j:Nat):j∈l↔j∈rest.filter (· !=i):=by grind
def cV.J2{i:Nat}{l ex done rest:acr}{p:jD}{env:Env}{σ:aa}{R:abP}(c:jh ops done (i::l))(b:(i::l).Nodup)(d:∀j,j∈i::l↔j∈rest)
 (e:fh ops p [] (i::done) (rest.filter (· !=i))=true) (h:ji P m ops n Kp i env σ (λenv σ=>iM P m ops n Kp p env σ R)):cV P m ops n Kp (i::l) env σ R:=by
 have next:∀env σ,iM P m ops n Kp p env σ R->cV P m ops n Kp l env σ R:=λenv σ h=>h [] _ _ e l c.2.2 (List.nodup_cons.1 b).2 (J1 b d) (λ_ _ _ h=>by cases h)
 obtain⟨o,f,g,k⟩:=h;exact⟨o,f,g,k.imp (λh=>⟨h.1,h.2.mono λa q=>next _ _⟩) (λh=>⟨h.1,next _ _ h.2⟩)⟩
def iM.done{env:Env}{σ:aa}{R:abP}(h:R env σ):iM P m ops n Kp .done env σ R:=λex done rest a l _ _ b _=>by
 simp only[fh,List.isEmpty_iff]at a;subst a;cases l with
 |nil=>exact h
 |cons i l=>exact absurd ((b i).1 (by simp)) (by simp)
def iM.take(L:iZ P)(mu:acr){S:acr}{lt:Bool}{p:jD}{env:Env}{σ:aa}{R:abP}(h:jC L mu ops n lt σ S env (λd=>iM P m ops n Kp p d σ R)):iM P m ops n Kp (.take S lt p) env σ R:=by
 intro ex done rest f;simp only[fh,zj]at f;obtain⟨⟨⟨j,g⟩,k⟩,i⟩:=f;have:=Any.take (m:=m) (Kp:=Kp) (R:=R) L mu S lt g (λe=>by simp_all) (jC.mono L (λd h=>λl a b c=>h [] _ _ i l a b c (λ_ _ _ h=>by cases h)) h);exact λl a b c _=>this l a b c
def iM.one{i:Nat}{p:jD}{env:Env}{σ:aa}{R:abP}(h:ji P m ops n Kp i env σ (λenv σ=>iM P m ops n Kp p env σ R)):iM P m ops n Kp (.one i p) env σ R:=by
 intro ex done rest d l e g f r;simp only[fh,zj,ZP,aaY,beq_iff_eq,abn]at d;obtain⟨⟨⟨s,hd⟩,k⟩,o⟩:=d;have q:i∈rest:=by simp_all
 cases l with
 |nil=>simp_all
 | cons j l=>
   have a:j∈rest:=(f j).1 (by simp)
   have b:j=i:=by
    rcases k j a with(h|h)|⟨x,c,h⟩
    . exact h
    . simp_all
    . have:=hd x c
      exact absurd (e.1 x h) (by simp_all)
   subst b;exact cV.J2 (ex:=ex) e g f o h
def iM.both{i:Nat}{p q:jD}{env:Env}{σ:aa}{R:abP}(h:ji P m ops n Kp i env σ (λenv σ=>iM P m ops n Kp p env σ R))(g:iM P m ops n Kp q env σ R):iM P m ops n Kp (.both i p q) env σ R:=by
 intro ex done rest b l c d f s;simp only[fh,zj]at b;obtain⟨⟨t,k⟩,o⟩:=b;have r:i∈rest:=by simp_all
 cases l with
 |nil=>simp_all
 | cons j l=>
   by_cases a:j=i
   . subst a
     exact cV.J2 (ex:=ex) c d f k h
   . exact g _ _ _ o _ c d f λx u e=>by simp_all
def qT{id:Nat}:∀{k k':acm},exitTo id k=some k'->∀x∈k',x∈k
 |[],k',h=>by simp_all
 | i::k,k',h=>by
   have again:exitTo id k=some k'->∀x∈k',x∈i::k:=λh x a=>aan _ (qT h x a)
   cases i<;>simp only[exitTo]at h<;>first|exact again h|skip
   grind
end
section
variable{P:acD}(L:iZ P)
def nZ(fn:Func)(k:Nat):Bool:=Nat.ble k fn.ntmps && fn.results.toList.all (ResultVar.ok fn.ntmps)
end
attribute [simp] List.find?
def jY{k:ah}{O:aj}{r:Nat}{c:abY}{e:TypeId}{x:Nat × Nat}(p:O r=some (.obj (.cells c e x))):kH k O (k.eD r (e,c.size)) O:=λw h=>by
 have t:=h.obj _ _ p;have g:w.shape? r=some (e,c.size):=by simp[World.shape?,t]
 refine⟨⟨h.apart,h.cell,λb s hb=>?_,h.obj,λb n hb=>?_,λb n hb=>?_⟩,⟨⟨λ_ _ _ h=>h,λb s d=>?_⟩,ZF _,λ_ _ _=>rfl,λ_ _ _ _ c _ h=>⟨c,h,rfl,λ_ _=>rfl⟩,λ_ _ _ _ c _ h=>⟨c,h,rfl,λ_ _=>rfl⟩,λ_ _=>rfl,λb x u=>.inl ⟨x,u,.refl x⟩,λb i v y=>.inl y,λb s d=>?_,by simp,rfl,rfl,rfl,by simp,λ_ f h=>⟨f,h⟩⟩⟩
 . by_cases a:b=r
   . subst a;simp[ah.eD]at hb;simp_all
   . exact h.sh b s (by simpa[ah.eD,a]using hb)
 . obtain⟨j,l,m,o⟩:=h.tail b n hb
   refine⟨j,l,m,?_⟩;have:b≠r:=λq=>by simp_all
   simpa[ah.eD,this]using o
 . obtain⟨j,l,m,o⟩:=h.part b n hb
   refine⟨j,l,m,?_⟩;have:b≠r:=λq=>by simp_all
   simpa[ah.eD,this]using o
 . by_cases a:b=r
   . subst a
     have:=h.sh _ _ d;rw[g]at this;cases this;simp[ah.eD]
   . simpa[ah.eD,a]using d
 . by_cases a:b=r
   . simp_all
   . exact .inl (by simpa[ah.eD,a]using d)
section
variable{P:acD}{m:Mo}{Q:abz}{k:ah}{O:aj}{g:aco}
def T.freeze{r n:Nat}{c:abY}{e:TypeId}(d:O r=some (.obj (.cells c e (0,0))))(b:g.status=.running)
 (h:∀k' O',k.Le k'->k'.sh r=some (e,c.size)->(∀j v,j<n->c[j]?=some v->k'.cell r j=some v)->O'=O.set r (.tail n)->T P m Q k' O' g):T P m Q k O g:=by
 by_cases a:∃w,Sat k O w
 . obtain⟨w,f⟩:=a
   have i:∀j,k.cell r j=none:=λj=>by
    cases q:k.cell r j with
    |none=>rfl
    |some v=>exact(f.apart _ _ _ q (.inl ⟨_,d⟩)).elim
   have o:=(jY (k:=k) d w f).2.le;have l:(k.eD r (e,c.size)).Le ((k.eD r (e,c.size)).wA r c n):=.wA i;exact .ghost (jY d) (.ghost (nX (n:=n) d (by simp[ah.eD])) (h _ _ (o.trans l) (by simp[ah.wA,ah.eD]) (λj v p s=>by simp[ah.wA,p,s]) rfl))
 . exact .step (λ_ _ _=>False) b (λ_ _ _ h=>h.elim) λw f=>absurd ⟨w,f⟩ a
end
def fH:∀{es:acw},(∀e∈es,e.cells=[e])->flatten es=es
 |[],_=>rfl
 | e::es,h=>by
   have c:=h e (by simp);have a:=fH (es:=es) λx b=>h x (by simp[b])
   simp only[flatten]at a ⊢
   simp_all
def V.Cv{k:ah}{v:Value}{kk:Nat}{es:acw}{sp:cT}(h:V k v (.sl kk es sp)):(∃a,v=.slice a 0 0/\es=[]/\(sp=.any\/(sp=.exact/\a.isSome=true)))\/∃(b off cap N:Nat) (E:TypeId) (c:acj),v=.slice (some ⟨b,off,none⟩) es.length cap/\es.length<=cap/\k.sh b=some (E,N)/\off+cap*kk<=N/\(∀e∈es,e.cells.length=kk)/\
 (∀j,j<(flatten es).length->k.cell b (off+j)=some (c j)/\bQ.flat (c j)=true)/\(∀(j:Nat) a,(flatten es)[j]?=some a->V k (c j) a)/\sp.fits b off es.length kk cap:=by
 cases h with
 |sl b off cap _ N E _ _ c d f g i l m n=>exact .inr ⟨b,off,cap,N,E,c,rfl,d,f,g,i,l,m,n⟩
 |slnil a _ _ h=>grind
inductive Fz(b:Nat)(l:acw):AV->AV->Prop
 |refl (a:AV):Fz b l a a
 | sl (off cap kk:Nat) (es:acw) (sp:cT):es.length<=cap->off+cap*kk<=l.length->(∀e∈es,e.cells.length=kk)->(∀(j:Nat) a,(flatten es)[j]?=some a->l[off+j]?=some a)->(sp=.any\/(sp=.exact/\cap=es.length)) ->
    Fz b l (.gW b off es.length cap) (.sl kk es sp)
 |fn (f:Fn) (a1 a2 c1 c2:acw):a1.length=a2.length->c1.length=c2.length->(∀(i:Nat) a a',a1[i]?=some a->a2[i]?=some a'->Fz b l a a')->(∀(i:Nat) a a',c1[i]?=some a->c2[i]?=some a'->Fz b l a a')->Fz b l (.fn f a1 c1) (.fn f a2 c2)
 |rows (es es':acw) (sp:cT):es.length=es'.length->(∀e∈es,e.cells=[e])->(∀e∈es',e.cells=[e])->(∀(i:Nat) a a',es[i]?=some a->es'[i]?=some a'->Fz b l a a')->Fz b l (.sl 1 es sp) (.sl 1 es' sp)
 |cp (base off:Nat) (v:AV):base+v.cells.length<=l.length->(∀(j:Nat) a,v.cells[j]?=some a->l[base+j]?=some a)->Fz b l (.ref b (base+off)) (.cp v off)
 |agg (l1 l2:acw):l1.length=l2.length->(∀(i:Nat) a a',l1[i]?=some a->l2[i]?=some a'->Fz b l a a')->Fz b l (.agg l1) (.agg l2)
 |cB (l1 l2:acw):l1.length=l2.length->(∀(i:Nat) a a',l1[i]?=some a->l2[i]?=some a'->Fz b l a a')->Fz b l (.cB l1) (.cB l2)
def AY(k:ah)(b:Nat)(E:TypeId)(l:acw):Prop:=k.sh b=some (E,l.length)/\∀(j:Nat) a,l[j]?=some a->∃u,k.cell b j=some u/\V k u a/\bQ.flat u=true
def Fz.sound{k:ah}{b:Nat}{E:TypeId}{l:acw}{a a':AV}(h:Fz b l a a')(o:AY k b E l):∀{v:Value},V k v a->V k v a':=by
 induction h with
 |refl a=>simp_all
 | sl off cap T es sp g n p r s=>
   intro v d;cases d
   exact V.ofRow g o.1 n p (λj a q=>o.2 _ _ (r j a q)) (by
    rcases s with rfl|⟨rfl,s⟩
    . trivial
    . exact s)
 | rows es t sp g n p _ z=>
   intro v d;have f1:=fH n;have U:=fH p;rcases d.Cv with⟨W,rfl,rfl,F⟩|⟨G,off,cap,N,H,c,rfl,X,I,J,Y,A,K,Z⟩
   . grind
   . rw[f1]at A K
     rw[g];refine .sl G off cap 1 N H t sp c (by omega) I J (λe he=>by simp_all) (λj B=>A j (by simp_all)) (λj a q=>?_) (by simp_all)
     grind
 | cp base off x hlen g=>
   intro v d;cases d;refine .cp b base off _ _ x (λj=>(k.cell b (base+j)).getD undef) o.1 hlen (λj B=>?_) (λj a q=>?_)
   . obtain⟨u,n,p,r⟩:=o.2 _ _ (g j x.cells[j] (by simp[B]))
     simp_all
   . obtain⟨u,n,p,r⟩:=o.2 _ _ (g j a q)
     simp_all
 | fn f a1 L c1 M g n _ _ O P=>
   intro v d;cases d with
   | fn _ Q R _ _ C D g3 g4=>
     refine .fn f Q R L M (by omega) (λi u a' w m=>?_) (by omega) (λi u a' w m=>?_)
     . grind
     grind
 | agg S y g _ z=>
   intro v d;cases d with
   | agg c _ C D=>
     refine .agg c y (by omega) λi u a' w m=>?_
     grind
 | cB S y g _ z=>
   intro v d;cases d with
   | cB c _ C D=>
     refine .cB c y (by omega) λi u a' w m=>?_
     grind
def J3(b:Nat)(l:acw)(σ σ':aa):Prop:=∀c y,σ' c=some y->c≠b/\(σ c=some y\/∃d e,σ c=some (.cells d)/\y=.cells e/\d.length=e.length/\∀(i:Nat) a f,d[i]?=some a->e[i]?=some f->Fz b l a f)
def J3.del(b:Nat)(l:acw)(σ:aa):J3 b l σ (σ.del b):=λc y h=>by
 unfold aa.del at h
 simp_all
def J3.sound{k:ah}{O:aj}{b:Nat}{E:TypeId}{l:acw}{σ σ':aa}(h:J3 b l σ σ')(t:AY k b E l)(f:Rel k O σ)(x:Own):Rel k (O.set b x) σ':=⟨λc y g j=>by
 obtain⟨d,h⟩:=h c y g;rcases h with h|⟨m,q,n,rfl,r,u⟩
 . obtain⟨z,o,a⟩:=f.1 c y h j
   exact⟨z,by simp[aj.set,d,o],a⟩
 . obtain⟨z,o,a⟩:=f.1 c _ n (by simp)
   cases a with
   | cells w e _ F A B=>
     refine⟨_,by simp only[aj.set,d,if_false];exact o,.cells w e q (by omega) (λi v C D p=>?_) B⟩;have s:i<m.length:=by grind
     exact(u i m[i] C (by simp[s]) p).sound t (A i v _ D (by simp[s])),λc y g j=>by
 obtain⟨d,h⟩:=h c _ g;rcases h with h|⟨m,q,_,h,_⟩
 . obtain⟨n,r⟩:=f.2 c y h j
   exact⟨by simp[aj.set,d,n],r⟩
 simp_all⟩
section
variable{P:acD}{m:Mo}
def T.AZ{Q:abz}{k:ah}{O:aj}{g:aco}{σ:aa}{b:Nat}{l:acw}(q:Rel k O σ)(hb:σ b=some (.cells l))(f:g.status=.running)
 (h:∀k' O',k.Le k'->(∀v a a',V k v a->Fz b l a a'->V k' v a')->(∀σ',J3 b l σ σ'->Rel k' O' σ')->T P m Q k' O' g):T P m Q k O g:=by
 obtain⟨y,s,t⟩:=q.1 b _ hb (by simp);cases t with
 | cells c e _ u w x=>
   refine T.freeze (n:=c.size) s f λk' O' d o z p=>?_
   have r:AY k' b e l:=⟨by rw[o,u],λj a A=>by
    have i:j<c.size:=by grind
    exact⟨c[j],z j _ i (by simp[i]),(w j _ a (by simp[i]) A).mono d,x j _ (by simp[i])⟩⟩
   refine h k' O' d (λv a a' B C=>C.sound r (B.mono d)) λσ' D=>?_
   rw[p];exact D.sound r (q.mono d) _
def Go.freeze{fid n:Nat}{ro:acf}{todo:acm}{K:abK}{env a:Env}{σ σ':aa}{D:acz}{rc:Rec}(b:Nat)(l:acw)(hb:σ b=some (.cells l))(d:∀t,Fz b l (env t) (a t))(g:J3 b l σ σ')
 (h:Go P m fid n ro todo ⟨a,σ',D,rc⟩ K):Go P m fid n ro todo ⟨env,σ,D,rc⟩ K:=by
 intro Q k O tmps defs kind cs i e j;refine T.AZ e.rel hb rfl λo p c q f=>?_
 exact h Q o p tmps defs kind cs i ⟨e.size,λt r=>q _ _ _ (e.env t r) (d t),f σ' g,e.ds.mono c,e.rc.mono c⟩ (j.mono c)
def Fz.upd{b:Nat}{l:acw}{env:Env}{t:Nat}{a':AV}(h:Fz b l (env t) a')(u:Nat):Fz b l (env u) (env.upd t a' u):=by
 unfold Env.upd;split
 . simp_all
 . exact .refl _
inductive ny(KF:abT):abT
 |done {r:eT}{σ:aa}:KF r σ->ny KF r σ
 |freeze {a a':AV}{σ σ':aa}(b:Nat) (l:acw):σ b=some (.cells l)->Fz b l a a'->J3 b l σ σ'->ny KF (.val a') σ'->ny KF (.val a) σ
 |n8 {a a':AV}{σ:aa}:a.W a'->ny KF (.val a') σ->ny KF (.val a) σ
 |less {r:eT}{σ σ':aa}:σ'.Le σ->ny KF r σ'->ny KF r σ
def aA.thaw{f:FuncId}{args:acw}{σ:aa}{t:abT}(h:aA P m f args σ (ny t)):aA P m f args σ t:=by
 intro Q k O o c rest kind y z A I J
 have key:∀r i,ny t r i->∀e j g,k.Le e->Rel e j i->(match r with
  |.val a=>V e g a->T P m Q e j (jW kind c rest g)
  |.panic a=>V e g a->T P m Q e j (G (c.raise [⟨g,false,false⟩]) rest)):=by
  intro r i B;induction B with
  |@done r σ K=>grind
  | freeze b l hb C u _ p=>
    intro e j g n q v;refine T.AZ q hb (by cases kind<;>rfl) λD E s w x=>?_
    exact p D E g (n.trans s) (x _ u) (w _ _ _ v C)
  |n8 F _ p=>intro e j g n q v;exact p e j g n q (F _ _ v)
  |@less r σ i u _ p=>intro e j g n q;exact p e j g n (q.le u)
 exact h Q k O o c rest kind y z A (λe j g H i a b c d=>key _ _ d e j g a c b) (λe j g H i a b c d=>key _ _ d e j g a c b)
end

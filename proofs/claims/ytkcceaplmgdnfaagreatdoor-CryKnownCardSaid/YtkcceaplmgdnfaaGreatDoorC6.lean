import Derived.Orders
import Derived.Test.YtkcceaplmgdnfaaGreatDoorC5
set_option linter.all false
namespace Go.bu
open Go.Conc
theorem aJ.congr{P:Program}{o:Oper}{env a:Env}{σ:aa}{K Kp:AV->aa->Prop}(h:aJ P o env σ K Kp)(d:∀x∈o.op.operands,au a x=au env x):aJ P o a σ K Kp:=λk O b e c=>h k O b (λx f=>by grind) c
def Mp(P:Program)(m:Mo)(o:Oper)(env:Env)(σ:aa)(R:AV->aa->Prop)(Kp:AV->aa->Prop):Prop:=
 (∃fo args d,o.op=.call ⟨.value fo,args,d⟩/\bz P m (au env fo) (args.toList.map (au env)) σ (λr b=>match r with|.val a=>R a b|.panic v=>Kp v b))\/
 ((∀c,o.op≠.defer c)/\aJ P o env σ R Kp)
theorem Mp.mono{P:Program}{m:Mo}{o:Oper}{env:Env}{σ:aa}{R e Kp:AV->aa->Prop}(h:Mp P m o env σ R Kp)(f:∀a σ,R a σ->e a σ):Mp P m o env σ e Kp:=by
 rcases h with⟨fo,args,b,c,d⟩|⟨c,d⟩
 . refine .inl ⟨fo,args,b,c,d.mono λr g i=>?_⟩
   grind
 . exact .inr ⟨c,d.mono f⟩
theorem Mp.congr{P:Program}{m:Mo}{o:Oper}{env a:Env}{σ:aa}{R Kp:AV->aa->Prop}(h:Mp P m o env σ R Kp)(b:∀x∈o.op.operands,au a x=au env x):Mp P m o a σ R Kp:=by
 rcases h with⟨fo,args,c,d,e⟩|⟨d,e⟩
 . refine .inl ⟨fo,args,c,d,?_⟩
   have f:au a fo=au env fo:=b fo (by simp_all);have g:args.toList.map (au a)=args.toList.map (au env):=List.map_congr_left λx i=>b x (by simp_all)
   grind
 . exact .inr ⟨d,e.congr b⟩
def kH(ops:Array Oper)(n:Nat)(env:Env)(o:Oper):Prop:=∃j b x d a,o.guard=some (j,b)/\ops[j]?=some a/\a.dst=some d/\d<n/\env d=.lit x/\QL x b
def cE(P:Program)(m:Mo)(ops:Array Oper)(n:Nat)(Kp:AV->aa->Prop):List Nat->Env->aa->(Env->aa->Prop)->Prop
 |[],env,σ,R=>R env σ
 | i::l,env,σ,R=>∃o,ops[i]?=some o/\Oper.ok n o=true/\
   ((bK ops n env o/\Mp P m o env σ (λa b=>cE P m ops n Kp l (aX env o.dst a) b R) Kp)\/(kH ops n env o/\cE P m ops n Kp l (aX env o.dst (.lit (.tuple #[]))) σ R))
section
variable{P:Program}{m:Mo}{fid n:Nat}{ro:Option Nat}{D:List kF}{rc:Rec}{K:Exit->St->Prop}{k:List Item}{ops:Array Oper}
theorem Go.qC{Kp:AV->aa->Prop}:∀(l:List Nat) (env:Env) (σ:aa),(∀v env σ,Kp v σ->K (.panic v) ⟨env,σ,D,rc⟩) ->
 cE P m ops n Kp l env σ (λenv σ=>Go P m fid n ro k ⟨env,σ,D,rc⟩ K)->Go P m fid n ro (.inRegion ops l::k) ⟨env,σ,D,rc⟩ K
 |[],env,σ,_,h=>.xS h
 | i :: l,env,σ,p,⟨o,q,f,h⟩=>by
   rcases h with⟨B,h⟩|⟨⟨j,b,x,d,R,C,E,hd,s,F,t⟩,h⟩
   . rcases h with⟨fo,args,G,u,w⟩|⟨u,w⟩
     . refine .call q u B f (w.mono λr c H=>?_)
       cases r with
       |val a=>exact Go.qC l _ c p H
       |panic v=>simp_all
     . refine .op q B f u ?_
       intro I O J A L;refine iy _ (w I O J A L) (λ_ _ _ ⟨v,M,N,Q,g,e,a,c,x,y,z⟩=>⟨v,M,N,Q,g,e,a,c,x,y,Go.qC l _ c p z⟩) (λ_ _ _ ⟨e,a,c,x,y,z⟩=>⟨e,a,c,x,y,p _ _ _ z⟩)
   . exact .unwanted q C E hd s F t (Go.qC l _ σ p h)
def C2(P:Program)(o:Oper)(env:Env)(a:AV):Prop:=∀σ,aJ P o env σ (λc b=>c=a/\b=σ) (λ_ _=>False)
def qD(P:Program)(o:Oper)(env:Env)(σ:aa)(a:AV):Prop:=aJ P o env σ (λc b=>c=a/\b=σ) (λ_ _=>False)
def jd(ops:Array Oper)(j i:Nat):Bool:=match ops[i]? with|some o=>o.after.toList.any λe=>Region.binds .any e && e.on==j|none=>false
def dh(ops:Array Oper)(o:Oper):List Nat:=(o.op.operands.toList.filterMap fun|.tmp t=>some t|_=>none)++(match o.guard with|some (j,_)=>(match (ops[j]?).bind (·.dst)with|some d=>[d]|none=>[])|none=>[])
def kj(ops:Array Oper)(rest S:List Nat):Bool:=
 rest.all fun i=>match ops[i]? with
  |none=>false
  | some o=>
    rest.all λj=>match ops[j]? with
     |none=>false
     | some a=>match a.dst with
       |none=>true
       | some d=>
         (if (dh ops o).contains d then
           (if S.contains i then(if S.contains j then jd ops j i && Nat.blt j i else jd ops i j)
            else(if S.contains j then jd ops j i else true))else true) &&
         (if S.contains i && i !=j && o.dst==some d then false else true)
def oJ(ops:Array Oper):Bool:=(List.range ops.size).all λi=>match ops[i]? with|none=>false|some o=>o.after.toList.all λe=>!Region.binds .any e||Nat.blt e.on i
theorem ve{ops:Array Oper}(h:oJ ops=true):∀i o,ops[i]?=some o->∀e∈o.after,Region.binds .any e=true->e.on<i:=by
 intro i o b e d hb;have a:i<ops.size:=(Array.getElem?_eq_some_iff.1 b).1;have c:=List.all_eq_true.1 h i (List.mem_range.2 a);simp only[b]at c;have f:=List.all_eq_true.1 c e (by simp_all)
 simp_all
def iB(ops:Array Oper):List Nat->List Nat->Prop
 |_,[]=>True
 |done,i::l=>(∀j,jd ops j i=true->j∈done)/\i∉done/\iB ops (i::done) l
theorem nQ{env a:Env}{x:Operand}(h:∀t,x=.tmp t->a t=env t):au a x=au env x:=by cases x<;>first|rfl|exact h _ rfl
theorem mem_reads{o:Oper}{t:Nat}(h:Operand.tmp t∈o.op.operands):t∈dh ops o:=by unfold dh;refine List.mem_append.2 (.inl (List.mem_filterMap.2 ⟨.tmp t,by grind,rfl⟩))
theorem xX{o a:Oper}{j:Nat}{b:Bool}{d:Nat}(c:o.guard=some (j,b))(e:ops[j]?=some a)(hd:a.dst=some d):d∈dh ops o:=by
 unfold dh
 simp_all
theorem bK.congr{env a:Env}{o:Oper}(h:bK ops n env o)(g:∀t∈dh ops o,a t=env t):bK ops n a o:=by
 unfold bK at h ⊢;cases c:o.guard with
 |none=>trivial
 |some p=>obtain⟨j,b⟩:=p;simp only[c]at h ⊢;obtain⟨i,d,e,f,k,l⟩:=h;exact⟨i,d,e,f,k,by rw[g d (xX c e f)];exact l⟩
theorem kH.congr{env a:Env}{o:Oper}(h:kH ops n env o)(i:∀t∈dh ops o,a t=env t):kH ops n a o:=by obtain⟨j,b,x,d,k,f,g,hd,c,l,e⟩:=h;exact⟨j,b,x,d,k,f,g,hd,c,by rw[i d (xX f g hd)];exact l,e⟩
theorem jw(env:Env)(dst:Option Tmp)(a:AV)(t:Nat):aX env dst a t=if dst=some t then a else env t:=by
 cases dst with
 |none=>simp[aX]
 | some d=>
   by_cases h:t=d
   . simp_all
   . simp[aX,Env.upd,h,Ne.symm h]
def late(ops:Array Oper)(rest S:List Nat)(i:Nat):Bool:=rest.all λj=>S.contains j||jd ops i j
def zc(P:Program)(ops:Array Oper)(n:Nat)(rest S:List Nat)(a:Env)(σ:aa)(i:Nat):Prop:=∃o,ops[i]?=some o/\Oper.ok n o=true/\((bK ops n a o/\∃d,o.dst=some d/\(∀c,o.op≠.defer c)/\(C2 P o a (a d)\/(late ops rest S i=true/\qD P o a σ (a d))))\/(kH ops n a o/\∃d,o.dst=some d/\a d=.lit (.tuple #[])))
theorem je{rest S:List Nat}(b:kj ops rest S=true){i j:Nat}{o g:Oper}{d:Nat}(c:i∈rest)(e:j∈rest)(m:ops[i]?=some o)(a:ops[j]?=some g)(hd:g.dst=some d):
 (d∈dh ops o->(i∈S->(j∈S->jd ops j i=true/\j<i)/\(j∉S->jd ops i j=true))/\(i∉S->j∈S->jd ops j i=true))/\(i∈S->i≠j->o.dst≠some d):=by
 unfold kj at b;rw[List.all_eq_true]at b;have h:=b i c;simp only[m]at h;have k:=List.all_eq_true.1 h j e;simp only[a,hd,Bool.and_eq_true]at k;obtain⟨n,q⟩:=k;refine⟨λr=>?_,λl p s=>?_⟩
 . have f:(dh ops o).contains d=true:=by grind
   rw[if_pos f]at n;refine⟨λl=>⟨λa=>?_,λa=>?_⟩,λl a=>?_⟩
   . simp_all
   . simp_all
   simp_all
 simp_all
theorem hoist{rest S:List Nat}{Kp:AV->aa->Prop}{R:Env->aa->Prop}(K:kj ops rest S=true):
 ∀ (l done:List Nat) (env b:Env) (σ:aa),(∀i∈l,i∈rest)->iB ops done l->(∀i∈l,i∉done)->l.Nodup->(∀i∈l,∃o,ops[i]?=some o) ->
   (∀i∈l,i∈S->zc P ops n rest S b σ i)->(∀t,(∀i∈l,i∈S->∀o,ops[i]?=some o->o.dst≠some t)->b t=env t) ->
   cE P m ops n Kp (l.filter λi=>!S.contains i) b σ R->cE P m ops n Kp l env σ R
 | [],done,env,b,σ,_,_,_,_,_,_,T,h=>by
   have:b=env:=funext λt=>T t (λi hi=>by simp at hi)
   simp_all
 | i :: l, done,env,b,σ,c,ha,a8,q,r,U,T,h=>by
   obtain⟨a1,a2,a3⟩:=ha;obtain⟨o,E⟩:=r i (by simp);have V:i∉l:=(List.nodup_cons.1 q).1
   have s:∀t∈dh ops o,b t=env t:=λt u=>T t λj f L Q w hd=>by
    obtain⟨c1,_⟩:=je K (c i (by simp)) (c j (by simp[f])) E w hd
    grind
   have F:∀x∈o.op.operands,au env x=au b x:=λx hx=>nQ λt e=>(s t (mem_reads (by grind))).symm
   have G:∀j∈l,j∉i::done:=λj f hm=>by grind
   by_cases H:i∈S
   . have W:(i::l).filter (λi=>!S.contains i)=l.filter λi=>!S.contains i:=by simp[H]
     rw[W]at h;obtain⟨o',A,B,C⟩:=U i (by simp) H;rw[E]at A;cases A
     have next:∀a d,o.dst=some d->b d=a->cE P m ops n Kp l (aX env o.dst a) σ R:=λa d hd a9=>
      hoist K l (i::done) (aX env o.dst a) b σ (λj f=>c j (by simp[f])) a3 G (List.nodup_cons.1 q).2 (λj f=>r j (by simp[f])) (λj f=>U j (by simp[f])) (λt u=>by
       rw[jw,hd]
       grind) h
     rcases C with⟨C,d,hd,I,D⟩|⟨C,d,hd,f⟩
     . refine⟨o,E,B,.inl ⟨C.congr λt u=>(s t u).symm,.inr ⟨I,?_⟩⟩⟩
       have:=(show qD P o b σ (b d)from D.elim (λh=>h σ) (λh=>h.2)).congr F;intro kk O ρ X hr;refine iy _ (this kk O ρ X hr) (λ_ _ _ ⟨v,hv,k2,O2,g,Y,a,k,x,y,e1,e2⟩=>⟨v,hv,k2,O2,g,Y,a,k,x,y,?_⟩) (λ_ _ _ ⟨_,_,_,_,_,z⟩=>z.elim)
       grind
     . exact⟨o,E,B,.inr ⟨C.congr λt u=>(s t u).symm,next _ d hd f⟩⟩
   . have W : (i::l).filter (λi=>!S.contains i)=i::l.filter λi=>!S.contains i:=by simp[H]
     rw[W]at h;obtain⟨o',A,B,C⟩:=h;rw[E]at A;cases A
     have next:∀a k,cE P m ops n Kp (l.filter λi=>!S.contains i) (aX b o.dst a) k R->cE P m ops n Kp l (aX env o.dst a) k R:=λa k h'=>
      hoist K l (i::done) (aX env o.dst a) (aX b o.dst a) k (λj f=>c j (by simp[f])) a3 G (List.nodup_cons.1 q).2 (λj f=>r j (by simp[f]))
       (fun j f L=>by
         obtain⟨Q,w,M,Z⟩:=U j (by simp[f]) L;have ab:j≠i:=λe=>V (e ▸ f)
         have p:∀t∈dh ops Q,aX b o.dst a t=b t:=λt u=>by
          rw[jw];by_cases hd:o.dst=some t
          . obtain⟨c1,_⟩:=je K (c j (by simp[f])) (c i (by simp)) w E hd
            grind
          grind
         have N:∀d,Q.dst=some d->aX b o.dst a d=b d:=λd hd=>by
          rw[jw];by_cases a7:o.dst=some d
          . obtain⟨_,c2⟩:=je K (c j (by simp[f])) (c i (by simp)) w E a7
            grind
          grind
         refine⟨Q,w,M,?_⟩;rcases Z with⟨J,d,hd,I,D⟩|⟨J,d,hd,ad⟩
         . refine .inl ⟨J.congr p,d,hd,I,.inl λσ=>?_⟩
           rw[N d hd];rcases D with D|⟨hl,_⟩
           . exact(D σ).congr λx hx=>nQ λt e=>p t (mem_reads (by grind))
           . have:=List.all_eq_true.1 hl i (c i (by simp))
             grind
         . exact .inr ⟨J.congr p,d,hd,by grind⟩)
       (fun t u=>by
         rw[jw,jw]
         grind) h'
     rcases C with⟨C,h⟩|⟨C,h⟩
     . exact⟨o,E,B,.inl ⟨C.congr λt u=>(s t u).symm,(h.congr F).mono λa k=>next a k⟩⟩
     . exact⟨o,E,B,.inr ⟨C.congr λt u=>(s t u).symm,next _ σ h⟩⟩
theorem iB.sub(p:Nat->Bool):∀(l done a:List Nat),iB ops done l->(∀i∈done,i∈a)->(∀i∈l,p i=false->i∈a)->(∀i∈l,p i=true->i∉a)->l.Nodup->iB ops a (l.filter p)
 |[],_,_,_,_,_,_,_=>trivial
 | i :: l,done,a,⟨h,o,f⟩,k,m,g,d=>by
   have n:i∉l:=(List.nodup_cons.1 d).1;by_cases e:p i=true
   . rw [List.filter_cons_of_pos e]
     refine⟨λj c=>k j (h j c),g i (by simp) e,?_⟩
     exact iB.sub p l (i::done) (i::a) f (λj c=>by
      grind) (λj c b=>by simp_all) (λj c b q=>by
      simp_all) (List.nodup_cons.1 d).2
   . rw[List.filter_cons_of_neg e]
     exact iB.sub p l (i::done) a f (λj c=>by grind) (λj c b=>m j (by simp[c]) b) (λj c b=>g j (by simp[c]) b) (List.nodup_cons.1 d).2
theorem zd(g:∀i o,ops[i]?=some o->∀e∈o.after,Region.binds .any e=true->e.on<i):∀(fuel t:Nat) (listed:Array Bool) (done:List Nat),listed.size=ops.size->(∀i,i<ops.size->(listed.getD i true=true↔i∈done)) ->
 ((List.range ops.size).filter λi=>!listed.getD i true).length<=fuel ->
 iB ops done (Region.linearise.go .any ops fuel t listed [])/\(Region.linearise.go .any ops fuel t listed []).Nodup/\(∀i∈Region.linearise.go .any ops fuel t listed [],i∉done/\i<ops.size)/\∀i,i<ops.size->(i∈Region.linearise.go .any ops fuel t listed []\/i∈done):=by
 intro fuel;induction fuel with
 | zero=>
   intro t listed done k hd y;have l:(List.range ops.size).filter (λi=>!listed.getD i true)=[]:=List.eq_nil_of_length_eq_zero (by omega);unfold Region.linearise.go;refine⟨trivial,List.nodup_nil,λi a=>(by cases a),λi a=>.inr ((hd i a).1 ?_)⟩;have:=List.filter_eq_nil_iff.1 l i (List.mem_range.2 a)
   simp_all
 | succ fuel z=>
   intro t listed done k hd y;unfold Region.linearise.go;simp only[];generalize p:(List.range ops.size).filter (λi=>!listed.getD i true && ((ops[i]?).map (·.after.all λe=>!Region.binds .any e||listed.getD e.on false)).getD false)=rs
   have d:∀i,i∈rs↔i<ops.size/\listed.getD i true=false/\∃o,ops[i]?=some o/\∀e∈o.after,Region.binds .any e=true->listed.getD e.on false=true:=by
    intro i;rw[<-p,List.mem_filter,List.mem_range];refine and_congr_right λa=>?_
    rw[Bool.and_eq_true,Bool.not_eq_true'];refine and_congr_right λ_=>?_
    have q:ops[i]?=some ops[i]:=Array.getElem?_eq_getElem a;rw[q];simp only[Option.map_some,Option.getD_some,Array.all_eq_true_iff_forall_mem,Bool.or_eq_true,Bool.not_eq_true',Option.some.injEq,exists_eq_left']
    grind
   have A:∀j,j<ops.size->listed.getD j false=listed.getD j true:=λj c=>by grind
   cases a:rs[t % rs.length]? with
   | none=>
     simp only[]
     have w:rs=[]:=by
      cases rs with
      |nil=>rfl
      | cons x xs=>
        have B:=List.getElem?_eq_none_iff.1 a;have K:t % (x::xs).length<(x::xs).length:=Nat.mod_lt _ (by simp);omega
     refine⟨trivial,List.nodup_nil,λi a=>(by cases a),?_⟩;intro i;induction i using Nat.strongRecOn with
     | ind i C=>
       intro a;refine .inr ((hd i a).1 ?_);cases D:listed.getD i true with
       |true=>rfl
       | false=>
         have:i∈rs:=(d i).2 ⟨a,D,ops[i],Array.getElem?_eq_getElem a,λe l hb=>by
          have E:=g i ops[i] (Array.getElem?_eq_getElem a) e l hb
          grind⟩
         grind
   | some i=>
     simp only[];rw[linearise_go_acc,List.reverse_singleton,List.singleton_append];have r:=List.mem_of_getElem? a;obtain⟨s,F,o,q,m⟩:=(d i).1 r;have n:i∉done:=λh=>by grind
     have f:∀j,j<ops.size->((listed.setIfInBounds i true).getD j true=if j=i then true else listed.getD j true):=λj c=>by
      by_cases b:j=i
      . subst b;rw[if_pos rfl];simp[k,c]
      . rw[if_neg b];exact getD_set_ne true (Ne.symm b)
     obtain⟨G,H,u,I⟩:=z (t / rs.length) (listed.setIfInBounds i true) (i::done) (by grind) (λj c=>by
      rw[f j c];by_cases b:j=i
      . simp[b]
      grind) (by
      have J:(List.range ops.size).filter (λj=>!(listed.setIfInBounds i true).getD j true)=((List.range ops.size).filter (λj=>!listed.getD j true)).filter (· !=i):=by
       rw[List.filter_filter];refine List.filter_congr λj c=>?_
       rw[f j (List.mem_range.1 c)];by_cases b:j=i<;>simp[b]
      rw[J];have:(((List.range ops.size).filter (λj=>!listed.getD j true)).filter (· !=i)).length<((List.range ops.size).filter (λj=>!listed.getD j true)).length:=List.length_filter_lt_length_iff_exists.2 ⟨i,List.mem_filter.2 ⟨List.mem_range.2 s,by grind⟩,by simp⟩;omega)
     refine⟨⟨λj c=>?_,n,G⟩,List.nodup_cons.2 ⟨λh=>(u i h).1 (by simp),H⟩,λj c=>?_,λj c=>?_⟩
     . unfold jd at c
       rw[q]at c;obtain⟨e,l,hb⟩:=List.any_eq_true.1 c;simp only[Bool.and_eq_true,beq_iff_eq]at hb;have v:e∈o.after:=by simpa using l
       have B:=m e v hb.1
       grind
     . rcases List.mem_cons.1 c with e|e
       . grind
       . exact⟨λh=>(u j e).1 (by simp[h]),(u j e).2⟩
     . rcases I j c with h|h
       . exact .inl (by simp[h])
       . rcases List.mem_cons.1 h with e|e
         . exact .inl (by simp[e])
         grind
theorem ze(a:∀i o,ops[i]?=some o->∀e∈o.after,Region.binds .any e=true->e.on<i)(t:Nat):
 iB ops [] (Region.linearise .any ops t)/\(Region.linearise .any ops t).Nodup/\(∀i,i∈Region.linearise .any ops t↔i<ops.size):=by
 obtain⟨b,c,d,f⟩:=zd a ops.size t (Array.replicate ops.size false) [] (by simp) (λi g=>by simp[g]) (by grind);refine⟨b,c,λi=>⟨λh=>(d i h).2,λh=>?_⟩⟩;rcases f i h with h|h
 . exact h
 . cases h
end
section
variable{P:Program}{m:Mo}{fid n:Nat}{ro:Option Nat}{D:List kF}{rc:Rec}{K:Exit->St->Prop}{k:List Item}{ops:Array Oper}{Kp:AV->aa->Prop}
def Any(P:Program)(m:Mo)(ops:Array Oper)(n:Nat)(Kp:AV->aa->Prop)(done rest:List Nat)(env:Env)(σ:aa)(R:Env->aa->Prop):Prop:=∀l,iB ops done l->l.Nodup->(∀i,i∈l↔i∈rest)->cE P m ops n Kp l env σ R
theorem Go.draw{id:Nat}(j:P.follows .mixedOrders=true)(l:oJ ops=true){env:Env}{σ:aa}
 (h:Any P m ops n (λv σ=>∀env,K (.panic v) ⟨env,σ,D,rc⟩) [] (List.range ops.size) env σ (λenv σ=>Go P m fid n ro k ⟨env,σ,D,rc⟩ K)):Go P m fid n ro (.code (.region id ops true)::k) ⟨env,σ,D,rc⟩ K:=by
 intro Q d O tmps defs kind cs o p q;refine .step (λr s g=>r=d/\s=O/\∃t,g=G ⟨fid,tmps,.inRegion ops (Region.linearise .any ops t)::k,defs,.run,kind,ro⟩ (eM rc cs)) rfl ?_ ?_
 . rintro _ _ _ ⟨rfl,rfl,t,rfl⟩
   obtain⟨u,y,A⟩:=ze (ve l) t;have:=h _ u y (λi=>by grind);exact Go.qC (D:=D) (rc:=rc) _ env σ (λv env σ z=>z env) this _ _ _ tmps defs kind cs o p q
 . intro w a
   refine⟨G ⟨fid,tmps,.inRegion ops (Region.linearise .any ops (w.tape w.drawn (.order fid id)))::k,defs,.run,kind,ro⟩ (eM rc cs),{w with drawn:=w.drawn+1},#[],d,O,?_,?_,?_,rfl,rfl,_,rfl⟩
   . simp[G,stepG,stepG.exec,choose,Sem.run,Question.forced,Question.cut,Region.schedule,j]
   . exact{le:=.refl _,size:=Nat.le_refl _,keep:=λ_ _ _=>rfl,tail:=λb n _ _ c e h=>⟨c,h,rfl,λ_ _=>rfl⟩,part:=λb n _ _ c e h=>⟨c,h,rfl,λ_ _=>rfl⟩,shape:=λ_ _=>rfl,own:=λb x h=>.inl ⟨x,h,.refl x⟩,cell:=λ_ _ _ h=>.inl h,sh:=λ_ _ h=>.inl h,evs:=λe h=>by simp at h,tape:=rfl,output:=rfl,os:=rfl,low:=λe h=>by simp at h,tok:=λ_ f h=>⟨f,h⟩}
   . exact⟨a.apart,a.cell,a.sh,a.obj,a.tail,a.part⟩
def iC(P:Program)(m:Mo)(ops:Array Oper)(n:Nat)(Kp:AV->aa->Prop)(i:Nat)(env:Env)(σ:aa)(R:Env->aa->Prop):Prop:=
 ∃ o,ops[i]?=some o/\Oper.ok n o=true/\
   ((bK ops n env o/\Mp P m o env σ (λa b=>R (aX env o.dst a) b) Kp)\/(kH ops n env o/\R (aX env o.dst (.lit (.tuple #[]))) σ))
section
variable(L:hQ P)
instance(n:Int):Decidable (fits n):=by unfold fits;infer_instance
def vf(op:BinOp)(kd:IntKind)(a b:Int):Option Value:=
 match op,kd with
 |.add,.i64=>if fits (a+b)then some (.int .i64 (a+b))else none
 |.sub,.i64=>if fits (a-b)then some (.int .i64 (a-b))else none
 |.mul,.i64=>if fits (a*b)then some (.int .i64 (a*b))else none
 |.eql,_=>some (.bool (a==b))
 |.neq,_=>some (.bool (a !=b))
 |.lss,_=>some (.bool (decide (a<b)))
 |.leq,_=>some (.bool (decide (a<=b)))
 |.gtr,_=>some (.bool (decide (a>b)))
 |.geq,_=>some (.bool (decide (a>=b)))
 |.shl,_=>if 0<=b then some (.int kd (kd.wrap (a*2 ^ (min b.toNat kd.bits))))else none
 |.shr,_=>if 0<=b then some (.int kd (a.fdiv (2 ^ (min b.toNat kd.bits))))else none
 |op,kd=>uX op kd a b
theorem zf{op:BinOp}{kd:IntKind}{a b:Int}{v:Value}{R:Value->Prop}(h:vf op kd a b=some v)(c:R v):pY op kd a b R:=by
 unfold vf at h;unfold pY;split at h
 . grind
 . grind
 . grind
 . simp_all
 . simp_all
 . simp_all
 . simp_all
 . simp_all
 . simp_all
 . simp_all
 . simp_all
 simp_all
def tZ(mu:List Nat)(o:Oper)(env:Env):Option AV:=
 match o.op with
 |.move x|.assign x=>some (au env x)
 | .pick c a b=>match au env c with
   |.lit (.bool x)=>some (if x then au env a else au env b)
   |_=>none
 |.box _ x=>if(match o.dst with|some d=>mu.contains d|none=>false)=true then none else if(au env x).cells.all AV.flat=true then some (.cp (au env x) 0)else none
 | .load t p=>match L.tt t,au env p with
   |some i,.cp v off=>cy v.cells off i.size i.agg
   |some i,.kp _ l hole off=>Mm l hole off i.size i.agg
   |_,_=>none
 | .fieldAddr s x j=>match L.tt s with
   | some ⟨.struct,_,_,_,jc⟩=>(match jc[j]? with
     |some f=>if f.2.1≠0 then qu (au env x) f.1 else none
     |none=>none)
   |_=>none
 | .field s x j=>match L.tt s,au env x with
   | some ⟨.struct,_,_,_,jc⟩,.agg l=>(match jc[j]? with
     |some f=>(match L.tt f.2.2 with|some n=>cy l f.1 n.size n.agg|none=>none)
     |none=>none)
   |_,_=>none
 | .indexAddr t x h=>match L.tt t with
   | some ⟨.slice e,_,_,_,_⟩=>(match L.tt e,au env x,au env h with
     |some g,.sl q es _,.lit (.int _ z)=>if q=g.size/\0<=z then(es[z.toNat]?).map (λa=>.cp a 0)else none
     |some g,.kB b off len _,.lit (.int _ z)=>if 0<=z/\z<len then some (.ref b (off+z.toNat*g.size))else none
     |_,_,_=>none)
   | some ⟨.array k e,_,_,_,_⟩=>(match L.tt e,au env h with
     |some g,.lit (.int _ z)=>if 0<=z/\z<k then qu (au env x) (z.toNat*g.size)else none
     |_,_=>none)
   |_=>none
 | .index t x h=>match L.tt t with
   | some ⟨.array k e,_,_,_,_⟩=>(match L.tt e,au env x,au env h with
     |some g,.agg l,.lit (.int _ z)=>if 0<=z/\z<k then cy l (z.toNat*g.size) g.size g.agg else none
     |_,_,_=>none)
   |_=>none
 | .binOp op t x y _=>match L.tt t with
   | some ⟨.int _,_,_,_,_⟩=>(match au env x,au env y with
     |.lit (.int kd a),.lit (.int m b)=>if kd=m\/op=.shl\/op=.shr then(vf op kd a b).map .lit else none
     |_,_=>none)
   |_=>none
 | .unOp .not _ x=>match au env x with
   |.lit (.bool b)=>some (.lit (.bool !b))
   |_=>none
 | .convert s t x=>match L.tt s,L.tt t,au env x with
   |some ⟨.int _,_,_,_,_⟩,some ⟨.int kd,_,_,_,_⟩,.lit (.int _ a)=>some (.lit (.int kd (kd.wrap a)))
   |_,_,_=>none
 | .makeInterface t x=>match L.tt t with
   |some i=>if i.kind≠.iface then some (.kD t (au env x))else none
   |none=>none
 |.makeFunc f fs cs=>some (.fn f (fs.toList.map (au env)) (cs.toList.map (au env)))
 | .extract x j=>match au env x with
   |.bp l=>l[j]?
   |_=>none
 | .nilCheck x=>match au env x with
   |.cp v off=>some (.cp v off)
   |.ref b off=>some (.ref b off)
   |.kp b l hole off=>some (.kp b l hole off)
   |_=>none
 | .call c=>match c.callee,c.args.toList with
   | .builtin .len,[x]=>(match c.argTypes[0]? with
     | some t=>(match L.tt t with
       | some ⟨.slice _,_,_,_,_⟩=>(match au env x with
         |.sl _ es _=>some (.lit (.int .i64 es.length))
         |.lit (.slice none 0 0)=>some (.lit (.int .i64 0))
         |.kB _ _ len _=>some (.lit (.int .i64 len))
         |_=>none)
       |_=>none)
     |none=>none)
   |_,_=>none
 |_=>none
theorem vg{mu:List Nat}{o:Oper}{env:Env}{a:AV}(h:tZ L mu o env=some a):(∀c,o.op≠.defer c)/\C2 P o env a:=by
 have key:qA L o=true/\∀(K:AV->aa->Prop) σ,K a σ->QN L mu o env σ K (λ_ _=>False):=by
  unfold tZ at h;unfold qA QN;split at h
  . simp_all
  . simp_all
  . next c x y b=>
    simp only[b]
    grind
  . next t x b=>
    simp only[b]
    grind
  . next t p b=>
    simp only[b];split at h
    . simp_all
    . simp_all
    . cases h
  . next s x j b=>
    simp only[b]
    grind
  . next s x j b=>
    simp only[b]
    grind
  . next t x n b=>
    simp only[b];split at h
    . next e g i l m d=>
      simp only[d]
      grind
    . next k e g i l m d=>
      simp only[d]
      grind
    . cases h
  . next t x n b=>
    simp only[b];split at h
    . grind
    . cases h
  . next op t x y E b=>
    simp only[b];split at h
    . next F g i l m d=>
      simp only[d];split at h
      . next kd u q v r w=>
        simp only[r,w];split at h
        . next z=>obtain⟨y,A,G⟩:=Option.map_eq_some_iff.1 h;refine⟨by simp_all,λK σ H=>⟨z,zf A (by simp_all)⟩⟩
        . cases h
      . cases h
    . cases h
  . next t x b=>
    simp only[b]
    grind
  . next s t x b=>
    simp only[b]
    grind
  . next t x b=>
    simp only[b]
    grind
  . simp_all
  . next x j b=>
    simp only[b]
    grind
  . next x b=>
    simp only[b]
    grind
  . next c b=>
    simp only[b];split at h
    . next x B C=>
      simp only[B,C]
      grind
    . cases h
  . cases h
 refine⟨λc e=>?_,λσ=>xW L key.1 (key.2 (λD f=>D=a/\f=σ) σ ⟨rfl,rfl⟩)⟩
 simp_all
def vh(o:Oper)(env:Env)(σ:aa):Option AV:=
 match o.op with
 | .load t p=>match L.tt t with
   |some i=>px i σ (au env p)
   |none=>none
 |_=>none
theorem s9{o:Oper}{env:Env}{σ:aa}{a:AV}(h:vh L o env σ=some a):(∀c,o.op≠.defer c)/\qD P o env σ a:=by
 unfold vh at h;split at h
 . next t p b=>
   split at h
   . next i d=>exact⟨λc e=>(by simp_all),za L b d h ⟨rfl,rfl⟩⟩
   . cases h
 . cases h
def iQ(mu:List Nat)(ops:Array Oper)(n:Nat)(lt:Bool)(σ:aa):List Nat->Env->(Env->Prop)->Prop
 |[],env,K=>K env
 | i :: S,env,K=>match ops[i]? with
   | some o=>Oper.ok n o=true/\o.dst.isSome=true/\pZ ops n env o (match tZ L mu o env with
      |some a=>iQ mu ops n lt σ S (aX env o.dst a) K
      | none=>lt=true/\(match vh L o env σ with
        |some a=>iQ mu ops n lt σ S (aX env o.dst a) K
        |none=>False)) (iQ mu ops n lt σ S (aX env o.dst (.lit (.tuple #[]))) K)
   |none=>False
def ascending:List Nat->Bool
 |i::j::l=>Nat.blt i j && ascending (j::l)
 |_=>true
theorem nR{i:Nat}:∀{l:List Nat},ascending (i::l)=true->ascending l=true/\∀j∈l,i<j
 |[],_=>⟨rfl,λ_ h=>by cases h⟩
 | a::l,h=>by
   simp only[ascending,Bool.and_eq_true,Nat.blt_eq]at h;obtain⟨c,b⟩:=h;have d:=nR b
   grind
theorem vi{mu rest:List Nat}{σ:aa}{lt:Bool}(m:List Nat)(A:kj ops rest m=true)(l:lt=true->∀i∈m,late ops rest m i=true):∀(S:List Nat) (env:Env) (K:Env->Prop),ascending S=true->(∀i∈S,i∈m/\i∈rest)->iQ L mu ops n lt σ S env K ->
 ∃f,K f/\(∀i∈S,zc P ops n rest m f σ i)/\∀t,(∀i∈S,∀o,ops[i]?=some o->o.dst≠some t)->f t=env t
 |[],env,K,_,_,h=>⟨env,h,λ_ U=>(by cases U),λ_ _=>rfl⟩
 | i :: S, env,K,B,p,h=>by
   obtain⟨B,V⟩:=nR B;unfold iQ at h;split at h
   . next o w=>
     obtain⟨C,D,h⟩:=h;obtain⟨d,hd⟩:=Option.isSome_iff_exists.1 D
     have main:∀a,iQ L mu ops n lt σ S (aX env o.dst a) K->((bK ops n env o/\(∀c,o.op≠.defer c)/\(C2 P o env a\/(late ops rest m i=true/\qD P o env σ a)))\/(kH ops n env o/\a=.lit (.tuple #[])))->∃f,K f/\(∀j∈i::S,zc P ops n rest m f σ j)/\∀t,(∀j∈i::S,∀o,ops[j]?=some o->o.dst≠some t)->f t=env t:=by
      intro a W q;obtain⟨f,X,h2,E⟩:=vi m A l S _ K B (λj k=>p j (by simp[k])) W
      have g:∀t∈dh ops o,f t=env t:=λt F=>by
       have G:∀j∈S,∀y,ops[j]?=some y->y.dst≠some t:=λj k y s u=>by
        obtain⟨Y,_⟩:=je A (p i (by simp)).2 (p j (by simp[k])).2 w s u
        grind
       rw[E t G,jw];by_cases H:o.dst=some t
       . obtain⟨Y,_⟩:=je A (p i (by simp)).2 (p i (by simp)).2 w w H
         grind
       grind
      have r:f d=a:=by
       rw[E d (λj k y s u=>by
        obtain⟨_,c2⟩:=je A (p i (by simp)).2 (p j (by simp[k])).2 w s u
        grind),jw,if_pos hd]
      refine⟨f,X,λj k=>?_,λt F=>?_⟩
      . rcases List.mem_cons.1 k with rfl|k
        . refine⟨o,w,C,?_⟩
          rcases q with⟨q,I,J⟩|⟨q,rfl⟩
          . refine .inl ⟨q.congr g,d,hd,I,?_⟩
            rw[r];have R:∀σ,aJ P o env σ (λM v=>M=a/\v=σ) (λ_ _=>False)->aJ P o f σ (λM v=>M=a/\v=σ) (λ_ _=>False):=λσ h=>h.congr λx T=>nQ λt e=>g t (mem_reads (by grind))
            exact J.imp (λh σ=>R σ (h σ)) (λh=>⟨h.1,R σ h.2⟩)
          . exact .inr ⟨q.congr g,d,hd,r⟩
        grind
      . rw[E t (λj k=>F j (by simp[k])),jw,if_neg (F i (by simp) o w)]
     rcases qB h with⟨q,h⟩|⟨j,b,x,Z,y,hg,k,N,O,T,Q,h⟩
     . split at h
       . next a z=>exact main a h (.inl ⟨q,(vg L z).1,.inl (vg L z).2⟩)
       . obtain⟨hl,h⟩:=h
         split at h
         . next a z=>exact main a h (.inl ⟨q,(s9 L z).1,.inr ⟨l hl i (p i (by simp)).1,(s9 L z).2⟩⟩)
         grind
     . exact main (.lit (.tuple #[])) h (.inr ⟨⟨j,b,x,Z,y,hg,k,N,O,T,Q⟩,rfl⟩)
   simp_all
theorem Any.hoist(mu:List Nat)(S:List Nat){done rest:List Nat}{env:Env}{σ:aa}{R:Env->aa->Prop}(hd:∀i∈rest,i∉done)(j:∀i∈S,i∈rest)(p:∀i∈rest,(ops[i]?).isSome=true)(q:ascending S=true)(k:kj ops rest S=true){lt:Bool}(c:lt=true->∀i∈S,late ops rest S i=true)
 (h:iQ L mu ops n lt σ S env (λb=>Any P m ops n Kp (S++done) (rest.filter λi=>!S.contains i) b σ R)):Any P m ops n Kp done rest env σ R:=by
 intro l d f e;obtain⟨b,r,s,u⟩:=vi L S k c S env _ q (λi a=>⟨a,j i a⟩) h
 refine bu.hoist k l done env b σ (λi a=>(e i).1 a) d (λi a=>hd i ((e i).1 a)) f (λi a=>Option.isSome_iff_exists.1 (p i ((e i).1 a))) (λi _ g=>s i g)
  (λt v=>u t λi a o w=>v i ((e i).2 (j i a)) a o w) ?_
 refine r _ (iB.sub (λi=>!S.contains i) l done (S++done) d (λi a=>by simp[a]) (λi _ x=>by simp_all) (λi a x=>?_) f) (f.filter _) (λi=>by simp_all)
 simp_all
def zg(ops:Array Oper)(done rest S:List Nat):Bool:=(rest.all λi=>!done.contains i && (ops[i]?).isSome) && (S.all λi=>rest.contains i) && ascending S && kj ops rest S
theorem Any.take(mu:List Nat)(S:List Nat){done rest:List Nat}{env:Env}{σ:aa}{R:Env->aa->Prop}(lt:Bool)(d:zg ops done rest S=true)(a:lt=true->(S.all λi=>late ops rest S i)=true)
 (h:iQ L mu ops n lt σ S env (λb=>Any P m ops n Kp (S++done) (rest.filter λi=>!S.contains i) b σ R)):Any P m ops n Kp done rest env σ R:=by
 simp only[zg,Bool.and_eq_true,List.all_eq_true]at d;obtain⟨⟨⟨f,k⟩,g⟩,j⟩:=d;exact Any.hoist L mu S (λi c=>by simp_all) (λi c=>by simp_all) (λi c=>(f i c).2) g j (λe i c=>List.all_eq_true.1 (a e) i c) h
end
end
attribute [simp] iQ tZ vh vf
section
variable{P:Program}{m:Mo}{n:Nat}{ops:Array Oper}{Kp:AV->aa->Prop}
theorem cE.mono{R c:Env->aa->Prop}(b:∀env σ,R env σ->c env σ):∀(l:List Nat) (env:Env) (σ:aa),cE P m ops n Kp l env σ R->cE P m ops n Kp l env σ c
 |[],env,σ,h=>b _ _ h
 |i::l,env,σ,⟨o,d,e,f⟩=>⟨o,d,e,f.imp (λh=>⟨h.1,h.2.mono λa g=>cE.mono b l _ _⟩) (λh=>⟨h.1,cE.mono b l _ _ h.2⟩)⟩
theorem iQ.mono(L:hQ P){mu:List Nat}{lt:Bool}{σ:aa}{K c:Env->Prop}(b:∀env,K env->c env):∀{S:List Nat}{env:Env},iQ L mu ops n lt σ S env K->iQ L mu ops n lt σ S env c
 |[],env,h=>b _ h
 | i :: S,env,h=>by
   unfold iQ at h ⊢;split at h
   . next o d=>
     try simp only[d]
     refine⟨h.1,h.2.1,?_⟩;have h:=h.2.2;unfold pZ at h ⊢
     have main:∀{x:Option AV}{y:Option AV},(match x with|some a=>iQ L mu ops n lt σ S (aX env o.dst a) K|none=>lt=true/\(match y with|some a=>iQ L mu ops n lt σ S (aX env o.dst a) K|none=>False)) ->
      (match x with|some a=>iQ L mu ops n lt σ S (aX env o.dst a) c|none=>lt=true/\(match y with|some a=>iQ L mu ops n lt σ S (aX env o.dst a) c|none=>False)):=by
      intro x y h;cases x with
      |some a=>exact iQ.mono L b h
      | none=>
        refine⟨h.1,?_⟩;cases y with
        |some a=>exact iQ.mono L b h.2
        |none=>exact h.2
     split at h
     . exact main h
     . split at h
       . refine⟨h.1,?_⟩
         have h:=h.2;split at h
         . exact⟨λe=>main (h.1 e),λe=>iQ.mono L b (h.2 e)⟩
         . exact iQ.mono L b h
         . exact h
       . exact h
   . exact h
inductive iD where
 |done
 |take (S:List Nat) (lt:Bool) (p:iD)
 |one (i:Nat) (p:iD)
 |both (i:Nat) (p q:iD)
structure Entry where
 id:Nat
 Tt:iD
def eh(ops:Array Oper):iD->List Nat->List Nat->List Nat->Bool
 |.done,_,_,rest=>rest.isEmpty
 |.take S lt p,ex,done,rest=>ex.isEmpty && zg ops done rest S && (!lt||S.all λi=>late ops rest S i) && eh ops p [] (S++done) (rest.filter λi=>!S.contains i)
 |.one i p,ex,done,rest=>rest.contains i && (rest.all λj=>!done.contains j) && (rest.all λj=>j==i||ex.contains j||(rest.any λx=>jd ops x j)) && eh ops p [] (i::done) (rest.filter (· !=i))
 |.both i p q,ex,done,rest=>rest.contains i && eh ops p [] (i::done) (rest.filter (· !=i)) && eh ops q (i::ex) done rest
def qE(ops:Array Oper)(e:Entry):Bool:=oJ ops && eh ops e.Tt [] [] (List.range ops.size)
def Tu(P:Program)(m:Mo)(ops:Array Oper)(n:Nat)(Kp:AV->aa->Prop)(ex done rest:List Nat)(env:Env)(σ:aa)(R:Env->aa->Prop):Prop:=∀l,iB ops done l->l.Nodup->(∀i,i∈l↔i∈rest)->(∀i a,l=i::a->i∉ex)->cE P m ops n Kp l env σ R
def gy(P:Program)(m:Mo)(ops:Array Oper)(n:Nat)(Kp:AV->aa->Prop)(p:iD)(env:Env)(σ:aa)(R:Env->aa->Prop):Prop:=∀ex done rest,eh ops p ex done rest=true->Tu P m ops n Kp ex done rest env σ R
theorem Il{i:Nat}{l rest:List Nat}(a:(i::l).Nodup)(b:∀j,j∈i::l↔j∈rest)(j:Nat):j∈l↔j∈rest.filter (· !=i):=by grind
theorem cE.Im{i:Nat}{l ex done rest:List Nat}{p:iD}{env:Env}{σ:aa}{R:Env->aa->Prop}(c:iB ops done (i::l))(b:(i::l).Nodup)(d:∀j,j∈i::l↔j∈rest)
 (e:eh ops p [] (i::done) (rest.filter (· !=i))=true) (h:iC P m ops n Kp i env σ (λenv σ=>gy P m ops n Kp p env σ R)):cE P m ops n Kp (i::l) env σ R:=by
 have next:∀env σ,gy P m ops n Kp p env σ R->cE P m ops n Kp l env σ R:=λenv σ h=>h [] _ _ e l c.2.2 (List.nodup_cons.1 b).2 (Il b d) (λ_ _ _ h=>by cases h)
 obtain⟨o,f,g,k⟩:=h;exact⟨o,f,g,k.imp (λh=>⟨h.1,h.2.mono λa q=>next _ _⟩) (λh=>⟨h.1,next _ _ h.2⟩)⟩
theorem gy.done{env:Env}{σ:aa}{R:Env->aa->Prop}(h:R env σ):gy P m ops n Kp .done env σ R:=λex done rest a l _ _ b _=>by
 simp only[eh,List.isEmpty_iff]at a;subst a;cases l with
 |nil=>exact h
 |cons i l=>exact absurd ((b i).1 (by simp)) (by simp)
theorem gy.take(L:hQ P)(mu:List Nat){S:List Nat}{lt:Bool}{p:iD}{env:Env}{σ:aa}{R:Env->aa->Prop}(h:iQ L mu ops n lt σ S env (λd=>gy P m ops n Kp p d σ R)):gy P m ops n Kp (.take S lt p) env σ R:=by
 intro ex done rest f;simp only[eh,Bool.and_eq_true]at f;obtain⟨⟨⟨j,g⟩,k⟩,i⟩:=f;have:=Any.take (m:=m) (Kp:=Kp) (R:=R) L mu S lt g (λe=>by simp_all) (iQ.mono L (λd h=>λl a b c=>h [] _ _ i l a b c (λ_ _ _ h=>by cases h)) h);exact λl a b c _=>this l a b c
theorem gy.one{i:Nat}{p:iD}{env:Env}{σ:aa}{R:Env->aa->Prop}(h:iC P m ops n Kp i env σ (λenv σ=>gy P m ops n Kp p env σ R)):gy P m ops n Kp (.one i p) env σ R:=by
 intro ex done rest d l e g f r;simp only[eh,Bool.and_eq_true,List.all_eq_true,Bool.or_eq_true,beq_iff_eq,List.any_eq_true]at d;obtain⟨⟨⟨s,hd⟩,k⟩,o⟩:=d;have q:i∈rest:=by simp_all
 cases l with
 |nil=>simp_all
 | cons j l=>
   have a:j∈rest:=(f j).1 (by simp)
   have b:j=i:=by
    rcases k j a with(h|h)|⟨x,c,h⟩
    . exact h
    . simp_all
    . have:=hd x c
      exact absurd (e.1 x h) (by simp_all)
   subst b;exact cE.Im (ex:=ex) e g f o h
theorem gy.both{i:Nat}{p q:iD}{env:Env}{σ:aa}{R:Env->aa->Prop}(h:iC P m ops n Kp i env σ (λenv σ=>gy P m ops n Kp p env σ R))(g:gy P m ops n Kp q env σ R):gy P m ops n Kp (.both i p q) env σ R:=by
 intro ex done rest b l c d f s;simp only[eh,Bool.and_eq_true]at b;obtain⟨⟨t,k⟩,o⟩:=b;have r:i∈rest:=by simp_all
 cases l with
 |nil=>simp_all
 | cons j l=>
   by_cases a:j=i
   . subst a
     exact cE.Im (ex:=ex) c d f k h
   . exact g _ _ _ o _ c d f λx u e=>by simp_all
theorem pD{id:Nat}:∀{k k':List Item},exitTo id k=some k'->∀x∈k',x∈k
 |[],k',h=>by simp_all
 | i::k,k',h=>by
   have again:exitTo id k=some k'->∀x∈k',x∈i::k:=λh x a=>List.mem_cons_of_mem _ (pD h x a)
   cases i<;>simp only[exitTo]at h<;>first|exact again h|skip
   grind
end
section
variable{P:Program}(L:hQ P)
def mS(fn:Func)(k:Nat):Bool:=Nat.ble k fn.ntmps && fn.results.toList.all (ResultVar.ok fn.ntmps)
end
attribute [simp] List.find?
theorem jx{k:ai}{O:aj}{r:Nat}{c:Array Value}{e:TypeId}{x:Nat × Nat}(p:O r=some (.obj (.cells c e x))):jR k O (k.dQ r (e,c.size)) O:=λw h=>by
 have t:=h.obj _ _ p;have g:w.shape? r=some (e,c.size):=by simp[World.shape?,t]
 refine⟨⟨h.apart,h.cell,λb s hb=>?_,h.obj,λb n hb=>?_,λb n hb=>?_⟩,⟨⟨λ_ _ _ h=>h,λb s d=>?_⟩,Nat.le_refl _,λ_ _ _=>rfl,λ_ _ _ _ c _ h=>⟨c,h,rfl,λ_ _=>rfl⟩,λ_ _ _ _ c _ h=>⟨c,h,rfl,λ_ _=>rfl⟩,λ_ _=>rfl,λb x u=>.inl ⟨x,u,.refl x⟩,λb i v y=>.inl y,λb s d=>?_,by simp,rfl,rfl,rfl,by simp,λ_ f h=>⟨f,h⟩⟩⟩
 . by_cases a:b=r
   . subst a;simp[ai.dQ]at hb;simp_all
   . exact h.sh b s (by simpa[ai.dQ,a]using hb)
 . obtain⟨j,l,m,o⟩:=h.tail b n hb
   refine⟨j,l,m,?_⟩;have:b≠r:=λq=>by simp_all
   simpa[ai.dQ,this]using o
 . obtain⟨j,l,m,o⟩:=h.part b n hb
   refine⟨j,l,m,?_⟩;have:b≠r:=λq=>by simp_all
   simpa[ai.dQ,this]using o
 . by_cases a:b=r
   . subst a
     have:=h.sh _ _ d;rw[g]at this;cases this;simp[ai.dQ]
   . simpa[ai.dQ,a]using d
 . by_cases a:b=r
   . simp_all
   . exact .inl (by simpa[ai.dQ,a]using d)
section
variable{P:Program}{m:Mo}{Q:ai->aj->Goroutine->Prop}{k:ai}{O:aj}{g:Goroutine}
theorem T.freeze{r n:Nat}{c:Array Value}{e:TypeId}(d:O r=some (.obj (.cells c e (0,0))))(b:g.status=.running)
 (h:∀k' O',k.Le k'->k'.sh r=some (e,c.size)->(∀j v,j<n->c[j]?=some v->k'.cell r j=some v)->O'=O.set r (.tail n)->T P m Q k' O' g):T P m Q k O g:=by
 by_cases a:∃w,Sat k O w
 . obtain⟨w,f⟩:=a
   have i:∀j,k.cell r j=none:=λj=>by
    cases q:k.cell r j with
    |none=>rfl
    |some v=>exact(f.apart _ _ _ q (.inl ⟨_,d⟩)).elim
   have o:=(jx (k:=k) d w f).2.le;have l:(k.dQ r (e,c.size)).Le ((k.dQ r (e,c.size)).uT r c n):=.uT i;exact .ghost (jx d) (.ghost (mQ (n:=n) d (by simp[ai.dQ])) (h _ _ (o.trans l) (by simp[ai.uT,ai.dQ]) (λj v p s=>by simp[ai.uT,p,s]) rfl))
 . exact .step (λ_ _ _=>False) b (λ_ _ _ h=>h.elim) λw f=>absurd ⟨w,f⟩ a
end
theorem iE:∀{es:List AV},(∀e∈es,e.cells=[e])->flatten es=es
 |[],_=>rfl
 | e::es,h=>by
   have c:=h e (by simp);have a:=iE (es:=es) λx b=>h x (by simp[b])
   simp only[flatten]at a ⊢
   simp_all
theorem V.AU{k:ai}{v:Value}{kk:Nat}{es:List AV}{sp:cQ}(h:V k v (.sl kk es sp)):(∃a,v=.slice a 0 0/\es=[]/\(sp=.any\/(sp=.exact/\a.isSome=true)))\/∃(b off cap N:Nat) (E:TypeId) (c:Nat->Value),v=.slice (some ⟨b,off,none⟩) es.length cap/\es.length<=cap/\k.sh b=some (E,N)/\off+cap*kk<=N/\(∀e∈es,e.cells.length=kk)/\
 (∀j,j<(flatten es).length->k.cell b (off+j)=some (c j)/\bu.flat (c j)=true)/\(∀(j:Nat) a,(flatten es)[j]?=some a->V k (c j) a)/\sp.fits b off es.length kk cap:=by
 cases h with
 |sl b off cap _ N E _ _ c d f g i l m n=>exact .inr ⟨b,off,cap,N,E,c,rfl,d,f,g,i,l,m,n⟩
 |slnil a _ _ h=>grind
inductive Fz(b:Nat)(l:List AV):AV->AV->Prop
 |refl (a:AV):Fz b l a a
 | sl (off cap kk:Nat) (es:List AV) (sp:cQ):es.length<=cap->off+cap*kk<=l.length->(∀e∈es,e.cells.length=kk)->(∀(j:Nat) a,(flatten es)[j]?=some a->l[off+j]?=some a)->(sp=.any\/(sp=.exact/\cap=es.length)) ->
    Fz b l (.kB b off es.length cap) (.sl kk es sp)
 |fn (f:Fn) (a1 a2 c1 c2:List AV):a1.length=a2.length->c1.length=c2.length->(∀(i:Nat) a a',a1[i]?=some a->a2[i]?=some a'->Fz b l a a')->(∀(i:Nat) a a',c1[i]?=some a->c2[i]?=some a'->Fz b l a a')->Fz b l (.fn f a1 c1) (.fn f a2 c2)
 |rows (es es':List AV) (sp:cQ):es.length=es'.length->(∀e∈es,e.cells=[e])->(∀e∈es',e.cells=[e])->(∀(i:Nat) a a',es[i]?=some a->es'[i]?=some a'->Fz b l a a')->Fz b l (.sl 1 es sp) (.sl 1 es' sp)
 |cp (base off:Nat) (v:AV):base+v.cells.length<=l.length->(∀(j:Nat) a,v.cells[j]?=some a->l[base+j]?=some a)->Fz b l (.ref b (base+off)) (.cp v off)
 |agg (l1 l2:List AV):l1.length=l2.length->(∀(i:Nat) a a',l1[i]?=some a->l2[i]?=some a'->Fz b l a a')->Fz b l (.agg l1) (.agg l2)
 |bp (l1 l2:List AV):l1.length=l2.length->(∀(i:Nat) a a',l1[i]?=some a->l2[i]?=some a'->Fz b l a a')->Fz b l (.bp l1) (.bp l2)
def zh(k:ai)(b:Nat)(E:TypeId)(l:List AV):Prop:=k.sh b=some (E,l.length)/\∀(j:Nat) a,l[j]?=some a->∃u,k.cell b j=some u/\V k u a/\bu.flat u=true
theorem Fz.sound{k:ai}{b:Nat}{E:TypeId}{l:List AV}{a a':AV}(h:Fz b l a a')(o:zh k b E l):∀{v:Value},V k v a->V k v a':=by
 induction h with
 |refl a=>simp_all
 | sl off cap T es sp g n p r s=>
   intro v d;cases d
   exact V.ofRow g o.1 n p (λj a q=>o.2 _ _ (r j a q)) (by
    rcases s with rfl|⟨rfl,s⟩
    . trivial
    . exact s)
 | rows es t sp g n p _ z=>
   intro v d;have f1:=iE n;have U:=iE p;rcases d.AU with⟨W,rfl,rfl,F⟩|⟨G,off,cap,N,H,c,rfl,X,I,J,Y,A,K,Z⟩
   . grind
   . rw[f1]at A K
     rw[g];refine .sl G off cap 1 N H t sp c (by omega) I J (λe he=>by simp_all) (λj B=>A j (by simp_all)) (λj a q=>?_) (by simp_all)
     grind
 | cp base off x hlen g=>
   intro v d;cases d;refine .cp b base off _ _ x (λj=>(k.cell b (base+j)).getD undef) o.1 hlen (λj B=>?_) (λj a q=>?_)
   . obtain⟨u,n,p,r⟩:=o.2 _ _ (g j x.cells[j] (by simp[B]))
     simp_all
   . obtain⟨u,n,p,r⟩:=o.2 _ _ (g j a q)
     simp_all
 | fn f a1 L c1 M g n _ _ O P=>
   intro v d;cases d with
   | fn _ Q R _ _ C D g3 g4=>
     refine .fn f Q R L M (by omega) (λi u a' w m=>?_) (by omega) (λi u a' w m=>?_)
     . grind
     grind
 | agg S y g _ z=>
   intro v d;cases d with
   | agg c _ C D=>
     refine .agg c y (by omega) λi u a' w m=>?_
     grind
 | bp S y g _ z=>
   intro v d;cases d with
   | bp c _ C D=>
     refine .bp c y (by omega) λi u a' w m=>?_
     grind
def FP(b:Nat)(l:List AV)(σ σ':aa):Prop:=∀c y,σ' c=some y->c≠b/\(σ c=some y\/∃d e,σ c=some (.cells d)/\y=.cells e/\d.length=e.length/\∀(i:Nat) a f,d[i]?=some a->e[i]?=some f->Fz b l a f)
theorem FP.del(b:Nat)(l:List AV)(σ:aa):FP b l σ (σ.del b):=λc y h=>by
 unfold aa.del at h
 simp_all
theorem FP.sound{k:ai}{O:aj}{b:Nat}{E:TypeId}{l:List AV}{σ σ':aa}(h:FP b l σ σ')(t:zh k b E l)(f:Rel k O σ)(x:Own):Rel k (O.set b x) σ':=⟨λc y g j=>by
 obtain⟨d,h⟩:=h c y g;rcases h with h|⟨m,q,n,rfl,r,u⟩
 . obtain⟨z,o,a⟩:=f.1 c y h j
   exact⟨z,by simp[aj.set,d,o],a⟩
 . obtain⟨z,o,a⟩:=f.1 c _ n (by simp)
   cases a with
   | cells w e _ F A B=>
     refine⟨_,by simp only[aj.set,d,if_false];exact o,.cells w e q (by omega) (λi v C D p=>?_) B⟩;have s:i<m.length:=by grind
     exact(u i m[i] C (by simp[s]) p).sound t (A i v _ D (by simp[s])),λc y g j=>by
 obtain⟨d,h⟩:=h c _ g;rcases h with h|⟨m,q,_,h,_⟩
 . obtain⟨n,r⟩:=f.2 c y h j
   exact⟨by simp[aj.set,d,n],r⟩
 simp_all⟩
section
variable{P:Program}{m:Mo}
theorem T.zi{Q:ai->aj->Goroutine->Prop}{k:ai}{O:aj}{g:Goroutine}{σ:aa}{b:Nat}{l:List AV}(q:Rel k O σ)(hb:σ b=some (.cells l))(f:g.status=.running)
 (h:∀k' O',k.Le k'->(∀v a a',V k v a->Fz b l a a'->V k' v a')->(∀σ',FP b l σ σ'->Rel k' O' σ')->T P m Q k' O' g):T P m Q k O g:=by
 obtain⟨y,s,t⟩:=q.1 b _ hb (by simp);cases t with
 | cells c e _ u w x=>
   refine T.freeze (n:=c.size) s f λk' O' d o z p=>?_
   have r:zh k' b e l:=⟨by rw[o,u],λj a A=>by
    have i:j<c.size:=by grind
    exact⟨c[j],z j _ i (by simp[i]),(w j _ a (by simp[i]) A).mono d,x j _ (by simp[i])⟩⟩
   refine h k' O' d (λv a a' B C=>C.sound r (B.mono d)) λσ' D=>?_
   rw[p];exact D.sound r (q.mono d) _
theorem Go.freeze{fid n:Nat}{ro:Option Nat}{todo:List Item}{K:Exit->St->Prop}{env a:Env}{σ σ':aa}{D:List kF}{rc:Rec}(b:Nat)(l:List AV)(hb:σ b=some (.cells l))(d:∀t,Fz b l (env t) (a t))(g:FP b l σ σ')
 (h:Go P m fid n ro todo ⟨a,σ',D,rc⟩ K):Go P m fid n ro todo ⟨env,σ,D,rc⟩ K:=by
 intro Q k O tmps defs kind cs i e j;refine T.zi e.rel hb rfl λo p c q f=>?_
 exact h Q o p tmps defs kind cs i ⟨e.size,λt r=>q _ _ _ (e.env t r) (d t),f σ' g,e.ds.mono c,e.rc.mono c⟩ (j.mono c)
theorem Fz.upd{b:Nat}{l:List AV}{env:Env}{t:Nat}{a':AV}(h:Fz b l (env t) a')(u:Nat):Fz b l (env u) (env.upd t a' u):=by
 unfold Env.upd;split
 . simp_all
 . exact .refl _
inductive ml(KF:cJ->aa->Prop):cJ->aa->Prop
 |done {r:cJ}{σ:aa}:KF r σ->ml KF r σ
 |freeze {a a':AV}{σ σ':aa}(b:Nat) (l:List AV):σ b=some (.cells l)->Fz b l a a'->FP b l σ σ'->ml KF (.val a') σ'->ml KF (.val a) σ
 |lV {a a':AV}{σ:aa}:a.W a'->ml KF (.val a') σ->ml KF (.val a) σ
 |less {r:cJ}{σ σ':aa}:σ'.Le σ->ml KF r σ'->ml KF r σ
theorem aB.thaw{f:FuncId}{args:List AV}{σ:aa}{t:cJ->aa->Prop}(h:aB P m f args σ (ml t)):aB P m f args σ t:=by
 intro Q k O o c rest kind y z A I J
 have key:∀r i,ml t r i->∀e j g,k.Le e->Rel e j i->(match r with
  |.val a=>V e g a->T P m Q e j (ju kind c rest g)
  |.panic a=>V e g a->T P m Q e j (G (c.raise [⟨g,false,false⟩]) rest)):=by
  intro r i B;induction B with
  |@done r σ K=>grind
  | freeze b l hb C u _ p=>
    intro e j g n q v;refine T.zi q hb (by cases kind<;>rfl) λD E s w x=>?_
    exact p D E g (n.trans s) (x _ u) (w _ _ _ v C)
  |lV F _ p=>intro e j g n q v;exact p e j g n q (F _ _ v)
  |@less r σ i u _ p=>intro e j g n q;exact p e j g n (q.le u)
 exact h Q k O o c rest kind y z A (λe j g H i a b c d=>key _ _ d e j g a c b) (λe j g H i a b c d=>key _ _ d e j g a c b)
end
end Go.bu

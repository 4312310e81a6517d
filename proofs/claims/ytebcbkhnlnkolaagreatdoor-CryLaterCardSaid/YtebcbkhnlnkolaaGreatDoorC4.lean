import Derived.Orders
import Derived.Test.YtebcbkhnlnkolaaGreatDoorC3
set_option linter.all false
namespace Go.ck
open Go.Conc
def aJ.congr{P o env a σ K Kp}(h:aJ P o env σ K Kp)(d:∀x∈o.op.operands,ak a x=ak env x):aJ P o a σ K Kp:=λk O b e c=>h k O b (λx f=>by grind) c
def PZ(P:adT)(m:Mo)(o:Oper)(env:Env)(σ:ab)(R:adv)(Kp:adv):Prop:=
 (∃fo args d,o.op=.call ⟨.value fo,args,d⟩/\cq P m (ak env fo) (args.toList.map (ak env)) σ (λr b=>match r with|.val a=>R a b|.panic v=>Kp v b))\/
 ((∀c,o.op≠.defer c)/\aJ P o env σ R Kp)
def PZ.mono{P m o env σ R e Kp}(h:PZ P m o env σ R Kp)(f:∀a σ,R a σ->e a σ):PZ P m o env σ e Kp:=by
 rcases h with⟨fo,args,b,c,d⟩|⟨c,d⟩
 . refine .inl ⟨fo,args,b,c,d.mono λr g i=>?_⟩
   grind
 exact .inr ⟨c,d.mono f⟩
def PZ.congr{P m o env a σ R Kp}(h:PZ P m o env σ R Kp)(b:∀x∈o.op.operands,ak a x=ak env x):PZ P m o a σ R Kp:=by
 rcases h with⟨fo,args,c,d,e⟩|⟨d,e⟩
 . refine .inl ⟨fo,args,c,d,?_⟩
   have f:ak a fo=ak env fo:=b fo (by simp_all);have g:args.toList.map (ak a)=args.toList.map (ak env):=acf λx i=>b x (by simp_all)
   grind
 exact .inr ⟨d,e.congr b⟩
def lZ(ζ:adC)(n:Nat)(env:Env)(o:Oper):Prop:=∃j b x d a,o.guard=some (j,b)/\ζ[j]?=some a/\a.dst=some d/\d<n/\env d=.lit x/\US x b
def dh(P:adT)(m:Mo)(ζ:adC)(n:Nat)(Kp:adv):adL->Env->ab->adu->Prop
 |[],env,σ,R=>R env σ
 | i::l,env,σ,R=>∃o,ζ[i]?=some o/\Oper.ok n o=true/\
   ((bZ ζ n env o/\PZ P m o env σ (λa b=>dh P m ζ n Kp l (bp env o.dst a) b R) Kp)\/(lZ ζ n env o/\dh P m ζ n Kp l (bp env o.dst (.lit (.tuple #[]))) σ R))
section
variable{P:adT}{m:Mo}{ξ n:Nat}{ro:adD}{D:List wA}{rc:Rec}{K:adt}{k:adH}{ζ:adC}
def Go.sY{Kp}:∀  l   env   σ ,(∀v env σ,Kp v σ->K (.panic v) ⟨env,σ,D,rc⟩) ->
 dh P m ζ n Kp l env σ (λenv σ=>Go P m ξ n ro k ⟨env,σ,D,rc⟩ K)->Go P m ξ n ro (.inRegion ζ l::k) ⟨env,σ,D,rc⟩ K
 |[],env,σ,_,h=>.AB h
 | i :: l,env,σ,p,⟨o,q,f,h⟩=>by
   rcases h with⟨B,h⟩|⟨⟨j,b,x,d,R,C,E,hd,s,F,t⟩,h⟩
   . rcases h with⟨fo,args,G,u,w⟩|⟨u,w⟩
     . refine .call q u B f (w.mono λr c H=>?_)
       cases r with
       |val a=>exact Go.sY l _ c p H
       |panic v=>simp_all
     refine .op q B f u ?_;intro I O J A L;refine jL _ (w I O J A L) (λ_ _ _ ⟨v,M,N,Q,g,e,a,c,x,y,z⟩=>⟨v,M,N,Q,g,e,a,c,x,y,Go.sY l _ c p z⟩) (λ_ _ _ ⟨e,a,c,x,y,z⟩=>⟨e,a,c,x,y,p _ _ _ z⟩)
   exact .unwanted q C E hd s F t (Go.sY l _ σ p h)
def F0(P:adT)(o:Oper)(env:Env)(a:AV):Prop:=∀σ,aJ P o env σ (λc b=>c=a/\b=σ) (λ_ _=>False)
def sZ(P:adT)(o:Oper)(env:Env)(σ:ab)(a:AV):Prop:=aJ P o env σ (λc b=>c=a/\b=σ) (λ_ _=>False)
def jO(ζ:adC)(j i:Nat):Bool:=match ζ[i]? with|some o=>o.after.toList.any λe=>Region.binds .any e && e.on==j|none=>false
def dP(ζ:adC)(o:Oper):adL:=(o.op.operands.toList.filterMap fun|.tmp t=>some t|_=>none)++(match o.guard with|some (j,_)=>(match (ζ[j]?).bind (·.dst)with|some d=>[d]|none=>[])|none=>[])
def lM(ζ:adC)(μ S:adL):Bool:=
 μ.all fun i=>match ζ[i]? with
  |none=>false
  | some o=>
    μ.all λj=>match ζ[j]? with
     |none=>false
     | some a=>match a.dst with
       |none=>true
       | some d=>
         (if (dP ζ o).contains d then
           (if S.contains i then(if S.contains j then jO ζ j i && Nat.blt j i else jO ζ i j)
            else(if S.contains j then jO ζ j i else true))else true) &&
         (if S.contains i && i !=j && o.dst==some d then false else true)
def qR(ζ:adC):Bool:=(List.range ζ.size).all λi=>match ζ[i]? with|none=>false|some o=>o.after.toList.all λe=>!Region.binds .any e||Nat.blt e.on i
def xP{ζ}(h:qR ζ=true):∀i o,ζ[i]?=some o->∀e∈o.after,Region.binds .any e=true->e.on<i:=by
 intro i o b e d hb;have a:i<ζ.size:=(wS.1 b).1;have c:=aaD.1 h i (aaC.2 a);simp only[b]at c;have f:=aaD.1 c e (by simp_all)
 simp_all
def jP(ζ:adC):adL->adL->Prop
 |_,[]=>True
 |done,i::l=>(∀j,jO ζ j i=true->j∈done)/\i∉done/\jP ζ (i::done) l
def p9{env a x}(h:∀t,x=.tmp t->a t=env t):ak a x=ak env x:=by cases x<;>first|rfl|exact h _ rfl
def mem_reads{o}{t:Nat}(h:Operand.tmp t∈o.op.operands):t∈dP ζ o:=by unfold dP;refine KD.2 (.inl (List.mem_filterMap.2 ⟨.tmp t,by grind,rfl⟩))
def AH{o a}{j:Nat}{b}{d:Nat}(c:o.guard=some (j,b))(hj:ζ[j]?=some a)(hd:a.dst=some d):d∈dP ζ o:=by
 unfold dP
 simp_all
def bZ.congr{env a o}(h:bZ ζ n env o)(g:∀t∈dP ζ o,a t=env t):bZ ζ n a o:=by
 unfold bZ at h ⊢;cases c:o.guard with
 |none=>trivial
 |some p=>obtain⟨j,b⟩:=p;simp only[c]at h ⊢;obtain⟨i,d,e,f,k,l⟩:=h;exact⟨i,d,e,f,k,by rw[g d (AH c e f)];exact l⟩
def lZ.congr{env a o}(h:lZ ζ n env o)(i:∀t∈dP ζ o,a t=env t):lZ ζ n a o:=by obtain⟨j,b,x,d,k,f,g,hd,c,l,e⟩:=h;exact⟨j,b,x,d,k,f,g,hd,c,by rw[i d (AH f g hd)];exact l,e⟩
def kI  env   dst   a   t :bp env dst a t=if dst=some t then a else env t:=by
 cases dst with
 |none=>simp[bp]
 | some d=>
   by_cases h:t=d
   . simp_all
   simp[bp,Env.upd,h,wK h]
def late(ζ:adC)(μ S:adL)(i:Nat):Bool:=μ.all λj=>S.contains j||jO ζ i j
def BZ(P:adT)(ζ:adC)(n:Nat)(μ S:adL)(a:Env)(σ:ab)(i:Nat):Prop:=∃o,ζ[i]?=some o/\Oper.ok n o=true/\((bZ ζ n a o/\∃d,o.dst=some d/\(∀c,o.op≠.defer c)/\(F0 P o a (a d)\/(late ζ μ S i=true/\sZ P o a σ (a d))))\/(lZ ζ n a o/\∃d,o.dst=some d/\a d=.lit (.tuple #[])))
def km{μ S}(a:lM ζ μ S=true){i j o f}{d:Nat}(b:i∈μ)(c:j∈μ)(hi:ζ[i]?=some o)(hj:ζ[j]?=some f)(hd:f.dst=some d):
 (d∈dP ζ o->(i∈S->(j∈S->jO ζ j i=true/\j<i)/\(j∉S->jO ζ i j=true))/\(i∉S->j∈S->jO ζ j i=true))/\(i∈S->i≠j->o.dst≠some d):=by
 unfold lM at a;rw[aaD]at a;have g:=a i b;simp only[hi]at g;have h:=aaD.1 g j c;simp only[hj,hd,wL]at h;obtain⟨l,n⟩:=h;refine⟨λp=>?_,λk m q=>?_⟩
 . have e:(dP ζ o).contains d=true:=by grind
   rw[zR e]at l;refine⟨λk=>⟨λhj=>?_,λhj=>?_⟩,λk hj=>?_⟩
   . simp_all
   . simp_all
   simp_all
 simp_all
def hoist{μ S Kp R}(K:lM ζ μ S=true):
 ∀  l done   env b   σ ,(∀i∈l,i∈μ)->jP ζ done l->(∀i∈l,i∉done)->l.Nodup->(∀i∈l,∃o,ζ[i]?=some o) ->
  (∀i∈l,i∈S->BZ P ζ n μ S b σ i)->(∀t,(∀i∈l,i∈S->∀o,ζ[i]?=some o->o.dst≠some t)->b t=env t) ->
  dh P m ζ n Kp (l.filter λi=>!S.contains i) b σ R->dh P m ζ n Kp l env σ R
 | [],done,env,b,σ,_,_,_,_,_,_,T,h=>by
   have:b=env:=funext λt=>T t (λi hi=>by simp at hi)
   simp_all
 | i :: l, done,env,b,σ,c,ha,a8,q,r,U,T,h=>by
   obtain⟨a1,a2,a3⟩:=ha;obtain⟨o,E⟩:=r i (by simp);have V:i∉l:=(abX.1 q).1
   have s:∀t∈dP ζ o,b t=env t:=λt u=>T t λj f L Q w hd=>by
    obtain⟨c1,_⟩:=km K (c i (by simp)) (c j (by simp[f])) E w hd
    grind
   have F:∀x∈o.op.operands,ak env x=ak b x:=λx hx=>p9 λt e=>(s t (mem_reads (by grind))).symm
   have G:∀j∈l,j∉i::done:=λj f hm=>by grind
   by_cases H:i∈S
   . have W:(i::l).filter (λi=>!S.contains i)=l.filter λi=>!S.contains i:=by simp[H]
     rw[W]at h;obtain⟨o',A,B,C⟩:=U i (by simp) H;rw[E]at A;cases A
     have next:∀a d,o.dst=some d->b d=a->dh P m ζ n Kp l (bp env o.dst a) σ R:=λa d hd a9=>
      hoist K l (i::done) (bp env o.dst a) b σ (λj f=>c j (by simp[f])) a3 G (abX.1 q).2 (λj f=>r j (by simp[f])) (λj f=>U j (by simp[f])) (λt u=>by
       rw[kI,hd]
       grind) h
     rcases C with⟨C,d,hd,I,D⟩|⟨C,d,hd,f⟩
     . refine⟨o,E,B,.inl ⟨C.congr λt u=>(s t u).symm,.inr ⟨I,?_⟩⟩⟩
       have:=(show sZ P o b σ (b d)from D.elim (λh=>h σ) (λh=>h.2)).congr F;intro kk O ρ X hr;refine jL _ (this kk O ρ X hr) (λ_ _ _ ⟨v,hv,k2,O2,g,Y,a,k,x,y,e1,e2⟩=>⟨v,hv,k2,O2,g,Y,a,k,x,y,?_⟩) (λ_ _ _ ⟨_,_,_,_,_,z⟩=>z.elim)
       grind
     exact⟨o,E,B,.inr ⟨C.congr λt u=>(s t u).symm,next _ d hd f⟩⟩
   have W:(i::l).filter (λi=>!S.contains i)=i::l.filter λi=>!S.contains i:=by simp[H]
   rw[W]at h;obtain⟨o',A,B,C⟩:=h;rw[E]at A;cases A
   have next:∀a k,dh P m ζ n Kp (l.filter λi=>!S.contains i) (bp b o.dst a) k R->dh P m ζ n Kp l (bp env o.dst a) k R:=λa k h'=>
    hoist K l (i::done) (bp env o.dst a) (bp b o.dst a) k (λj f=>c j (by simp[f])) a3 G (abX.1 q).2 (λj f=>r j (by simp[f]))
     (fun j f L=>by
       obtain⟨Q,w,M,Z⟩:=U j (by simp[f]) L;have ad:j≠i:=λe=>V (e ▸ f)
       have p:∀t∈dP ζ Q,bp b o.dst a t=b t:=λt u=>by
        rw[kI];by_cases hd:o.dst=some t
        . obtain⟨c1,_⟩:=km K (c j (by simp[f])) (c i (by simp)) w E hd
          grind
        grind
       have N:∀d,Q.dst=some d->bp b o.dst a d=b d:=λd hd=>by
        rw[kI];by_cases a7:o.dst=some d
        . obtain⟨_,c2⟩:=km K (c j (by simp[f])) (c i (by simp)) w E a7
          grind
        grind
       refine⟨Q,w,M,?_⟩;rcases Z with⟨J,d,hd,I,D⟩|⟨J,d,hd,al⟩
       . refine .inl ⟨J.congr p,d,hd,I,.inl λσ=>?_⟩
         rw[N d hd];rcases D with D|⟨hl,_⟩
         . exact(D σ).congr λx hx=>p9 λt e=>p t (mem_reads (by grind))
         have:=aaD.1 hl i (c i (by simp))
         grind
       exact .inr ⟨J.congr p,d,hd,by grind⟩)
     (fun t u=>by
       rw[kI,kI]
       grind) h'
   rcases C with⟨C,h⟩|⟨C,h⟩
   . exact⟨o,E,B,.inl ⟨C.congr λt u=>(s t u).symm,(h.congr F).mono λa k=>next a k⟩⟩
   exact⟨o,E,B,.inr ⟨C.congr λt u=>(s t u).symm,next _ σ h⟩⟩
def jP.sub  p :∀  l done a ,jP ζ done l->(∀i∈done,i∈a)->(∀i∈l,p i=false->i∈a)->(∀i∈l,p i=true->i∉a)->l.Nodup->jP ζ a (l.filter p)
 |[],_,_,_,_,_,_,_=>trivial
 | i :: l,done,a,⟨h,o,f⟩,k,m,g,d=>by
   have n:i∉l:=(abX.1 d).1;by_cases e:p i=true
   . rw [List.filter_cons_of_pos e]
     refine⟨λj c=>k j (h j c),g i (by simp) e,?_⟩
     exact jP.sub p l (i::done) (i::a) f (λj c=>by
      grind) (λj c b=>by simp_all) (λj c b q=>by
      simp_all) (abX.1 d).2
   rw[List.filter_cons_of_neg e];exact jP.sub p l (i::done) a f (λj c=>by grind) (λj c b=>m j (by simp[c]) b) (λj c b=>g j (by simp[c]) b) (abX.1 d).2
def B0(g:∀i o,ζ[i]?=some o->∀e∈o.after,Region.binds .any e=true->e.on<i):∀  fuel t   listed   done ,listed.size=ζ.size->(∀i,i<ζ.size->(listed.getD i true=true↔i∈done)) ->
 ((List.range ζ.size).filter λi=>!listed.getD i true).length<=fuel ->
 jP ζ done (Region.linearise.go .any ζ fuel t listed [])/\(Region.linearise.go .any ζ fuel t listed []).Nodup/\(∀i∈Region.linearise.go .any ζ fuel t listed [],i∉done/\i<ζ.size)/\∀i,i<ζ.size->(i∈Region.linearise.go .any ζ fuel t listed []\/i∈done):=by
 intro fuel;induction fuel with
 | zero=>
   intro t listed done k hd y;have l:(List.range ζ.size).filter (λi=>!listed.getD i true)=[]:=List.eq_nil_of_length_eq_zero (by omega);unfold Region.linearise.go;refine⟨trivial,acY,λi a=>(by cases a),λi a=>.inr ((hd i a).1 ?_)⟩;have:=adh.1 l i (aaC.2 a)
   simp_all
 | succ fuel z=>
   intro t listed done k hd y;unfold Region.linearise.go;simp only[];generalize p:(List.range ζ.size).filter (λi=>!listed.getD i true && ((ζ[i]?).map (·.after.all λe=>!Region.binds .any e||listed.getD e.on false)).getD false)=rs
   have d:∀i,i∈rs↔i<ζ.size/\listed.getD i true=false/\∃o,ζ[i]?=some o/\∀e∈o.after,Region.binds .any e=true->listed.getD e.on false=true:=by
    intro i;rw[<-p,ace,aaC];refine and_congr_right λa=>?_
    rw[wL,acF];refine and_congr_right λ_=>?_
    have q:ζ[i]?=some ζ[i]:=abo a;rw[q];simp only[abx,abT,abn,acS,acF,kn,exists_eq_left']
    grind
   have A:∀j,j<ζ.size->listed.getD j false=listed.getD j true:=λj c=>by grind
   cases a:rs[t % rs.length]? with
   | none=>
     simp only[]
     have w:rs=[]:=by
      cases rs with
      |nil=>rfl
      | cons x xs=>
        have B:=List.getElem?_eq_none_iff.1 a;have K:t % (x::xs).length<(x::xs).length:=Nat.mod_lt _ (by simp);omega
     refine⟨trivial,acY,λi a=>(by cases a),?_⟩;intro i;induction i using Nat.strongRecOn with
     | ind i C=>
       intro a;refine .inr ((hd i a).1 ?_);cases D:listed.getD i true with
       |true=>rfl
       | false=>
         have:i∈rs:=(d i).2 ⟨a,D,ζ[i],abo a,λe l hb=>by
          have E:=g i ζ[i] (abo a) e l hb
          grind⟩
         grind
   | some i=>
     simp only[];rw[linearise_go_acc,List.reverse_singleton,adk];have r:=List.mem_of_getElem? a;obtain⟨s,F,o,q,m⟩:=(d i).1 r;have n:i∉done:=λh=>by grind
     have f:∀j,j<ζ.size->((listed.setIfInBounds i true).getD j true=if j=i then true else listed.getD j true):=λj c=>by
      by_cases b:j=i
      . subst b;rw[zR rfl];simp[k,c]
      rw[zA b];exact getD_set_ne true (wK b)
     obtain⟨G,H,u,I⟩:=z (t / rs.length) (listed.setIfInBounds i true) (i::done) (by grind) (λj c=>by
      rw[f j c];by_cases b:j=i
      . simp[b]
      grind) (by
      have J:(List.range ζ.size).filter (λj=>!(listed.setIfInBounds i true).getD j true)=((List.range ζ.size).filter (λj=>!listed.getD j true)).filter (· !=i):=by
       rw[List.filter_filter];refine abV λj c=>?_
       rw[f j (aaC.1 c)];by_cases b:j=i<;>simp[b]
      rw[J];have:(((List.range ζ.size).filter (λj=>!listed.getD j true)).filter (· !=i)).length<((List.range ζ.size).filter (λj=>!listed.getD j true)).length:=List.length_filter_lt_length_iff_exists.2 ⟨i,ace.2 ⟨aaC.2 s,by grind⟩,by simp⟩;omega)
     refine⟨⟨λj c=>?_,n,G⟩,abX.2 ⟨λh=>(u i h).1 (by simp),H⟩,λj c=>?_,λj c=>?_⟩
     . unfold jO at c
       rw[q]at c;obtain⟨e,l,hb⟩:=abz.1 c;simp only[wL,acm]at hb;have v:e∈o.after:=by simpa using l
       have B:=m e v hb.1
       grind
     . rcases aaM.1 c with e|e
       . grind
       exact⟨λh=>(u j e).1 (by simp[h]),(u j e).2⟩
     rcases I j c with h|h
     . exact .inl (by simp[h])
     rcases aaM.1 h with e|e
     . exact .inl (by simp[e])
     grind
def B1(a:∀i o,ζ[i]?=some o->∀e∈o.after,Region.binds .any e=true->e.on<i)  t :
 jP ζ [] (Region.linearise .any ζ t)/\(Region.linearise .any ζ t).Nodup/\(∀i,i∈Region.linearise .any ζ t↔i<ζ.size):=by
 obtain⟨b,c,d,f⟩:=B0 a ζ.size t (Array.replicate ζ.size false) [] (by simp) (λi g=>by simp[g]) (by grind);refine⟨b,c,λi=>⟨λh=>(d i h).2,λh=>?_⟩⟩;rcases f i h with h|h
 . exact h
 cases h
end
section
variable{P:adT}{m:Mo}{ξ n:Nat}{ro:adD}{D:List wA}{rc:Rec}{K:adt}{k:adH}{ζ:adC}{Kp:adv}
def Any(P:adT)(m:Mo)(ζ:adC)(n:Nat)(Kp:adv)(done μ:adL)(env:Env)(σ:ab)(R:adu):Prop:=∀l,jP ζ done l->l.Nodup->(∀i,i∈l↔i∈μ)->dh P m ζ n Kp l env σ R
def Go.draw{id}(j:P.follows .mixedOrders=true)(l:qR ζ=true){env σ}
 (h:Any P m ζ n (λv σ=>∀env,K (.panic v) ⟨env,σ,D,rc⟩) [] (List.range ζ.size) env σ (λenv σ=>Go P m ξ n ro k ⟨env,σ,D,rc⟩ K)):Go P m ξ n ro (.code (.region id ζ true)::k) ⟨env,σ,D,rc⟩ K:=by
 intro Q d O η θ τ cs o p q;refine .step (λr s g=>r=d/\s=O/\∃t,g=G ⟨ξ,η,.inRegion ζ (Region.linearise .any ζ t)::k,θ,.run,τ,ro⟩ (gJ rc cs)) rfl ?_ ?_
 . rintro _ _ _ ⟨rfl,rfl,t,rfl⟩
   obtain⟨u,y,A⟩:=B1 (xP l) t;have:=h _ u y (λi=>by grind);exact Go.sY (D:=D) (rc:=rc) _ env σ (λv env σ z=>z env) this _ _ _ η θ τ cs o p q
 intro w a;refine⟨G ⟨ξ,η,.inRegion ζ (Region.linearise .any ζ (w.tape w.drawn (.order ξ id)))::k,θ,.run,τ,ro⟩ (gJ rc cs),{w with drawn:=w.drawn+1},#[],d,O,?_,?_,?_,rfl,rfl,_,rfl⟩
 . simp[G,stepG,stepG.exec,choose,Sem.run,Question.forced,Question.cut,Region.schedule,j]
 . exact{le:=.refl _,size:=aaG _,keep:=λ_ _ _=>rfl,tail:=λb n _ _ c e h=>⟨c,h,rfl,λ_ _=>rfl⟩,part:=λb n _ _ c e h=>⟨c,h,rfl,λ_ _=>rfl⟩,shape:=λ_ _=>rfl,own:=λb x h=>.inl ⟨x,h,.refl x⟩,cell:=λ_ _ _ h=>.inl h,sh:=λ_ _ h=>.inl h,evs:=λe h=>by simp at h,tape:=rfl,output:=rfl,os:=rfl,low:=λe h=>by simp at h,tok:=λ_ f h=>⟨f,h⟩}
 exact⟨a.apart,a.cell,a.sh,a.obj,a.tail,a.part⟩
def jQ(P:adT)(m:Mo)(ζ:adC)(n:Nat)(Kp:adv)(i:Nat)(env:Env)(σ:ab)(R:adu):Prop:=
 ∃ o,ζ[i]?=some o/\Oper.ok n o=true/\
   ((bZ ζ n env o/\PZ P m o env σ (λa b=>R (bp env o.dst a) b) Kp)\/(lZ ζ n env o/\R (bp env o.dst (.lit (.tuple #[]))) σ))
section
variable(L:jJ P)
instance(n:Int):Decidable (fits n):=by unfold fits;infer_instance
def xQ(op:BinOp)(kd:IntKind)(a b:Int):adx:=
 match op,kd with
 |.add,.i64=>if fits (a+b)then some (.int .i64 (a+b))else none
 |.sub,.i64=>if fits (a-b)then some (.int .i64 (a-b))else none
 |.mul,.i64=>if fits (a*b)then some (.int .i64 (a*b))else none
 |.eql,_=>some (.bool (a==b))
 |.neq,_=>some (.bool (a !=b))
 |.lss,_=>some (.bool (decide (a<b)))
 |.leq,_=>some (.bool (decide (a<=b)))
 |.gtr,_=>some (.bool (decide (a>b)))
 |.geq,_=>some (.bool (decide (a>=b)))
 |.shl,_=>if 0<=b then some (.int kd (kd.wrap (a*2 ^ (min b.toNat kd.bits))))else none
 |.shr,_=>if 0<=b then some (.int kd (a.fdiv (2 ^ (min b.toNat kd.bits))))else none
 |op,kd=>pM op kd a b
def B2{op kd a b v R}(h:xQ op kd a b=some v)(c:R v):se op kd a b R:=by
 unfold xQ at h;unfold se;split at h
 . grind
 . grind
 . grind
 . simp_all
 . simp_all
 . simp_all
 . simp_all
 . simp_all
 . simp_all
 . simp_all
 . simp_all
 simp_all
def wD(mu:adL)(o:Oper)(env:Env):adI:=
 match o.op with
 |.move x|.assign x=>some (ak env x)
 | .pick c a b=>match ak env c with
   |.lit (.bool x)=>some (if x then ak env a else ak env b)
   |_=>none
 |.box _ x=>if(match o.dst with|some d=>mu.contains d|none=>false)=true then none else if(ak env x).cells.all AV.flat=true then some (.cp (ak env x) 0)else none
 | .load t p=>match L.tt t,ak env p with
   |some i,.cp v off=>cW v.cells off i.size i.agg
   |some i,.kp _ l hole off=>PX l hole off i.size i.agg
   |_,_=>none
 | .fieldAddr s x j=>match L.tt s with
   | some ⟨.struct,_,_,_,kj⟩=>(match kj[j]? with
     |some f=>if f.2.1≠0 then sQ (ak env x) f.1 else none
     |none=>none)
   |_=>none
 | .field s x j=>match L.tt s,ak env x with
   | some ⟨.struct,_,_,_,kj⟩,.agg l=>(match kj[j]? with
     |some f=>(match L.tt f.2.2 with|some n=>cW l f.1 n.size n.agg|none=>none)
     |none=>none)
   |_,_=>none
 | .indexAddr t x h=>match L.tt t with
   | some ⟨.slice e,_,_,_,_⟩=>(match L.tt e,ak env x,ak env h with
     |some g,.sl q es _,.lit (.int _ z)=>if q=g.size/\0<=z then(es[z.toNat]?).map (λa=>.cp a 0)else none
     |some g,.fN b off len _,.lit (.int _ z)=>if 0<=z/\z<len then some (.ref b (off+z.toNat*g.size))else none
     |_,_,_=>none)
   | some ⟨.array k e,_,_,_,_⟩=>(match L.tt e,ak env h with
     |some g,.lit (.int _ z)=>if 0<=z/\z<k then sQ (ak env x) (z.toNat*g.size)else none
     |_,_=>none)
   |_=>none
 | .index t x h=>match L.tt t with
   | some ⟨.array k e,_,_,_,_⟩=>(match L.tt e,ak env x,ak env h with
     |some g,.agg l,.lit (.int _ z)=>if 0<=z/\z<k then cW l (z.toNat*g.size) g.size g.agg else none
     |_,_,_=>none)
   |_=>none
 | .binOp op t x y _=>match L.tt t with
   | some ⟨.int _,_,_,_,_⟩=>(match ak env x,ak env y with
     |.lit (.int kd a),.lit (.int m b)=>if kd=m\/op=.shl\/op=.shr then(xQ op kd a b).map .lit else none
     |_,_=>none)
   |_=>none
 | .unOp .not _ x=>match ak env x with
   |.lit (.bool b)=>some (.lit (.bool !b))
   |_=>none
 | .convert s t x=>match L.tt s,L.tt t,ak env x with
   |some ⟨.int _,_,_,_,_⟩,some ⟨.int kd,_,_,_,_⟩,.lit (.int _ a)=>some (.lit (.int kd (kd.wrap a)))
   |_,_,_=>none
 | .makeInterface t x=>match L.tt t with
   |some i=>if i.kind≠.iface then some (.mL t (ak env x))else none
   |none=>none
 |.makeFunc f fs cs=>some (.fn f (fs.toList.map (ak env)) (cs.toList.map (ak env)))
 | .extract x j=>match ak env x with
   |.cH l=>l[j]?
   |_=>none
 | .nilCheck x=>match ak env x with
   |.cp v off=>some (.cp v off)
   |.ref b off=>some (.ref b off)
   |.kp b l hole off=>some (.kp b l hole off)
   |_=>none
 | .call c=>match c.callee,c.args.toList with
   | .builtin .len,[x]=>(match c.argTypes[0]? with
     | some t=>(match L.tt t with
       | some ⟨.slice _,_,_,_,_⟩=>(match ak env x with
         |.sl _ es _=>some (.lit (.int .i64 es.length))
         |.lit (.slice none 0 0)=>some (.lit (.int .i64 0))
         |.fN _ _ len _=>some (.lit (.int .i64 len))
         |_=>none)
       |_=>none)
     |none=>none)
   |_,_=>none
 |_=>none
def xR{mu o env a}(h:wD L mu o env=some a):(∀c,o.op≠.defer c)/\F0 P o env a:=by
 have key:sW L o=true/\∀(K:adv) σ,K a σ->UT L mu o env σ K (λ_ _=>False):=by
  unfold wD at h;unfold sW UT;split at h
  . simp_all
  . simp_all
  . next c x y b=>
    simp only[b]
    grind
  . next t x b=>
    simp only[b]
    grind
  . next t p b=>
    simp only[b];split at h
    . simp_all
    . simp_all
    cases h
  . next s x j b=>
    simp only[b]
    grind
  . next s x j b=>
    simp only[b]
    grind
  . next t x n b=>
    simp only[b];split at h
    . next e g i l m d=>
      simp only[d]
      grind
    . next k e g i l m d=>
      simp only[d]
      grind
    cases h
  . next t x n b=>
    simp only[b];split at h
    . grind
    cases h
  . next op t x y E b=>
    simp only[b];split at h
    . next F g i l m d=>
      simp only[d];split at h
      . next kd u q v r w=>
        simp only[r,w];split at h
        . next z=>obtain⟨y,A,G⟩:=aaK.1 h;refine⟨by simp_all,λK σ H=>⟨z,B2 A (by simp_all)⟩⟩
        cases h
      cases h
    cases h
  . next t x b=>
    simp only[b]
    grind
  . next s t x b=>
    simp only[b]
    grind
  . next t x b=>
    simp only[b]
    grind
  . simp_all
  . next x j b=>
    simp only[b]
    grind
  . next x b=>
    simp only[b]
    grind
  . next c b=>
    simp only[b];split at h
    . next x B C=>
      simp only[B,C]
      grind
    cases h
  cases h
 refine⟨λc e=>?_,λσ=>Jc L key.1 (key.2 (λD f=>D=a/\f=σ) σ ⟨rfl,rfl⟩)⟩
 simp_all
def xS(o:Oper)(env:Env)(σ:ab):adI:=
 match o.op with
 | .load t p=>match L.tt t with
   |some i=>rH i σ (ak env p)
   |none=>none
 |_=>none
def vH{o env σ a}(h:xS L o env σ=some a):(∀c,o.op≠.defer c)/\sZ P o env σ a:=by
 unfold xS at h;split at h
 . next t p b=>
   split at h
   . next i d=>exact⟨λc e=>(by simp_all),BX L b d h ⟨rfl,rfl⟩⟩
   cases h
 cases h
def j8(mu:adL)(ζ:adC)(n:Nat)(lt:Bool)(σ:ab):adL->Env->(Env->Prop)->Prop
 |[],env,K=>K env
 | i :: S,env,K=>match ζ[i]? with
   | some o=>Oper.ok n o=true/\o.dst.isSome=true/\sf ζ n env o (match wD L mu o env with
      |some a=>j8 mu ζ n lt σ S (bp env o.dst a) K
      | none=>lt=true/\(match xS L o env σ with
        |some a=>j8 mu ζ n lt σ S (bp env o.dst a) K
        |none=>False)) (j8 mu ζ n lt σ S (bp env o.dst (.lit (.tuple #[]))) K)
   |none=>False
def ascending:adL->Bool
 |i::j::l=>Nat.blt i j && ascending (j::l)
 |_=>true
def qa{i}:∀{l},ascending (i::l)=true->ascending l=true/\∀j∈l,i<j
 |[],_=>⟨rfl,λ_ h=>by cases h⟩
 | a::l,h=>by
   simp only[ascending,wL,Nat.blt_eq]at h;obtain⟨c,b⟩:=h;have d:=qa b
   grind
def xT{mu μ σ lt}  m  (A:lM ζ μ m=true) (l:lt=true->∀i∈m,late ζ μ m i=true):∀  S   env   K ,ascending S=true->(∀i∈S,i∈m/\i∈μ)->j8 L mu ζ n lt σ S env K ->
 ∃f,K f/\(∀i∈S,BZ P ζ n μ m f σ i)/\∀t,(∀i∈S,∀o,ζ[i]?=some o->o.dst≠some t)->f t=env t
 |[],env,K,_,_,h=>⟨env,h,λ_ U=>(by cases U),λ_ _=>rfl⟩
 | i :: S, env,K,B,p,h=>by
   obtain⟨B,V⟩:=qa B;unfold j8 at h;split at h
   . next o w=>
     obtain⟨C,D,h⟩:=h;obtain⟨d,hd⟩:=Option.isSome_iff_exists.1 D
     have main:∀a,j8 L mu ζ n lt σ S (bp env o.dst a) K->((bZ ζ n env o/\(∀c,o.op≠.defer c)/\(F0 P o env a\/(late ζ μ m i=true/\sZ P o env σ a)))\/(lZ ζ n env o/\a=.lit (.tuple #[])))->∃f,K f/\(∀j∈i::S,BZ P ζ n μ m f σ j)/\∀t,(∀j∈i::S,∀o,ζ[j]?=some o->o.dst≠some t)->f t=env t:=by
      intro a W q;obtain⟨f,X,h2,E⟩:=xT m A l S _ K B (λj k=>p j (by simp[k])) W
      have g:∀t∈dP ζ o,f t=env t:=λt F=>by
       have G:∀j∈S,∀y,ζ[j]?=some y->y.dst≠some t:=λj k y s u=>by
        obtain⟨Y,_⟩:=km A (p i (by simp)).2 (p j (by simp[k])).2 w s u
        grind
       rw[E t G,kI];by_cases H:o.dst=some t
       . obtain⟨Y,_⟩:=km A (p i (by simp)).2 (p i (by simp)).2 w w H
         grind
       grind
      have r:f d=a:=by
       rw[E d (λj k y s u=>by
        obtain⟨_,c2⟩:=km A (p i (by simp)).2 (p j (by simp[k])).2 w s u
        grind),kI,zR hd]
      refine⟨f,X,λj k=>?_,λt F=>?_⟩
      . rcases aaM.1 k with rfl|k
        . refine⟨o,w,C,?_⟩
          rcases q with⟨q,I,J⟩|⟨q,rfl⟩
          . refine .inl ⟨q.congr g,d,hd,I,?_⟩
            rw[r];have R:∀σ,aJ P o env σ (λM v=>M=a/\v=σ) (λ_ _=>False)->aJ P o f σ (λM v=>M=a/\v=σ) (λ_ _=>False):=λσ h=>h.congr λx T=>p9 λt e=>g t (mem_reads (by grind))
            exact J.imp (λh σ=>R σ (h σ)) (λh=>⟨h.1,R σ h.2⟩)
          exact .inr ⟨q.congr g,d,hd,r⟩
        grind
      rw[E t (λj k=>F j (by simp[k])),kI,zA (F i (by simp) o w)]
     rcases sX h with⟨q,h⟩|⟨j,b,x,Z,y,hg,k,N,O,T,Q,h⟩
     . split at h
       . next a z=>exact main a h (.inl ⟨q,(xR L z).1,.inl (xR L z).2⟩)
       obtain⟨hl,h⟩:=h;split at h
       . next a z=>exact main a h (.inl ⟨q,(vH L z).1,.inr ⟨l hl i (p i (by simp)).1,(vH L z).2⟩⟩)
       grind
     exact main (.lit (.tuple #[])) h (.inr ⟨⟨j,b,x,Z,y,hg,k,N,O,T,Q⟩,rfl⟩)
   simp_all
def Any.hoist  mu   S  {done μ env σ R}(hd:∀i∈μ,i∉done) (j:∀i∈S,i∈μ) (p:∀i∈μ,(ζ[i]?).isSome=true) (q:ascending S=true) (k:lM ζ μ S=true){lt}(c:lt=true->∀i∈S,late ζ μ S i=true)
 (h:j8 L mu ζ n lt σ S env (λb=>Any P m ζ n Kp (S++done) (μ.filter λi=>!S.contains i) b σ R)):Any P m ζ n Kp done μ env σ R:=by
 intro l d f e;obtain⟨b,r,s,u⟩:=xT L S k c S env _ q (λi a=>⟨a,j i a⟩) h
 refine ck.hoist k l done env b σ (λi a=>(e i).1 a) d (λi a=>hd i ((e i).1 a)) f (λi a=>Option.isSome_iff_exists.1 (p i ((e i).1 a))) (λi _ g=>s i g)
  (λt v=>u t λi a o w=>v i ((e i).2 (j i a)) a o w) ?_
 refine r _ (jP.sub (λi=>!S.contains i) l done (S++done) d (λi a=>by simp[a]) (λi _ x=>by simp_all) (λi a x=>?_) f) (f.filter _) (λi=>by simp_all)
 simp_all
def B3(ζ:adC)(done μ S:adL):Bool:=(μ.all λi=>!done.contains i && (ζ[i]?).isSome) && (S.all λi=>μ.contains i) && ascending S && lM ζ μ S
def Any.take  mu   S  {done μ env σ R}  lt  (d:B3 ζ done μ S=true) (a:lt=true->(S.all λi=>late ζ μ S i)=true)
 (h:j8 L mu ζ n lt σ S env (λb=>Any P m ζ n Kp (S++done) (μ.filter λi=>!S.contains i) b σ R)):Any P m ζ n Kp done μ env σ R:=by
 simp only[B3,wL,aaD]at d;obtain⟨⟨⟨f,k⟩,g⟩,j⟩:=d;exact Any.hoist L mu S (λi c=>by simp_all) (λi c=>by simp_all) (λi c=>(f i c).2) g j (λe i c=>aaD.1 (a e) i c) h
end
end
attribute [simp] j8 wD xS xQ
section
variable{P:adT}{m:Mo}{n:Nat}{ζ:adC}{Kp:adv}
def dh.mono{R c}(b:∀env σ,R env σ->c env σ):∀  l   env   σ ,dh P m ζ n Kp l env σ R->dh P m ζ n Kp l env σ c
 |[],env,σ,h=>b _ _ h
 |i::l,env,σ,⟨o,d,e,f⟩=>⟨o,d,e,f.imp (λh=>⟨h.1,h.2.mono λa g=>dh.mono b l _ _⟩) (λh=>⟨h.1,dh.mono b l _ _ h.2⟩)⟩
def j8.mono(L:jJ P){mu lt σ K c}(b:∀env,K env->c env):∀{S env},j8 L mu ζ n lt σ S env K->j8 L mu ζ n lt σ S env c
 |[],env,h=>b _ h
 | i :: S,env,h=>by
   unfold j8 at h ⊢;split at h
   . next o d=>
     try simp only[d]
     refine⟨h.1,h.2.1,?_⟩;have h:=h.2.2;unfold sf at h ⊢
     have main:∀{x:adI}{y:adI},(match x with|some a=>j8 L mu ζ n lt σ S (bp env o.dst a) K|none=>lt=true/\(match y with|some a=>j8 L mu ζ n lt σ S (bp env o.dst a) K|none=>False)) ->
      (match x with|some a=>j8 L mu ζ n lt σ S (bp env o.dst a) c|none=>lt=true/\(match y with|some a=>j8 L mu ζ n lt σ S (bp env o.dst a) c|none=>False)):=by
      intro x y h;cases x with
      |some a=>exact j8.mono L b h
      | none=>
        refine⟨h.1,?_⟩;cases y with
        |some a=>exact j8.mono L b h.2
        |none=>exact h.2
     split at h
     . exact main h
     split at h
     . refine⟨h.1,?_⟩
       have h:=h.2;split at h
       . exact⟨λe=>main (h.1 e),λe=>j8.mono L b (h.2 e)⟩
       . exact j8.mono L b h
       exact h
     exact h
   exact h
inductive oB where
 |done
 |take (S:adL) (lt:Bool) (p:oB)
 |one (i:Nat) (p:oB)
 |both (i:Nat) (p q:oB)
structure Entry where
 id:Nat
 Xx:oB
def fR(ζ:adC):oB->adL->adL->adL->Bool
 |.done,_,_,μ=>μ.isEmpty
 |.take S lt p,ex,done,μ=>ex.isEmpty && B3 ζ done μ S && (!lt||S.all λi=>late ζ μ S i) && fR ζ p [] (S++done) (μ.filter λi=>!S.contains i)
 |.one i p,ex,done,μ=>μ.contains i && (μ.all λj=>!done.contains j) && (μ.all λj=>j==i||ex.contains j||(μ.any λx=>jO ζ x j)) && fR ζ p [] (i::done) (μ.filter (· !=i))
 |.both i p q,ex,done,μ=>μ.contains i && fR ζ p [] (i::done) (μ.filter (· !=i)) && fR ζ q (i::ex) done μ
def s8(ζ:adC)(e:Entry):Bool:=qR ζ && fR ζ e.Xx [] [] (List.range ζ.size)
def Xy(P:adT)(m:Mo)(ζ:adC)(n:Nat)(Kp:adv)(ex done μ:adL)(env:Env)(σ:ab)(R:adu):Prop:=∀l,jP ζ done l->l.Nodup->(∀i,i∈l↔i∈μ)->(∀i a,l=i::a->i∉ex)->dh P m ζ n Kp l env σ R
def jo(P:adT)(m:Mo)(ζ:adC)(n:Nat)(Kp:adv)(p:oB)(env:Env)(σ:ab)(R:adu):Prop:=∀ex done μ,fR ζ p ex done μ=true->Xy P m ζ n Kp ex done μ env σ R
def LR{i}{l μ:adL}(a:(i::l).Nodup)(b:∀j,j∈i::l↔j∈μ)  j :j∈l↔j∈μ.filter (· !=i):=by grind
def dh.LS{i}{l ex done μ:adL}{p env σ R}(c:jP ζ done (i::l))(b:(i::l).Nodup)(d:∀j,j∈i::l↔j∈μ)
 (e:fR ζ p [] (i::done) (μ.filter (· !=i))=true) (h:jQ P m ζ n Kp i env σ (λenv σ=>jo P m ζ n Kp p env σ R)):dh P m ζ n Kp (i::l) env σ R:=by
 have next:∀env σ,jo P m ζ n Kp p env σ R->dh P m ζ n Kp l env σ R:=λenv σ h=>h [] _ _ e l c.2.2 (abX.1 b).2 (LR b d) (λ_ _ _ h=>by cases h)
 obtain⟨o,f,g,k⟩:=h;exact⟨o,f,g,k.imp (λh=>⟨h.1,h.2.mono λa q=>next _ _⟩) (λh=>⟨h.1,next _ _ h.2⟩)⟩
def jo.done{env σ R}(h:R env σ):jo P m ζ n Kp .done env σ R:=λex done μ a l _ _ b _=>by
 simp only[fR,List.isEmpty_iff]at a;subst a;cases l with
 |nil=>exact h
 |cons i l=>exact absurd ((b i).1 (by simp)) (by simp)
def jo.take(L:jJ P)  mu  {S lt p env σ R}(h:j8 L mu ζ n lt σ S env (λd=>jo P m ζ n Kp p d σ R)):jo P m ζ n Kp (.take S lt p) env σ R:=by
 intro ex done μ f;simp only[fR,wL]at f;obtain⟨⟨⟨j,g⟩,k⟩,i⟩:=f;have:=Any.take (m:=m) (Kp:=Kp) (R:=R) L mu S lt g (λe=>by simp_all) (j8.mono L (λd h=>λl a b c=>h [] _ _ i l a b c (λ_ _ _ h=>by cases h)) h);exact λl a b c _=>this l a b c
def jo.one{i p env σ R}(h:jQ P m ζ n Kp i env σ (λenv σ=>jo P m ζ n Kp p env σ R)):jo P m ζ n Kp (.one i p) env σ R:=by
 intro ex done μ d l e g f r;simp only[fR,wL,aaD,acS,acm,abz]at d;obtain⟨⟨⟨s,hd⟩,k⟩,o⟩:=d;have q:i∈μ:=by simp_all
 cases l with
 |nil=>simp_all
 | cons j l=>
   have a:j∈μ:=(f j).1 (by simp)
   have b:j=i:=by
    rcases k j a with(h|h)|⟨x,c,h⟩
    . exact h
    . simp_all
    have:=hd x c;exact absurd (e.1 x h) (by simp_all)
   subst b;exact dh.LS (ex:=ex) e g f o h
def jo.both{i p q env σ R}(h:jQ P m ζ n Kp i env σ (λenv σ=>jo P m ζ n Kp p env σ R))(g:jo P m ζ n Kp q env σ R):jo P m ζ n Kp (.both i p q) env σ R:=by
 intro ex done μ b l c d f s;simp only[fR,wL]at b;obtain⟨⟨t,k⟩,o⟩:=b;have r:i∈μ:=by simp_all
 cases l with
 |nil=>simp_all
 | cons j l=>
   by_cases a:j=i
   . subst a
     exact dh.LS (ex:=ex) c d f k h
   exact g _ _ _ o _ c d f λx u e=>by simp_all
def rK{id}:∀{k k'},exitTo id k=some k'->∀x∈k',x∈k
 |[],k',h=>by simp_all
 | i::k,k',h=>by
   have again:exitTo id k=some k'->∀x∈k',x∈i::k:=λh x a=>acb _ (rK h x a)
   cases i<;>simp only[exitTo]at h<;>first|exact again h|skip
   grind
end
section
variable{P:adT}(L:jJ P)
def oC(fn:Func)(k:Nat):Bool:=Nat.ble k fn.ntmps && fn.results.toList.all (ResultVar.ok fn.ntmps)
end
attribute [simp] List.find?
def kJ{k O r c e x}(p:O r=some (.obj (.cells c e x))):lu k O (k.fq r (e,c.size)) O:=λw h=>by
 have t:=h.obj _ _ p;have g:w.shape? r=some (e,c.size):=by simp[World.shape?,t]
 refine⟨⟨h.apart,h.cell,λb s hb=>?_,h.obj,λb n hb=>?_,λb n hb=>?_⟩,⟨⟨λ_ _ _ h=>h,λb s d=>?_⟩,aaG _,λ_ _ _=>rfl,λ_ _ _ _ c _ h=>⟨c,h,rfl,λ_ _=>rfl⟩,λ_ _ _ _ c _ h=>⟨c,h,rfl,λ_ _=>rfl⟩,λ_ _=>rfl,λb x u=>.inl ⟨x,u,.refl x⟩,λb i v y=>.inl y,λb s d=>?_,by simp,rfl,rfl,rfl,by simp,λ_ f h=>⟨f,h⟩⟩⟩
 . by_cases a:b=r
   . subst a;simp[ar.fq]at hb;simp_all
   exact h.sh b s (by simpa[ar.fq,a]using hb)
 . obtain⟨j,l,m,o⟩:=h.tail b n hb
   refine⟨j,l,m,?_⟩;have:b≠r:=λq=>by simp_all
   simpa[ar.fq,this]using o
 . obtain⟨j,l,m,o⟩:=h.part b n hb
   refine⟨j,l,m,?_⟩;have:b≠r:=λq=>by simp_all
   simpa[ar.fq,this]using o
 . by_cases a:b=r
   . subst a
     have:=h.sh _ _ d;rw[g]at this;cases this;simp[ar.fq]
   simpa[ar.fq,a]using d
 by_cases a:b=r
 . simp_all
 exact .inl (by simpa[ar.fq,a]using d)
section
variable{P:adT}{m:Mo}{Q:adl}{k:ar}{O:aj}{g:adJ}
def T.freeze{r n c e}(d:O r=some (.obj (.cells c e (0,0))))(b:g.status=.running)
 (h:∀k' O',k.Le k'->k'.sh r=some (e,c.size)->(∀j v,j<n->c[j]?=some v->k'.cell r j=some v)->O'=O.set r (.tail n)->T P m Q k' O' g):T P m Q k O g:=by
 by_cases a:∃w,Sat k O w
 . obtain⟨w,f⟩:=a
   have i:∀j,k.cell r j=none:=λj=>by
    cases q:k.cell r j with
    |none=>rfl
    |some v=>exact(f.apart _ _ _ q (.inl ⟨_,d⟩)).elim
   have o:=(kJ (k:=k) d w f).2.le;have l:(k.fq r (e,c.size)).Le ((k.fq r (e,c.size)).xA r c n):=.xA i;exact .ghost (kJ d) (.ghost (oz (n:=n) d (by simp[ar.fq])) (h _ _ (o.trans l) (by simp[ar.xA,ar.fq]) (λj v p s=>by simp[ar.xA,p,s]) rfl))
 exact .step (λ_ _ _=>False) b (λ_ _ _ h=>h.elim) λw f=>absurd ⟨w,f⟩ a
end
def fB:∀{es},(∀e∈es,e.cells=[e])->flatten es=es
 |[],_=>rfl
 | e::es,h=>by
   have c:=h e (by simp);have a:=fB (es:=es) λx b=>h x (by simp[b])
   simp only[flatten]at a ⊢
   simp_all
def V.DH{k v kk es sp}(h:V k v (.sl kk es sp)):(∃a,v=.slice a 0 0/\es=[]/\(sp=.any\/(sp=.exact/\a.isSome=true)))\/∃(b off cap N:Nat) (E:TypeId) (c:Nat->Value),v=.slice (some ⟨b,off,none⟩) es.length cap/\es.length<=cap/\k.sh b=some (E,N)/\off+cap*kk<=N/\(∀e∈es,e.cells.length=kk)/\
 (∀j,j<(flatten es).length->k.cell b (off+j)=some (c j)/\ck.flat (c j)=true)/\(∀  j  a,(flatten es)[j]?=some a->V k (c j) a)/\sp.fits b off es.length kk cap:=by
 cases h with
 |sl b off cap _ N E _ _ c d f g i l m n=>exact .inr ⟨b,off,cap,N,E,c,rfl,d,f,g,i,l,m,n⟩
 |slnil a _ _ h=>grind
inductive Fz(b:Nat)(l:adQ):AV->AV->Prop
 |refl (a:AV):Fz b l a a
 | sl (off cap kk:Nat) (es:adQ) (sp:nL):es.length<=cap->off+cap*kk<=l.length->(∀e∈es,e.cells.length=kk)->(∀(j:Nat) a,(flatten es)[j]?=some a->l[off+j]?=some a)->(sp=.any\/(sp=.exact/\cap=es.length)) ->
    Fz b l (.fN b off es.length cap) (.sl kk es sp)
 |fn (f:Fn) (a1 a2 c1 c2:adQ):a1.length=a2.length->c1.length=c2.length->(∀(i:Nat) a a',a1[i]?=some a->a2[i]?=some a'->Fz b l a a')->(∀(i:Nat) a a',c1[i]?=some a->c2[i]?=some a'->Fz b l a a')->Fz b l (.fn f a1 c1) (.fn f a2 c2)
 |rows (es es':adQ) (sp:nL):es.length=es'.length->(∀e∈es,e.cells=[e])->(∀e∈es',e.cells=[e])->(∀(i:Nat) a a',es[i]?=some a->es'[i]?=some a'->Fz b l a a')->Fz b l (.sl 1 es sp) (.sl 1 es' sp)
 |cp (base off:Nat) (v:AV):base+v.cells.length<=l.length->(∀(j:Nat) a,v.cells[j]?=some a->l[base+j]?=some a)->Fz b l (.ref b (base+off)) (.cp v off)
 |agg (l1 l2:adQ):l1.length=l2.length->(∀(i:Nat) a a',l1[i]?=some a->l2[i]?=some a'->Fz b l a a')->Fz b l (.agg l1) (.agg l2)
 |cH (l1 l2:adQ):l1.length=l2.length->(∀(i:Nat) a a',l1[i]?=some a->l2[i]?=some a'->Fz b l a a')->Fz b l (.cH l1) (.cH l2)
def B4(k:ar)(b:Nat)(E:TypeId)(l:adQ):Prop:=k.sh b=some (E,l.length)/\∀(j:Nat) a,l[j]?=some a->∃u,k.cell b j=some u/\V k u a/\ck.flat u=true
def Fz.sound{k b E l a a'}(h:Fz b l a a')(o:B4 k b E l):∀{v},V k v a->V k v a':=by
 induction h with
 |refl a=>simp_all
 | sl off cap T es sp g n p r s=>
   intro v d;cases d
   exact V.ofRow g o.1 n p (λj a q=>o.2 _ _ (r j a q)) (by
    rcases s with rfl|⟨rfl,s⟩
    . trivial
    exact s)
 | rows es t sp g n p _ z=>
   intro v d;have f1:=fB n;have U:=fB p;rcases d.DH with⟨W,rfl,rfl,F⟩|⟨G,off,cap,N,H,c,rfl,X,I,J,Y,A,K,Z⟩
   . grind
   rw[f1]at A K;rw[g];refine .sl G off cap 1 N H t sp c (by omega) I J (λe he=>by simp_all) (λj B=>A j (by simp_all)) (λj a q=>?_) (by simp_all)
   grind
 | cp base off x hlen g=>
   intro v d;cases d;refine .cp b base off _ _ x (λj=>(k.cell b (base+j)).getD undef) o.1 hlen (λj B=>?_) (λj a q=>?_)
   . obtain⟨u,n,p,r⟩:=o.2 _ _ (g j x.cells[j] (by simp[B]))
     simp_all
   obtain⟨u,n,p,r⟩:=o.2 _ _ (g j a q)
   simp_all
 | fn f a1 L c1 M g n _ _ O P=>
   intro v d;cases d with
   | fn _ Q R _ _ C D g3 g4=>
     refine .fn f Q R L M (by omega) (λi u a' w m=>?_) (by omega) (λi u a' w m=>?_)
     . grind
     grind
 | agg S y g _ z=>
   intro v d;cases d with
   | agg c _ C D=>
     refine .agg c y (by omega) λi u a' w m=>?_
     grind
 | cH S y g _ z=>
   intro v d;cases d with
   | cH c _ C D=>
     refine .cH c y (by omega) λi u a' w m=>?_
     grind
def PJ(b:Nat)(l:adQ)(σ σ':ab):Prop:=∀c y,σ' c=some y->c≠b/\(σ c=some y\/∃d e,σ c=some (.cells d)/\y=.cells e/\d.length=e.length/\∀(i:Nat) a f,d[i]?=some a->e[i]?=some f->Fz b l a f)
def PJ.del  b   l   σ :PJ b l σ (σ.del b):=λc y h=>by
 unfold ab.del at h
 simp_all
def PJ.sound{k O b E l σ σ'}(h:PJ b l σ σ')(t:B4 k b E l)(f:Rel k O σ)  x :Rel k (O.set b x) σ':=⟨λc y g j=>by
 obtain⟨d,h⟩:=h c y g;rcases h with h|⟨m,q,n,rfl,r,u⟩
 . obtain⟨z,o,a⟩:=f.1 c y h j
   exact⟨z,by simp[aj.set,d,o],a⟩
 . obtain⟨z,o,a⟩:=f.1 c _ n (by simp)
   cases a with
   | cells w e _ F A B=>
     refine⟨_,by simp only[aj.set,d,zD];exact o,.cells w e q (by omega) (λi v C D p=>?_) B⟩;have s:i<m.length:=by grind
     exact(u i m[i] C (by simp[s]) p).sound t (A i v _ D (by simp[s])),λc y g j=>by
 obtain⟨d,h⟩:=h c _ g;rcases h with h|⟨m,q,_,h,_⟩
 . obtain⟨n,r⟩:=f.2 c y h j
   exact⟨by simp[aj.set,d,n],r⟩
 simp_all⟩
section
variable{P:adT}{m:Mo}
def T.B5{Q k O g σ b l}(q:Rel k O σ)(hb:σ b=some (.cells l))(f:g.status=.running)
 (h:∀k' O',k.Le k'->(∀v a a',V k v a->Fz b l a a'->V k' v a')->(∀σ',PJ b l σ σ'->Rel k' O' σ')->T P m Q k' O' g):T P m Q k O g:=by
 obtain⟨y,s,t⟩:=q.1 b _ hb (by simp);cases t with
 | cells c e _ u w x=>
   refine T.freeze (n:=c.size) s f λk' O' d o z p=>?_
   have r:B4 k' b e l:=⟨by rw[o,u],λj a A=>by
    have i:j<c.size:=by grind
    exact⟨c[j],z j _ i (by simp[i]),(w j _ a (by simp[i]) A).mono d,x j _ (by simp[i])⟩⟩
   refine h k' O' d (λv a a' B C=>C.sound r (B.mono d)) λσ' D=>?_
   rw[p];exact D.sound r (q.mono d) _
def Go.freeze{ξ n ro todo K env a σ σ' D rc}  b   l  (hb:σ b=some (.cells l)) (d:∀t,Fz b l (env t) (a t)) (g:PJ b l σ σ')
 (h:Go P m ξ n ro todo ⟨a,σ',D,rc⟩ K):Go P m ξ n ro todo ⟨env,σ,D,rc⟩ K:=by
 intro Q k O η θ τ cs i e j;refine T.B5 e.rel hb rfl λo p c q f=>?_
 exact h Q o p η θ τ cs i ⟨e.size,λt r=>q _ _ _ (e.env t r) (d t),f σ' g,e.ds.mono c,e.rc.mono c⟩ (j.mono c)
def Fz.upd{b l}{env:Env}{t a'}(h:Fz b l (env t) a')  u :Fz b l (env u) (env.upd t a' u):=by
 unfold Env.upd;split
 . simp_all
 exact .refl _
inductive nP(KF:adw):adw
 |done {r:kW}{σ:ab}:KF r σ->nP KF r σ
 |freeze {a a':AV}{σ σ':ab}(b:Nat) (l:adQ):σ b=some (.cells l)->Fz b l a a'->PJ b l σ σ'->nP KF (.val a') σ'->nP KF (.val a) σ
 |pN {a a':AV}{σ:ab}:a.W a'->nP KF (.val a') σ->nP KF (.val a) σ
 |less {r:kW}{σ σ':ab}:σ'.Le σ->nP KF r σ'->nP KF r σ
def aB.thaw{f args σ t}(h:aB P m f args σ (nP t)):aB P m f args σ t:=by
 intro Q k O o c μ τ y z A I J
 have key:∀r i,nP t r i->∀e j g,k.Le e->Rel e j i->(match r with
  |.val a=>V e g a->T P m Q e j (kH τ c μ g)
  |.panic a=>V e g a->T P m Q e j (G (c.raise [⟨g,false,false⟩]) μ)):=by
  intro r i B;induction B with
  |@done r σ K=>grind
  | freeze b l hb C u _ p=>
    intro e j g n q v;refine T.B5 q hb (by cases τ<;>rfl) λD E s w x=>?_
    exact p D E g (n.trans s) (x _ u) (w _ _ _ v C)
  |pN F _ p=>intro e j g n q v;exact p e j g n q (F _ _ v)
  |@less r σ i u _ p=>intro e j g n q;exact p e j g n (q.le u)
 exact h Q k O o c μ τ y z A (λe j g H i a b c d=>key _ _ d e j g a c b) (λe j g H i a b c d=>key _ _ d e j g a c b)
end
def LU(σ:ab)(a:AV)(kk:Nat)(es:adQ):Prop:=FZ a kk es\/∃b off cap l,a=.fN b off es.length cap/\σ b=some (.cells l)/\(∀e∈es,e.cells.length=kk)/\∀(j:Nat) x,(flatten es)[j]?=some x->l[off+j]?=some x
def bj(σ0 σ:ab)(a:AV)(kk:Nat)(es:adQ):Prop:=σ0.Le σ/\((es=[]/\(a=.nil\/a=.sl kk [] .exact))\/∃b cap μ,a=.fN b 0 es.length cap/\σ0 b=none/\es.length<=cap/\(∀e∈es,e.cells.length=kk)/\σ b=some (.cells (flatten es++μ))/\μ.length=(cap-es.length)*kk)
def bj.rd{σ0 σ a kk es}(h:bj σ0 σ a kk es):LU σ a kk es:=by
 rcases h.2 with⟨rfl,rfl|rfl⟩|⟨b,cap,μ,rfl,_,_,c,d,_⟩
 . exact .inl (.inl ⟨rfl,rfl⟩)
 . exact .inl (.inr ⟨_,rfl⟩)
 refine .inr ⟨b,0,cap,_,rfl,d,c,λj x e=>?_⟩
 grind
def bj.empty  σ   kk :bj σ σ (.sl kk [] .exact) kk []:=⟨λ_ _ h=>h,.inl ⟨rfl,.inr rfl⟩⟩
def bj.thaw{σ0 σ a kk es e}(h:bj σ0 σ a kk es)(d:e (.val (.sl kk es .any)) σ0):nP e (.val a) σ:=by
 rcases h.2 with⟨rfl,rfl|rfl⟩|⟨b,cap,μ,rfl,l,g,f,i,m⟩
 . exact .less h.1 (.pN (gZ kk) (.done d))
 . exact .less h.1 (.pN (iK kk _ _) (.done d))
 have n:=aX f;refine .freeze b _ i (.sl 0 cap kk es .any g ?_ f (λj x o=>?_) (.inl rfl)) (PJ.del b _ σ) (.less (λc y k=>?_) (.done d))
 . have:cap*kk=es.length*kk+(cap-es.length)*kk:=by rw[<-Nat.add_mul];simp_all
   simp_all
 . grind
 have:c≠b:=λq=>by simp_all
 simp only[ab.del,this,zD];exact h.1 c y k
section
variable{P:adT}(L:jJ P){k:ar}{O:aj}{Kp:adm}
def V.Sv{v b off len cap}(h:V k v (.fN b off len cap)):v=.slice (some ⟨b,off,none⟩) len cap:=by cases h;rfl
def V.LV{v}(h:V k v .nil):v=.slice none 0 0:=by cases h;rfl
def LU.facts{σ v a kk es}(h:LU σ a kk es)(c:V k v a):∃base cap,v=.slice base es.length cap/\∀e∈es,e.cells.length=kk:=by
 rcases h with(⟨rfl,rfl⟩|⟨sp,rfl⟩)|⟨b,off,cap,l,rfl,d,f,g⟩
 . cases c;simp_all
 . rcases c.lD with⟨i,rfl,rfl,_⟩|⟨b,off,cap,N,E,rfl,j,m,n,o,_⟩
   . simp_all
   simp_all
 cases c;simp_all
def sk{K σ v a kk es}(g:V k v a)(i:Rel k O σ)(d:LU σ a kk es)
 (m:∀c ,c.size=es.length*kk->(∀(j:Nat) u x,c[j]?=some u->(flatten es)[j]?=some x->V k u x)->(∀(j:Nat) u,c[j]?=some u->flat u=true)->K c k O):dT P (Builtin.firstCells kk es.length v) k O K Kp:=by
 rcases d with d|⟨b,off,cap,l,rfl,n,o,p⟩
 . exact qQ g d (aaG _) m
 cases g;obtain⟨y,q,r⟩:=i.1 b _ n (by simp);cases r with
 | cells s e _ t w z=>
   unfold Builtin.firstCells loadCells;have A:=aX o;refine jM (l:=flatten es) (base:=off) (off:=0) (λj x B=>?_) (es.length*kk) 0 #[] (by omega) λvs C D E=>?_
   . have f:=p j x B
     have F:off+j<s.size:=by grind
     exact pX.own (k:=k) q t w z (off+j) x f|>.imp λv h=>by grind
   grind
end
section
variable{P:adT}(L:jJ P){o:Oper}{env:Env}{σ:ab}{K:adv}{Kp:adv}
def gi{s x G t t2 e e2 it W g σ0 es xs}(ho:o.op=.call ⟨.builtin .append,#[s,x],G⟩)(h0:G[0]?=some t)(N:G[1]?=some t2)(ht:L.tt t=some it)(hk:it.kind=.slice e)
 (ay:L.tt t2=some W) (aC:W.kind=.slice e2) (H:L.tt e=some g) (hb:g.bytes<=1024) (hlen:es.length+xs.length<=1073741824) (hs:bj σ0 σ (ak env s) g.size es) (hx:LU σ (ak env x) g.size xs)
 (hz:(lY g.zero).cells.all AV.flat=true) (hK:∀a' σ',bj σ0 σ' a' g.size (es++xs)->K a' σ'):aJ P o env σ K Kp:=λk O ρ p J=>by
 have A:=p s (by simp_all)
 have Q:=p x (by simp_all)
 have:execOp ρ o=(do pure (Next.value (<-Builtin.append_ G o.type #[ρ s,ρ x]))):=by simp[execOp,ho,resolve,invoke,builtin]
 rw[this];refine af ?_;have aE:g.zero.cells.size=g.size:=by obtain⟨_,_,_,_,_,_,h⟩:=L.facts H;exact h
 obtain⟨base,cap,B,aL⟩:=hs.rd.facts A;obtain⟨aO,bx,M,aW⟩:=hx.facts Q;have w:=hs.1;unfold Builtin.append_;simp only[h0,N,acM,acD,ada];refine af (aF L ht λd _ hd=>?_)
 rw[bT hd hk,B];dsimp only;refine af (bL L H ?_);refine af (aF L ay λd2 _ X=>?_)
 rw[bT X aC];refine af (ag ?_);dsimp only;simp only[zs,zD,Bool.not_false,Rp];refine af (s:=Builtin.lenOf (ρ x)) ?_;rw[M];refine ag ?_;rw[<-M];have C:=aX aL;have b0:=aX aW
 by_cases n:es.length+xs.length<=cap
 ·
  rw[zR n];refine af (sk Q J hx λc D b1 Y=>?_)
  rcases hs.2 with⟨rfl,m⟩|⟨b,Z,μ,m,b2,hc,_,I,E⟩
  . have bA:cap=0:=by
     rcases m with m|m
     . rw[m,B]at A;have:=A.LV;simp_all
     rw[m,B]at A
     rcases A.lD with⟨_,q1,_,_⟩|⟨_,_,Z,_,_,q1,_,_,_,_,_,q7⟩
     . grind
     cases q1;exact q7
    have a7:xs=[]:=by simp_all
    subst a7
    have b3:c.toList=[]:=by simp_all
    have c5:V k (.slice base 0 cap) (ak env s):=by simp_all
    cases base with
    |none=>dsimp only;refine ag (ag ⟨_,.inl rfl,.here ⟨.refl k,ak env s,σ,?_,J,hK _ _ ⟨w,.inl ⟨rfl,m⟩⟩⟩⟩);omega
    |some ad=>dsimp only;rw[b3];refine af (ag ?_);refine ag (ag ⟨_,.inl rfl,.here ⟨.refl k,ak env s,σ,?_,J,hK _ _ ⟨w,.inl ⟨rfl,m⟩⟩⟩⟩);omega
  rw[m,B]at A;have hinv:=A.Sv;simp only[Value.slice.injEq,true_and]at hinv;obtain⟨rfl,rfl⟩:=hinv;obtain⟨y,hO,hy⟩:=J.1 b _ I (by simp)
  cases hy with
  | cells cc et _ g1 g2 g3=>
    dsimp only;rw[iS]
    have R:cc.size=cap*g.size:=by rw[g1,aaI,C,E,<-Nat.add_mul];grind
    have hmul:(es.length+xs.length)*g.size<=cc.size:=by rw[R];exact abH _ n
    rw[acr]at hmul;refine af (pY c.toList 0 cc O hO (by grind) (λu hu=>?_) λO' c' b4 b5 b6=>?_)
    . obtain⟨j,hj,rfl⟩:=abD.1 hu
      exact Y j _ (by grind)
    have c6:xs.length*g.size<=μ.length:=by grind
    refine ag (ag ⟨_,.inl rfl,.here ⟨.refl k,.fN b 0 (es++xs).length cap,σ.set b (.cells (flatten (es++xs)++μ.drop (xs.length*g.size))),?_,?_,hK _ _ ⟨?_,.inr ⟨b,cap,μ.drop (xs.length*g.size),rfl,b2,by grind,λz hz=>?_,by simp[ab.set],?_⟩⟩⟩⟩)
    . rw[show es.length+xs.length=(es++xs).length by simp]
      exact .fN ..
    . rw[b4]
      refine J.set (.cells c' et _ ?_ (λi v a p m=>?_) (λi v p=>?_))
      . rw[b5,g1,flatten_append];grind
      . rw[b6]at p
        simp only[aci,Array.length_toList,D,Nat.add_zero]at p;rw[flatten_append,acd]at m
        by_cases N:i<es.length*g.size
        . grind
        rw[abp (by omega),C]at m
        by_cases h2:i<es.length*g.size+xs.length*g.size
        . grind
        rw[zA (by omega)]at p
        rw[abp (by omega),List.getElem?_drop]at m
        refine g2 i v a p ?_;rw[abp (by omega),C,<-m]
        congr 1;omega
      grind
    . intro b' y hy
      have:b'≠b:=λq=>by grind
      simp[ab.set,this,w b' y hy]
    . grind
    rw[List.length_drop,E,aaI,<-Nat.sub_mul];grind
 rw[zA n]
 have a8:¬((es.length+xs.length:Nat):Int)>IntKind.i64.max:=by have:IntKind.i64.max=9223372036854775807:=rfl;omega
 refine af (dg L H λinfo _ _ c7 _=>?_)
 rw[zA (λq=>a8 q.1)]
 refine af (dg L H λS _ _ a9 _=>?_)
 have T:=nextslicecap_le (Nat.lt_of_not_le n)
 have U:¬(Builtin.nextslicecap (es.length+xs.length) cap*S.bytes>2 ^ 48):=by rw[a9];have N:Builtin.nextslicecap (es.length+xs.length) cap*g.bytes<=(4*(es.length+xs.length)+2000)*1024:=Nat.mul_le_mul T hb;omega
 rw[zA U];refine af (s:=choose _) (λt=>?_)
 have F:(Question.appendCap (es.length+xs.length) cap e).forced=false:=rfl;rw[F];simp only[zs,zD];have b7:∃f,(Question.appendCap (es.length+xs.length) cap e).cut t=f/\es.length+xs.length<=f:=⟨_,rfl,by simp only[Question.cut];omega⟩
 obtain⟨f,al,bB⟩:=b7;rw[al];refine ag ?_;refine af (dg L H λb8 _ _ _ _=>?_)
 refine af (pZ ?_);refine af (sk (a:=ak env s) (by simp_all) J hs.rd λc D b1 Y=>?_)
 refine af (sk Q J hx λd b9 X c9=>?_)
 refine af (de L H ?_);have bc:=xL (k:=k) hz
 have bm:(Builtin.zeroCells g.zero.cells (f-(es.length+xs.length))).size=(f-(es.length+xs.length))*g.size:=by simp[Builtin.zeroCells,aE]
 have ca:∀(i:Nat) v,(Builtin.zeroCells g.zero.cells (f-(es.length+xs.length)))[i]?=some v->flat v=true:=by
  intro i v p;have hi:=(wS.1 p).1;simp only[Builtin.zeroCells]at p;obtain⟨cb,H⟩:=wS.1 p;simp at H;subst H
  have av:0<g.zero.cells.size:=by grind
  have hm:i % g.zero.cells.size<g.zero.cells.size:=Nat.mod_lt _ av;rw[getElem!_pos g.zero.cells _ hm];exact bc.2.2 (i % g.zero.cells.size) _ (by simp[hm])
 refine af (jN (l:=flatten (es++xs)++List.replicate ((f-(es.length+xs.length))*g.size) .cJ) J ?_ (λi v a p m=>?_) (λi v p=>?_) λr k' O' hn bw ax=>ag (ag ⟨_,.inl rfl,.here ⟨bw,.fN r 0 (es++xs).length f,_,?_,ax,hK _ _ ⟨λb' y hy=>?_,.inr ⟨r,f,List.replicate ((f-(es.length+xs.length))*g.size) .cJ,rfl,?_,by grind,λz hz=>?_,by simp[ab.set],?_⟩⟩⟩⟩))
 . simp only[Array.size_append,D,b9,bm,flatten_append,aaI,C,b0,List.length_replicate]
 . rw[flatten_append,acd]at m
   rw[Array.append_assoc]at p
   by_cases N:i<es.length*g.size
   . rw[aby (by omega)]at m
     grind
   rw[abp (by omega),C]at m
   rw[aco (by omega),D]at p
   by_cases h2:i-es.length*g.size<xs.length*g.size
   . grind
   rw[abp (by omega)]at m
   have:=List.mem_of_getElem? m;rw[List.mem_replicate]at this;rw[this.2];exact .cJ _
 . rw[Array.append_assoc]at p
   by_cases N:i<es.length*g.size
   . grind
   rw[aco (by omega),D]at p
   grind
 . rw[show es.length+xs.length=(es++xs).length by simp];exact .fN ..
 . have N:=w b' y hy
   have:b'≠r:=λq=>by grind
   simp[ab.set,this,N]
 . cases q:σ0 r with
   |none=>rfl
   |some y=>have:=w r y q;grind
 . grind
 simp
end
def DI(env:Env)(len cap:Nat)(lo hi mx:Option adU)(l h m:Nat):Prop:=
 (match mx with|none=>m=cap|some o=>(∃kd,ak env o=.lit (.int kd (m:Int)))/\m<=cap)/\
 (match hi with|none=>mx=none/\h=len|some o=>(∃kd,ak env o=.lit (.int kd (h:Int)))/\h<=m)/\
 (match lo with|none=>l=0|some o=>(∃kd,ak env o=.lit (.int kd (l:Int)))/\l<=h)
def DI.le{env len cap lo hi mx l h m}(hb:DI env len cap lo hi mx l h m)(a:len<=cap):l<=h/\h<=m/\m<=cap:=by
 obtain⟨b,c,d⟩:=hb
 grind
section
variable{P:adT}(L:jJ P){k:ar}{O:aj}{Kp:adm}
def qS{K v kd}{z y:Nat}{c}(a:V k v (.lit (.int kd (z:Int))))(b:z<=y)(d:K z k O):dT P (Instr.sliceBound v y c) k O K Kp:=by
 rw[dB a];unfold Instr.sliceBound;refine af (ag ?_);dsimp only;rw[zR ⟨by omega,by omega⟩];exact ag (by simp_all)
def l8{K env ρ isSlice len cap lo hi mx l h m}(hb:DI env len cap lo hi mx l h m)
 (e:∀o,(lo=some o\/hi=some o\/mx=some o)->V k (ρ o) (ak env o)) (j:K (l,h,m) k O):dT P (Instr.sliceBounds isSlice len cap (lo.map ρ) (hi.map ρ) (mx.map ρ)) k O K Kp:=by
 obtain⟨f,g,i⟩:=hb;unfold Instr.sliceBounds
 have a:∀c,dT P (do
  let l <-match lo.map ρ with
   |some v=>Instr.sliceBound v h c
   |none=>pure 0
  pure (l,h,m):Sem (Nat × Nat × Nat)) k O K Kp:=by
  intro c;cases lo with
  |none=>simp only at i;subst i;exact af (ag (ag j))
  |some o=>obtain⟨⟨kd,b⟩,d⟩:=i;have:=e o (.inl rfl);rw[b]at this;exact af (qS this d (ag j))
 cases mx with
 | none=>
   simp only at f;subst f;refine af (ag ?_);cases hi with
   |none=>obtain⟨_,rfl⟩:=g;exact af (ag (a _))
   |some o=>obtain⟨⟨kd,b⟩,d⟩:=g;have:=e o (.inr (.inl rfl));rw[b]at this;exact af (qS this d (a _))
 | some p=>
   obtain⟨⟨s,q⟩,r⟩:=f;have n:=e p (.inr (.inr rfl));rw[q]at n;refine af (qS n r ?_);cases hi with
   |none=>simp_all
   |some o=>obtain⟨⟨kd,b⟩,d⟩:=g;have:=e o (.inr (.inl rfl));rw[b]at this;exact af (qS this d (a _))
end
def ta{kk}:∀{es}(_:∀e∈es,e.cells.length=kk)  l ,flatten (es.drop l)=(flatten es).drop (l*kk)
 |[],_,l=>by simp[flatten]
 |a::es,h,0=>by simp
 |a::es,h,l+1=>by rw[List.drop_succ_cons,ta (λe b=>h e (by simp[b])) l,flatten_cons,acr,Nat.one_mul,Nat.add_comm,<-List.drop_drop,<-h a (by simp),List.drop_left]
def te{kk}:∀{es}(_:∀e∈es,e.cells.length=kk)  l ,flatten (es.take l)=(flatten es).take (l*kk)
 |[],_,l=>by simp[flatten]
 |a::es,h,0=>by simp[flatten]
 | a::es,h,l+1=>by
   have c:=h a (by simp);have d:(l+1)*kk=l*kk+kk:=by grind
   rw[List.take_succ_cons,flatten_cons,te (λe b=>h e (by simp[b])) l,flatten_cons,adf,abR (l:=a.cells) (by omega)]
   simp_all
section
variable{P:adT}(L:jJ P){o:Oper}{env:Env}{σ:ab}{K:adv}{Kp:adv}
def nQ{t x lo hi mx}(a:o.op=.slice t x lo hi mx):x∈o.op.operands/\∀y,(lo=some y\/hi=some y\/mx=some y)->y∈o.op.operands:=by simp_all
def V.LW{k:ar}{b off cap kk N E l h m:Nat}{es sp}(p:k.sh b=some (E,N))(s:off+cap*kk<=N)(g:∀e∈es,e.cells.length=kk)
 (t:∀  j  a,(flatten es)[j]?=some a->∃v,k.cell b (off+j)=some v/\V k v a/\ck.flat v=true) (u:l<=h) (w:h<=m) (x:m<=cap) (q:h<=es.length) (c:sp=.any\/(sp=.exact/\m=h)):
 V k (.slice (if m=l then some ⟨b,off,none⟩else(some (⟨b,off,none⟩:Addr)).map (·.add (l*kk))) (h-l) (m-l)) (.sl kk ((es.drop l).take (h-l)) sp):=by
 have hlen:((es.drop l).take (h-l)).length=h-l:=by simp;omega
 have d:∀e∈(es.drop l).take (h-l),e.cells.length=kk:=λe i=>g e (List.mem_of_mem_drop (acR i))
 by_cases f:m=l
 . rw[zR f]
   have r:h-l=0:=by omega
   have n:m-l=0:=by omega
   rw[r,n];have:(es.drop l).take 0=[]:=by simp
   rw[this];refine V.ofRow (kk:=kk) (es:=[]) (cap:=0) (by simp) p (by omega) (by simp) (λj a o=>by simp[flatten]at o) (by rcases c with rfl|⟨rfl,_⟩<;>simp[nL.fits])
 rw[zA f,abx,iS]
 conv=>lhs;rw[<-hlen]
 refine V.ofRow (by omega) p ?_ d (λj a o=>?_) ?_
 . have:=abH kk (show l+(m-l)<=cap by omega)
   grind
 . rw[te (λe i=>g e (List.mem_of_mem_drop i)),ta g]at o
   grind
 rcases c with rfl|⟨rfl,rfl⟩
 . trivial
 show m-l=_;rw[hlen]
def xU{t e:Nat}{x lo hi it g es sp l h}(r:o.op=.slice t x lo hi none)(u:L.tt t=some it)(v:it.kind=.slice e)(w:L.tt e=some g)
 (D:ak env x=.sl g.size es sp) (hb:∀cap,es.length<=cap->DI env es.length cap lo hi none l h cap) (i:h<=es.length) (y:K (.sl g.size ((es.drop l).take (h-l)) .any) σ):aJ P o env σ K Kp:=
 aJ.val (s:=λc=>Instr.sliceAt t (c x) (lo.map c) (hi.map c) none) (λc=>by simp[execOp,r]) λk O c j z=>by
  obtain⟨F,A⟩:=nQ r;have B:=j x F;rw[D]at B;unfold Instr.sliceAt;refine af (aF L u λT _ m=>?_);rw[bT m v];dsimp only;unfold Instr.slice;refine af (aF L u λd _ hd=>?_);rw[bT hd v];rcases B.lD with⟨G,n,rfl,_⟩|⟨b,off,cap,N,E,n,C,H,I,J,M,U⟩
  . rw[n]
    have a:=hb 0 (by simp);have:=a.le (by simp);have p:l=0:=by omega
    have q:h=0:=by omega
    cases G<;>(
     dsimp only;refine af (l8 (mx:=none) a (λo f=>j o (A o (by simpa using f))) ?_);dsimp only;refine af (bL L w (ag (.here ⟨.refl k,_,σ,?_,z,y⟩)));subst p;subst q;simp only[Rp,Nat.sub_zero,List.drop_zero,List.take_nil];exact .slnil _ _ _ (.inl rfl))
  rw[n];dsimp only;have a:=hb cap C;obtain⟨Q,R,S⟩:=a.le C;refine af (l8 (mx:=none) a (λo f=>j o (A o (by omega))) ?_);dsimp only;refine af (bL L w (ag (.here ⟨.refl k,_,σ,?_,z,y⟩)));exact V.LW H I J M Q R S i (.inl rfl)
def vI{t e:Nat}{x lo hi mx it n es sp l h}(z:o.op=.slice t x lo hi (some mx))(A:L.tt t=some it)(B:it.kind=.slice e)(p:L.tt e=some n)
 (G:ak env x=.sl n.size es sp) (hb:∀cap,es.length<=cap->DI env es.length cap lo hi (some mx) l h h) (q:h<=es.length) (r:∀a,(a=.sl n.size ((es.drop l).take (h-l)) .exact\/(es=[]/\a=.nil))->K a σ):aJ P o env σ K Kp:=
 aJ.val (s:=λg=>Instr.sliceAt t (g x) (lo.map g) (hi.map g) (some (g mx))) (λg=>by simp[execOp,z]) λk O g m u=>by
  obtain⟨H,v⟩:=nQ z;have C:=m x H;rw[G]at C;unfold Instr.sliceAt;refine af (aF L A λU _ w=>?_);rw[bT w B];dsimp only;unfold Instr.slice;refine af (aF L A λd _ hd=>?_);rw[bT hd B];rcases C.lD with⟨D,y,rfl,_⟩|⟨b,off,cap,N,E,y,F,I,J,M,Q,W⟩
  . rw[y]
    have c:=hb 0 (by simp);have:=c.le (by simp);have i:l=0:=by omega
    have j:h=0:=by omega
    cases D with
    | none=>
      dsimp only;refine af (l8 (mx:=some mx) c (λo f=>m o (v o f)) ?_);dsimp only;refine af (bL L p (ag (.here ⟨.refl k,.nil,σ,?_,u,r _ (.inr ⟨rfl,rfl⟩)⟩)));subst i;subst j;simp only[Rp,Nat.sub_zero];exact .lit _
    | some D=>
      dsimp only;refine af (l8 (mx:=some mx) c (λo f=>m o (v o f)) ?_);dsimp only;refine af (bL L p (ag (.here ⟨.refl k,_,σ,?_,u,r _ (.inl rfl)⟩)));subst i;subst j;simp only[Rp,Nat.sub_zero,List.drop_zero,List.take_nil];exact .slnil _ _ _ (.inr ⟨rfl,rfl⟩)
  rw[y];dsimp only;have c:=hb cap F;obtain⟨R,S,T⟩:=c.le F;refine af (l8 (mx:=some mx) c (λo f=>m o (v o f)) ?_);dsimp only;refine af (bL L p (ag (.here ⟨.refl k,_,σ,?_,u,r _ (.inl rfl)⟩)));exact V.LW I J M Q R S T q (.inr ⟨rfl,rfl⟩)
end
section
variable{P:adT}(L:jJ P){o:Oper}{env:Env}{σ:ab}{K:adv}{Kp:adv}
def B6{op}{t C e:Nat}{x y i kk es sp}(D:o.op=.binOp op t x y C)(F:L.tt t=some i)(G:i.kind=.slice e)(H:ak env y=.nil)
 (I:ak env x=.sl kk es sp) (j:op=.eql\/op=.neq) (J:es=[]->K (.lit (.bool (op==.eql))) σ) (r:K (.lit (.bool (op==.neq))) σ):aJ P o env σ K Kp:=
 aJ.val (s:=λg=>do eqGuard op t x y (g x) (g y);binOp op t (g x) (g y)) (λg=>by simp[execOp,D]) λk O g l M=>by
  have A:=l x (by simp_all)
  have B:=l y (by simp_all)
  rw[H]at B;rw[I]at A;have Q:g y=.slice none 0 0:=B.LV
  have m:∃a n c,g x=.slice a n c/\(a.isNone=true->es=[]):=by
   rcases A.lD with⟨W,m,h,_⟩|⟨b,off,cap,N,E,m,_⟩
   . simp_all
   simp_all
  obtain⟨a,n,c,m,X⟩:=m;rw[m,Q];have S:eqGuard op t x y (.slice a n c) (.slice none 0 0)=pure ():=by rcases j with rfl|rfl<;>simp[eqGuard]
  rw[S];refine af (ag ?_)
  have p:∀(R:Bool->ar->aj->Prop) (u:adm),R a.isNone k O->dT P (Op.equal t (.slice a n c) (.slice none 0 0)) k O R u:=λR u T=>by
   show dT P (Op.equalIn (9999+1) t (.slice a n c) (.slice none 0 0)) k O R u;rw[Op.equalIn];refine af (aF L F λd _ hd=>?_)
   rw[bT hd G];cases a<;>exact ag T
  have fin:∀b:Bool,K (.lit (.bool b)) σ->dT P (do pure (.bool b)) k O (λv q w=>mS q w λz U=>k.Le z/\∃a f,V z v a/\Rel z U f/\K a f) (λv q w=>k.Le q/\∃a f,V q v a/\Rel q w f/\Kp a f):=λb hb=>ag (.here ⟨.refl k,_,σ,.lit _,M,hb⟩)
  rcases j with rfl|rfl
  . refine af (s:=Op.equal t (.slice a n c) (.slice none 0 0)) (p _ _ (fin _ ?_))
    cases Y:a.isNone with
    |true=>simp_all
    |false=>exact r
  refine af (s:=Op.equal t (.slice a n c) (.slice none 0 0)) (p _ _ (fin (!a.isNone) ?_))
  grind
def Jd{i d}(h:dO P i d=true)(a:i.kind=.bool):d=.bool:=by cases d<;>simp_all [dO]
def AI{op}{t n:Nat}{x y i p q}(r:o.op=.binOp op t x y n)(u:L.tt t=some i)(v:i.kind=.bool)(w:ak env x=.lit (.bool p))(z:ak env y=.lit (.bool q)){b}(c:(op=.eql/\b=(p==q))\/(op=.neq/\b=!(p==q)))(h:K (.lit (.bool b)) σ):aJ P o env σ K Kp:=
 aJ.val (s:=λa=>do eqGuard op t x y (a x) (a y);binOp op t (a x) (a y)) (λa=>by simp[execOp,r]) λk O a e j=>by
  have l:=e x (by simp_all)
  have m:=e y (by simp_all)
  rw[w]at l;rw[z]at m;rw[sd l,sd m];have A:eqGuard op t x y (.bool p) (.bool q)=pure ():=by rcases c with⟨rfl,_⟩|⟨rfl,_⟩<;>simp[eqGuard]
  rw[A];refine af (ag ?_)
  have f:∀(R:Bool->ar->aj->Prop) (g:adm),R (p==q) k O->dT P (Op.equal t (.bool p) (.bool q)) k O R g:=λR g B=>by
   show dT P (Op.equalIn (9999+1) t (.bool p) (.bool q)) k O R g;rw[Op.equalIn];refine af (aF L u λd _ hd=>?_)
   rw[Jd hd v];exact ag B
  rcases c with⟨rfl,rfl⟩|⟨rfl,rfl⟩
  . exact af (s:=Op.equal t (.bool p) (.bool q)) (f _ _ (ag (.here ⟨.refl k,_,σ,.lit _,j,h⟩)))
  exact af (s:=Op.equal t (.bool p) (.bool q)) (f _ _ (ag (.here ⟨.refl k,_,σ,.lit _,j,h⟩)))
end
inductive wF{α:Sort _}(a:α):Type
 |mk
def Ab{α:Type}(x:Option α)(K:α->Prop)(u:wF K:=.mk):Prop:=∃a,x=some a/\K a
@[simp] theorem Je{α a}{K:α->Prop}{u}:Ab (some a) K u=K a:=by simp[Ab]
@[simp] theorem Jf{α K u}:Ab (none:Option α) K u=False:=by simp[Ab]
@[simp] theorem tg{α β f}{x:Option α}{K:β->Prop}{u}:Ab (x.map f) K u=Ab x (λa=>K (f a)):=by cases x<;>simp
def vJ(x:Bool)(A B:Prop)(u:wF A:=.mk)(v:wF B:=.mk):Prop:=(x=true->A)/\(x=false->B)
@[simp] theorem oD{A B u v}:vJ true A B u v=A:=by simp[vJ]
@[simp] theorem mV{A B u v}:vJ false A B u v=B:=by simp[vJ]
def Xz(σ:ab)(F:adG)(u:wF F:=.mk):Prop:=∀b,σ b=none->F b
section
variable{P:adT}(L:jJ P){o:Oper}{env:Env}{σ:ab}{K:adv}{Kp:adv}
def uI{x}{q t:Nat}{i}(z:o.op=.typeAssert x q t true)(r:L.tt t=some i)(A:i.kind≠.iface)(B:ak env x=.lit .nilIface)
 (C:K (.cH [lY i.zero,.lit (.bool false)]) σ):aJ P o env σ K Kp:=
 aJ.val (s:=λl=>Instr.typeAssert (l x) q t true) (λl=>by simp[execOp,z]) λk O l m D=>by
  have f:=m x (by simp_all);rw[B]at f;generalize l x=v at f;cases f;unfold Instr.typeAssert;refine af (aF L r λdd _ hd=>?_);have E:∀ms,dd≠.interface ms:=λms e=>by subst e;simp[dO]at hd;exact A hd
  have pair:∀{u:Value}{b:Bool}{a:AV},V k u a->V k (.tuple #[u,.bool b]) (.cH [a,.lit (.bool b)]):=λ{u b a} h=>.cH _ _ rfl λj w c f y=>by
   match j with
   |0=>simp_all
   |1=>simp at f y;subst f;subst y;exact .lit _
   |j+2=>simp at f
  have fin:dT P ((do pure (.tuple #[<-zeroValue t,.bool false]):Sem Value)) k O (λv g n=>mS g n λp F=>k.Le p/\∃a d,V p v a/\Rel p F d/\K a d) (λv g n=>k.Le g/\∃a d,V g v a/\Rel g n d/\Kp a d):=af (de L r (ag (.here ⟨.refl k,_,σ,pair (.lY k _),D,C⟩)))
  simp_all
end
def P1(a:TI)(len:Nat)(parts:List (Nat × AV)):Bool:=decide (len*a.size<=16777216) && (lY a.zero).cells.all AV.flat && (decide (len*a.size=0)||decide ((lY a.zero).cells.length=a.size)) && (parts.map (·.1)==List.range len) && parts.all λp=>decide (p.2.cells.length=a.size) && p.2.cells.all AV.flat
def vK{size}:∀  parts   l   s ,(parts.map (·.1)=List.range' s parts.length)->(∀p∈parts,p.2.cells.length=size/\p.2.cells.all AV.flat=true)->(s+parts.length)*size=l.length ->
 lx (λj=>some (j*size,size)) l parts=some (l.take (s*size)++flatten (parts.map (·.2)))
 |[],l,s,_,_,c=>by simp[lx,flatten]at c ⊢;simp_all
 | (i,a)::parts,l,s,d,g,c=>by
   simp only[acP,abA,List.range'_succ,List.cons.injEq]at d;obtain⟨rfl,d⟩:=d;obtain⟨h,k⟩:=g (i,a) (by simp);simp only[abA]at c;have e:i*size+size<=l.length:=by grind
   have b:i*size+a.cells.length<=l.length:=by simp_all
   simp only[lx];rw[zR ⟨h,e,k⟩];rw[vK parts (aG l (i*size) a.cells) (i+1) d (λp f=>g p (by simp[f])) (by rw[nA b,<-c];grind)];congr 1;rw[acP,flatten_cons,<-List.append_assoc];congr 1;have:(i+1)*size=i*size+a.cells.length:=by grind
   rw[this];unfold aG;rw[acd,adf,adf];have m:(List.take (i*size) l).length=i*size:=by grind
   rw[m,abR (by omega)];congr 1;have n:i*size+a.cells.length-i*size=a.cells.length:=by omega
   grind
section
variable{P:adT}(L:jJ P)
def F1{o env σ K Kp t len e parts it a}(f:o.op=.buildSlice t len parts)(g:L.tt t=some it)(i:it.kind=.slice e)(j:L.tt e=some a)
 (h:P1 a len (parts.toList.map λp=>(p.1,ak env p.2))=true) (k:K (.sl a.size (parts.toList.map λp=>ak env p.2) .exact) σ):aJ P o env σ K Kp:=by
 simp only[P1,wL,acS,aaD,acK,acm,zG]at h;obtain⟨⟨⟨⟨l,r⟩,m⟩,d⟩,n⟩:=h;have hlen:parts.toList.length=len:=by have:=congrArg List.length d;grind
 have b:∀p∈(parts.toList.map λp=>(p.1,ak env p.2)),p.2.cells.length=a.size/\p.2.cells.all AV.flat=true:=λp c=>⟨(n p c).1,by grind⟩
 refine Aa L f g i j l (by grind) m (es:=parts.toList.map λp=>ak env p.2) ⟨by grind,λx q=>?_⟩ ?_ k
 . obtain⟨p,c,rfl⟩:=zU.1 q
   exact(b (p.1,ak env p.2) (zU.2 ⟨p,c,rfl⟩)).1
 rw[vK (size:=a.size) _ _ 0 (by rw[acK,d,zH,hlen,List.range_eq_range']) b (by grind)]
 simp[Function.comp_def]
inductive Out where
 |ok (a:AV) (σ:ab)
 |no
 |iT (p:Prop) (x:Out)
 |new (σ:ab) (c:adQ)
 |panic (v:AV) (σ:ab)
def Out.opt(x:adI)(σ:ab):Out:=match x with|some a=>.ok a σ|none=>.no
def sm(x:Out)(K Kp:adv)(u:wF K:=.mk)(v:wF Kp:=.mk):Prop:=
 match x with
 |.ok a σ=>K a σ
 |.no=>False
 |.iT p x=>p/\sm x K Kp u v
 |.new σ c=>Xz σ λb=>K (.ref b 0) (σ.set b (.cells c))
 |.panic v σ=>Kp v σ
section
variable{K Kp:adv}{u:wF K}{v:wF Kp}
@[simp] theorem Xn{a σ}:sm (.ok a σ) K Kp u v=K a σ:=propext abr
@[simp] theorem Xo:sm .no K Kp u v=False:=propext abr
@[simp] theorem nR{p x}:sm (.iT p x) K Kp u v=(p/\sm x K Kp):=propext abr
@[simp] theorem iU{x σ}:sm (.opt x σ) K Kp u v=Ab x (λa=>K a σ):=by cases x<;>simp[Out.opt]
end
def F3(op:BinOp)(kd:IntKind)(a b:Int)(σ:ab):Out:=
 match op,kd with
 |.add,.i64=>.iT (fits (a+b)) (.ok (.lit (.int .i64 (a+b))) σ)
 |.sub,.i64=>.iT (fits (a-b)) (.ok (.lit (.int .i64 (a-b))) σ)
 |.mul,.i64=>.iT (fits (a*b)) (.ok (.lit (.int .i64 (a*b))) σ)
 |.eql,_=>.ok (.lit (.bool (a==b))) σ
 |.neq,_=>.ok (.lit (.bool (a !=b))) σ
 |.lss,_=>.ok (.lit (.bool (decide (a<b)))) σ
 |.leq,_=>.ok (.lit (.bool (decide (a<=b)))) σ
 |.gtr,_=>.ok (.lit (.bool (decide (a>b)))) σ
 |.geq,_=>.ok (.lit (.bool (decide (a>=b)))) σ
 |.shl,_=>.iT (0<=b) (.ok (.lit (.int kd (kd.wrap (a*2 ^ (min b.toNat kd.bits))))) σ)
 |.shr,_=>.iT (0<=b) (.ok (.lit (.int kd (a.fdiv (2 ^ (min b.toNat kd.bits))))) σ)
 |op,kd=>.opt ((pM op kd a b).map .lit) σ
def LX{op kd a b σ K Kp}(h:sm (F3 op kd a b σ) K Kp):se op kd a b λv=>K (.lit v) σ:=by
 have key:∀x:adx,sm (.opt (x.map .lit) σ) K Kp->∃v,x=some v/\K (.lit v) σ:=λx h=>by rw[iU,tg]at h;exact h
 cases op<;>first|exact key _ h|exact h|(cases kd<;>first|exact h|exact key _ h)
def B7(mu:adL)(o:Oper)(env:Env)(σ:ab):Out:=
 match o.op with
 |.move x=>.ok (ak env x) σ
 |.assign x=>.ok (ak env x) σ
 | .pick c a b=>match ak env c with
   |.lit (.bool x)=>.ok (if x then ak env a else ak env b) σ
   |_=>.no
 | .alloc t=>match L.tt t with
   |some i=>.iT ((lY i.zero).cells.all AV.flat=true) (.new σ (lY i.zero).cells)
   |none=>.no
 |.box _ x=>.iT ((ak env x).cells.all AV.flat=true) (if(match o.dst with|some d=>mu.contains d|none=>false)=true then .new σ (ak env x).cells else .ok (.cp (ak env x) 0) σ)
 | .load t p=>match L.tt t with
   |some i=>.opt (rH i σ (ak env p)) σ
   |none=>.no
 | .store t p x=>match L.tt t with
   |some i=>(match sc i σ (ak env p) (ak env x)with|some n=>.ok (.lit undef) n|none=>.no)
   |none=>.no
 | .fieldAddr s x j=>match L.tt s with
   | some ⟨.struct,_,_,_,kj⟩=>(match kj[j]? with
     |some f=>.iT (f.2.1≠0) (.opt (sQ (ak env x) f.1) σ)
     |none=>.no)
   |_=>.no
 | .field s x j=>match L.tt s,ak env x with
   | some ⟨.struct,_,_,_,kj⟩,.agg l=>(match kj[j]? with
     |some f=>(match L.tt f.2.2 with|some q=>.opt (cW l f.1 q.size q.agg) σ|none=>.no)
     |none=>.no)
   |_,_=>.no
 | .indexAddr t x m=>match L.tt t with
   | some ⟨.slice e,_,_,_,_⟩=>(match L.tt e,ak env x,ak env m with
     |some g,.sl u es _,.lit (.int _ z)=>.iT (u=g.size/\0<=z) (.opt ((es[z.toNat]?).map λa=>.cp a 0) σ)
     |some g,.fN b off len _,.lit (.int _ z)=>.iT (0<=z/\z<len) (.ok (.ref b (off+z.toNat*g.size)) σ)
     |_,_,_=>.no)
   | some ⟨.array k e,_,_,_,_⟩=>(match L.tt e,ak env m with
     |some g,.lit (.int _ z)=>.iT (0<=z/\z<k) (.opt (sQ (ak env x) (z.toNat*g.size)) σ)
     |_,_=>.no)
   |_=>.no
 | .index t x m=>match L.tt t with
   | some ⟨.array k e,_,_,_,_⟩=>(match L.tt e,ak env x,ak env m with
     |some g,.agg l,.lit (.int _ z)=>.iT (0<=z/\z<k) (.opt (cW l (z.toNat*g.size) g.size g.agg) σ)
     |_,_,_=>.no)
   |_=>.no
 | .binOp op t x y _=>match ak env x,ak env y with
   | .lit (.bool a),.lit (.bool b)=>(match L.tt t with
     | some ⟨.bool,_,_,_,_⟩=>(match op with
       |.eql=>.ok (.lit (.bool (a==b))) σ
       |.neq=>.ok (.lit (.bool (!(a==b)))) σ
       |_=>.no)
     |_=>.no)
   |.lit (.int kd a),.lit (.int h b)=>.iT (kd=h\/op=.shl\/op=.shr) (if(match o.dst with|some d=>mu.contains d|none=>false)=true then .opt ((pM op kd a b).map .lit) σ else F3 op kd a b σ)
   |_,_=>.no
 | .unOp .not _ x=>match ak env x with
   |.lit (.bool b)=>.ok (.lit (.bool !b)) σ
   |_=>.no
 | .convert _ t x=>match L.tt t,ak env x with
   |some ⟨.int kd,_,_,_,_⟩,.lit (.int _ a)=>.ok (.lit (.int kd (kd.wrap a))) σ
   |_,_=>.no
 | .makeInterface t x=>match L.tt t with
   |some i=>.iT (i.kind≠.iface) (.ok (.mL t (ak env x)) σ)
   |none=>.no
 |.makeFunc f fs cs=>.ok (.fn f (fs.toList.map (ak env)) (cs.toList.map (ak env))) σ
 | .extract x j=>match ak env x with
   |.cH l=>.opt (l[j]?) σ
   |_=>.no
 | .typeAssert x _ t true=>match L.tt t,ak env x with
   |some i,.mL d y=>.iT (i.kind≠.iface) (.ok (if d=t then .cH [y,.lit (.bool true)]else .cH [lY i.zero,.lit (.bool false)]) σ)
   |some i,.lit .nilIface=>.iT (i.kind≠.iface) (.ok (.cH [lY i.zero,.lit (.bool false)]) σ)
   |_,_=>.no
 |.nilCheck x=>match ak env x with|.cp v off=>.ok (.cp v off) σ|.ref b off=>.ok (.ref b off) σ|.kp b l hole off=>.ok (.kp b l hole off) σ|.fn (.func f) l r=>.ok (.fn (.func f) l r) σ|_=>.no
 | .panic x=>match ak env x with
   |.mL t y=>.panic (.mL t y) σ
   |_=>.no
 | .build t parts=>match L.tt t with
   |some i=>.iT (i.kind=.struct/\(lY i.zero).cells.all AV.flat=true) (.opt ((lx (λj=>(i.kj[j]?).map λx=>(x.1,x.2.1)) (lY i.zero).cells (parts.toList.map λp=>(p.1,ak env p.2))).map .agg) σ)
   |none=>.no
 | .buildSlice t len parts=>match L.tt t with
   | some ⟨.slice e,_,_,_,_⟩=>(match L.tt e with
     |some g=>.iT (P1 g len (parts.toList.map λp=>(p.1,ak env p.2))=true) (.ok (.sl g.size (parts.toList.map λp=>ak env p.2) .exact) σ)
     |none=>.no)
   |_=>.no
 | .call c=>match c.callee,c.args.toList with
   | .builtin .len,[x]=>(match ak env x with
     |.sl _ es _=>.ok (.lit (.int .i64 es.length)) σ
     |.lit (.slice none 0 0)=>.ok (.lit (.int .i64 0)) σ
     |.fN _ _ len _=>.ok (.lit (.int .i64 len)) σ
     |_=>.no)
   | .builtin .min,[x,y]=>(match ak env x,ak env y with
     |.lit (.int kd a),.lit (.int h b)=>.iT (kd=h) (.ok (.lit (.int kd (if b<a then b else a))) σ)
     |_,_=>.no)
   | .builtin .max,[x,y]=>(match ak env x,ak env y with
     |.lit (.int kd a),.lit (.int h b)=>.iT (kd=h) (.ok (.lit (.int kd (if b>a then b else a))) σ)
     |_,_=>.no)
   |_,_=>.no
 |_=>.no
def qd(o:Oper):Bool:=
 match o.op with
 |.buildSlice t _ _=>match L.tt t with|some ⟨.slice _,_,_,_,_⟩=>true|_=>false
 |.binOp _ t _ _ _=>match L.tt t with|some ⟨.int _,_,_,_,_⟩=>true|some ⟨.bool,_,_,_,_⟩=>true|_=>false
 |_=>sW L o
def xV{mu o env σ K Kp}(A:qd L o=true)(h:sm (B7 L mu o env σ) K Kp):aJ P o env σ K Kp:=by
 unfold B7 at h;unfold qd sW at A;split at h
 . next x g=>exact wU (.inl g) h
 . next x g=>exact wU (.inr g) h
 . next c a b g=>
   split at h
   . next x m=>exact HS g m h
   exact h.elim
 . next t g=>
   split at h
   . next i w=>exact Dt L g w h.1 h.2
   exact h.elim
 . next t x g=>
   obtain⟨B,C⟩:=h;generalize (match o.dst with|some d=>mu.contains d|none=>false)=q at C;cases q
   . exact LL g B C
   exact xD g B C
 . next t p g=>
   split at h
   . next i w=>rw[iU]at h;obtain⟨a,B,C⟩:=h;exact BX L g w B C
   exact h.elim
 . next t p x g=>
   split at h
   . next i w=>
     split at h
     . next Z B=>exact Ds L g w B h
     exact h.elim
   exact h.elim
 . next s x j g=>
   split at h
   . next I J M kj w=>
     split at h
     . next f U=>rw[nR,iU]at h;obtain⟨B,a,C,S⟩:=h;exact sR L g w rfl U B C S
     exact h.elim
   exact h.elim
 . next s x j g=>
   split at h
   . next I J M kj l w m=>
     split at h
     . next f U=>
       split at h
       . next fi V=>rw[iU]at h;obtain⟨a,B,C⟩:=h;exact Du L g w rfl U V m B C
       exact h.elim
     exact h.elim
   exact h.elim
 . next t x ix g=>
   split at h
   . next e I J M N w=>
     split at h
     . next T kk es sp kd z F m D=>rw[nR,iU,tg]at h;obtain⟨⟨rfl,G⟩,a,B,C⟩:=h;exact xH L g w rfl F m D G B C
     . next T b off len cap kd z F m D=>exact vF L g w rfl F m D h.1 h.2
     exact h.elim
   . next k e I J M N w=>
     split at h
     . next T kd z F D=>rw[nR,iU]at h;obtain⟨G,a,B,C⟩:=h;exact vE L g w rfl F D G B C
     exact h.elim
   exact h.elim
 . next t x ix g=>
   split at h
   . next k e I J M N w=>
     split at h
     . next T l kd z F m D=>rw[nR,iU]at h;obtain⟨G,a,B,C⟩:=h;exact Dv L g w rfl F m D G B C
     exact h.elim
   exact h.elim
 . next op t x y t2 g=>
   split at h
   . next a b m u=>
     split at h
     . next I J M N E=>
       split at h
       . exact AI L g E rfl m u (.inl ⟨rfl,rfl⟩) h
       . exact AI L g E rfl m u (.inr ⟨rfl,rfl⟩) h
       exact h.elim
     exact h.elim
   . next kd a H b m u=>
     obtain⟨a7,h⟩:=h;have n:(op≠.shl/\op≠.shr)->H=kd:=λhh=>by simp_all
     generalize (match o.dst with|some d=>mu.contains d|none=>false)=q at h;cases q with
     | true=>
       simp only[Rp,iU,tg]at h;obtain⟨v,R,W⟩:=h;rw[n ⟨(λe=>by subst e;cases R),(λe=>by subst e;cases R)⟩]at u;exact dp g m u R W
     |false=>
     simp only[zs,zD]at h;have h:=LX h;unfold se at h;split at h
     . rw[n (by simp)]at u;exact nN g m u (.inl ⟨rfl,rfl⟩) h.1 h.2
     . rw[n (by simp)]at u;exact nN g m u (.inr (.inl ⟨rfl,rfl⟩)) h.1 h.2
     . rw[n (by simp)]at u;exact nN g m u (.inr (.inr ⟨rfl,rfl⟩)) h.1 h.2
     . rw[n (by simp)]at u;exact dp g m u rfl h
     . rw[n (by simp)]at u;exact dp g m u rfl h
     . rw[n (by simp)]at u;exact dp g m u rfl h
     . rw[n (by simp)]at u;exact dp g m u rfl h
     . rw[n (by simp)]at u;exact dp g m u rfl h
     . rw[n (by simp)]at u;exact dp g m u rfl h
     . exact sS g m u h.1 (.inl ⟨rfl,rfl⟩) h.2
     . exact sS g m u h.1 (.inr ⟨rfl,rfl⟩) h.2
     next B C S Y h5 h6 h7 h8 h9 a8 a9=>
     obtain⟨v,R,W⟩:=h;rw[n ⟨λe=>by simp_all,λe=>by simp_all⟩]at u;exact dp g m u R W
   exact h.elim
 . next t x g=>
   split at h
   . next b m=>exact LO g m h
   exact h.elim
 . next s t x g=>
   simp only[g]at A;split at h
   . next kd I J M N H a E m=>
     split at A
     . next ks b1 b2 b3 b4 kt c1 c2 c3 c4 hs X=>rw[E]at X;exact xI L g hs E rfl rfl m h
     cases A
   exact h.elim
 . next t x g=>
   split at h
   . next i w=>exact nO L g w h.1 h.2
   exact h.elim
 . next f fs cs g=>exact vG g h
 . next x j g=>
   split at h
   . next l m=>rw[iU]at h;obtain⟨a,B,C⟩:=h;exact xJ g m B C
   exact h.elim
 . next x xt t g=>
   split at h
   . next i d y w m=>exact rI L g w h.1 m h.2
   . next i w m=>exact uI L g w h.1 m h.2
   exact h.elim
 . next x g=>
   split at h
   . next v off m=>exact fY g (.inl ⟨_,_,m⟩) (by simp_all)
   . next b off m=>exact fY g (.inr (.inl ⟨_,_,m⟩)) (by simp_all)
   . next b l hole off m=>exact fY g (.inr (.inr (.inr ⟨_,_,_,_,m⟩))) (by simp_all)
   . next f l r m=>exact fY g (.inr (.inr (.inl ⟨_,_,_,m⟩))) (by simp_all)
   exact h.elim
 . next x g=>
   split at h
   . next t y m=>exact Dw g m h
   exact h.elim
 . next t parts g=>
   split at h
   . next i w=>rw[nR,iU,tg]at h;obtain⟨⟨B,C⟩,l,S,Y⟩:=h;exact Dy L g w B C S Y
   exact h.elim
 . next t len parts g=>
   split at h
   . next e I J M N E=>
     split at h
     . next T F=>exact F1 L g E rfl F h.1 h.2
     exact h.elim
   exact h.elim
 . next c g=>
   simp only[g]at A;split at h
   . next x O Q=>
     simp only[O,Q]at A;have e:=lL O Q;split at A
     . next t G=>
       split at A
       . next e' I J M N E=>
         rw[e]at g;split at h
         . next kk es sp m=>exact BY L g G E rfl (.inl m) h
         . next m=>exact BY L (kk:=0) (sp:=.any) (es:=[]) g G E rfl (.inr ⟨m,rfl⟩) h
         . next b off len cap m=>exact AF L g G E rfl m h
         exact h.elim
       cases A
     cases A
   . next x y O Q=>
     rw[lL O Q]at g;split at h
     . next kd a H b m u=>obtain⟨rfl,h⟩:=h;exact qP g m u (.inl ⟨rfl,rfl⟩) h
     exact h.elim
   . next x y O Q=>
     rw[lL O Q]at g;split at h
     . next kd a H b m u=>obtain⟨rfl,h⟩:=h;exact qP g m u (.inr ⟨rfl,rfl⟩) h
     exact h.elim
   exact h.elim
 exact h.elim
end
def lE(pl:List Entry):Code->Bool
 |.seq a b=>lE pl a && lE pl b
 |.block _ c=>lE pl c
 |.scope c=>lE pl c
 |.cond _ a b=>lE pl a && lE pl b
 |.loop c=>lE pl c
 |.rangeFunc _ _ a c=>lE pl a && lE pl c
 |.region id ζ true=>match pl.find? λe=>e.id==id with|some e=>s8 ζ e|none=>true
 |_=>true
def kh(pl:List Entry)(todo:adH):Bool:=todo.all fun|.code c=>lE pl c|_=>true
def LY{pl id k k'}(h:exitTo id k=some k')(a:kh pl k=true):kh pl k'=true:=by unfold kh at a ⊢;rw[aaD]at a ⊢;exact λx b=>a x (rK h x b)
def aa(P:adT)(m:Mo)(ξ n:Nat)(ro:adD)(ω:List Entry)(todo:adH)(s:St)(K:adt):Prop:=kh ω todo=true->Go P m ξ n ro todo s K
def xX(ζ:adC)(n:Nat)(env:Env)(o:Oper):Option Bool:=
 match o.guard with
 |none=>some true
 | some (j,b)=>match (ζ[j]?).bind (·.dst)with
   | some d=>if d<n then(match env d with
     |.lit (.bool x)=>some (if b then x else !x)
     |.lit (.tuple _)=>some false
     |_=>none)else none
   |none=>none
def Jg(x:Option Bool)(A B:Prop)(u:wF A:=.mk)(v:wF B:=.mk):Prop:=match x with|some b=>vJ b A B u v|none=>False
@[simp] theorem nT{b A B u v}:Jg (some b) A B u v=vJ b A B:=propext abr
@[simp] theorem U5{A B u v}:Jg none A B u v=False:=propext abr
def xY{ζ n env o go no go' a u v}(f:go->go')(g:no->a)(h:Jg (xX ζ n env o) go no u v):sf ζ n env o go' a:=by
 unfold xX at h;unfold sf;cases i:o.guard with
 |none=>simp_all
 | some p=>
   obtain⟨j,b⟩:=p;rw[i]at h;simp only at h ⊢;cases hd:(ζ[j]?).bind (·.dst)with
   |none=>simp_all
   | some d=>
     rw[hd]at h;simp only at h ⊢;by_cases c:d<n
     . rw[zR c]at h
       refine⟨c,?_⟩;split at h
       . next x k=>
         simp only[k];refine⟨λe=>?_,λe=>?_⟩
         . simp_all
         cases x<;>cases b<;>simp at e
         . simp_all
         simp_all
       . simp_all
       simp_all
     simp_all
def AJ{ζ n env o go no u v}(h:Jg (xX ζ n env o) go no u v):
 (bZ ζ n env o/\go)\/∃j b x d a,o.guard=some (j,b)/\ζ[j]?=some a/\a.dst=some d/\d<n/\env d=.lit x/\US x b/\no:=
 sX (xY id id h)
section
variable{P:adT}{m:Mo}{ξ n:Nat}{ro:adD}{D:List wA}{rc:Rec}{K:adt}{k:adH}{ζ:adC}
def Go.U6{Kp i is env σ}(A:∀v env σ,Kp v σ->K (.panic v) ⟨env,σ,D,rc⟩)
 (h:dh P m ζ n Kp [i] env σ (λenv σ=>Go P m ξ n ro (.inRegion ζ is::k) ⟨env,σ,D,rc⟩ K)):Go P m ξ n ro (.inRegion ζ (i::is)::k) ⟨env,σ,D,rc⟩ K:=by
 obtain⟨o,l,f,h⟩:=h;rcases h with⟨w,h⟩|⟨⟨j,b,x,d,Q,B,C,hd,p,E,q⟩,h⟩
 . rcases h with⟨fo,args,F,s,t⟩|⟨s,t⟩
   . refine .call l s w f (t.mono λr c G=>?_)
     cases r with
     |val a=>exact G
     |panic v=>simp_all
   refine .op l w f s ?_;intro H O I u J;refine jL _ (t H O I u J) (λ_ _ _ ⟨v,L,M,N,g,e,a,c,x,y,z⟩=>⟨v,L,M,N,g,e,a,c,x,y,z⟩) (λ_ _ _ ⟨e,a,c,x,y,z⟩=>⟨e,a,c,x,y,A _ _ _ z⟩)
 exact .unwanted l B C hd p E q h
end
section
variable{P:adT}(L:jJ P)
def F4(mu:adL)(lt:Bool)(o:Oper)(env:Env)(σ:ab):adI:=
 match o.op with
 |.load t p=>if lt then(match L.tt t with|some i=>rH i σ (ak env p)|none=>none)else wD L mu o env
 |_=>wD L mu o env
def B8(mu:adL)(ζ:adC)(n:Nat)(lt:Bool)(σ:ab)(K:Env->Prop)(u:wF K:=.mk):adL->Env->Prop
 |[],env=>K env
 | i::S,env=>match ζ[i]? with
   |some o=>(Oper.ok n o && o.dst.isSome)=true/\Jg (xX ζ n env o) (Ab (F4 L mu lt o env σ) λa=>B8 mu ζ n lt σ K u S (bp env o.dst a)) (B8 mu ζ n lt σ K u S (bp env o.dst (.lit (.tuple #[]))))
   |none=>False
def F5{mu lt o env σ a}(h:F4 L mu lt o env σ=some a):wD L mu o env=some a\/(wD L mu o env=none/\lt=true/\xS L o env σ=some a):=by
 unfold F4 at h;split at h
 . next t p d=>
   cases lt
   . grind
   simp only[Rp]at h;split at h
   . next i e=>
     have f:xS L o env σ=some a:=by simp_all
     cases b:wD L mu o env with
     |none=>grind
     | some g=>
       left;unfold wD at b;simp only[d,e]at b;split at b
       . next j v off c k=>
         cases c
         simp_all
       . simp_all
       cases b
   cases h
 grind
def nW{mu ζ n lt σ K u}:∀{S env},B8 L mu ζ n lt σ K u S env->j8 L mu ζ n lt σ S env K
 |[],env,h=>h
 | i :: S,env,h=>by
   unfold B8 at h;unfold j8;split at h
   . next o e=>
     try simp only[e]
     obtain⟨b,f⟩:=h;rw[wL]at b;refine⟨b.1,b.2,?_⟩
     have main:(Ab (F4 L mu lt o env σ) λa=>B8 L mu ζ n lt σ K u S (bp env o.dst a))->(match wD L mu o env with
      |some a=>j8 L mu ζ n lt σ S (bp env o.dst a) K
      | none=>lt=true/\(match xS L o env σ with
        |some a=>j8 L mu ζ n lt σ S (bp env o.dst a) K
        |none=>False)):=by
      rintro⟨a,g,d⟩;rcases F5 L g with h|⟨h,j,c⟩
      . simp only[h];exact nW d
      simp only[h,c];exact⟨j,nW d⟩
     exact xY main nW f
   simp_all
def vL:Op->Bool
 |.defer _|.go _|.send _ _|.recv _ _ _|.select _ _=>false
 |.call c=>match c.callee with|.builtin .recover=>false|.builtin .close=>false|.invoke _ _=>false|_=>true
 |_=>true
def P7(m:Mo)(o:Oper)(env:Env)(σ:ab)(R:adv)(Kp:adv):Prop:=
 match o.op with
 |.call ⟨.value fo,args,_⟩=>cq P m (ak env fo) (args.toList.map (ak env)) σ λr b=>match r with|.val a=>R a b|.panic v=>Kp v b
 |_=>aJ P o env σ R Kp
def HT{m o env σ R Kp}(b:vL o.op=true)(h:P7 (P:=P) m o env σ R Kp):PZ P m o env σ R Kp:=by
 unfold P7 at h;split at h
 . next fo args a d=>exact .inl ⟨fo,args,a,d,h⟩
 exact .inr ⟨(λc e=>by rw[e]at b;cases b),h⟩
def aM(P:adT)(m:Mo)(ζ:adC)(n:Nat)(Kp:adv)(p:oB)(env:Env)(σ:ab)(R:adu):Prop:=jo P m ζ n Kp p env σ R
def P8(m:Mo)(mu:adL)(ζ:adC)(n:Nat)(Kp:adv)(i:Nat)(p:oB)(env:Env)(σ:ab)(go:adu)(R:adu)(u:wF go:=.mk):Prop:=
 match ζ[i]? with
 | some o=>Oper.ok n o=true/\Jg (xX ζ n env o) (if qd L o=true then sm (B7 L mu o env σ) (λa b=>go (bp env o.dst a) b) Kp else
    if vL o.op=true then P7 (P:=P) m o env σ (λa b=>aM P m ζ n Kp p (bp env o.dst a) b R) Kp else jQ P m ζ n Kp i env σ (λenv σ=>aM P m ζ n Kp p env σ R)) (go (bp env o.dst (.lit (.tuple #[]))) σ)
 |none=>False
def iL(m:Mo)(mu:adL)(ζ:adC)(n:Nat)(Kp:adv):oB->Env->ab->adu->Prop
 |.done,env,σ,R=>R env σ
 |.take S lt p,env,σ,R=>B8 L mu ζ n lt σ (λa=>iL m mu ζ n Kp p a σ R) .mk S env
 |.one i p,env,σ,R=>P8 L m mu ζ n Kp i p env σ (λenv σ=>iL m mu ζ n Kp p env σ R) R
 |.both i p q,env,σ,R=>P8 L m mu ζ n Kp i p env σ (λenv σ=>iL m mu ζ n Kp p env σ R) R/\iL m mu ζ n Kp q env σ R
def uJ{m mu ζ n Kp p R}(r:∀{env σ},iL L m mu ζ n Kp p env σ R->jo P m ζ n Kp p env σ R){i env σ}
 (h:P8 L m mu ζ n Kp i p env σ (λenv σ=>iL L m mu ζ n Kp p env σ R) R):jQ P m ζ n Kp i env σ (λenv σ=>jo P m ζ n Kp p env σ R):=by
 unfold P8 at h;split at h
 . next o g=>
   obtain⟨d,h⟩:=h;rcases AJ h with⟨s,h⟩|⟨j,b,x,t,u,v,w,k,l,y,q,h⟩
   . split at h
     . next f=>
       refine⟨o,g,d,.inl ⟨s,.inr ⟨λc e=>?_,(xV L f h).mono λa z=>r⟩⟩⟩;unfold qd sW at f;simp_all
     split at h
     . next A=>exact⟨o,g,d,.inl ⟨s,HT A h⟩⟩
     exact h
   exact⟨o,g,d,.inr ⟨⟨j,b,x,t,u,v,w,k,l,y,q⟩,r h⟩⟩
 exact h.elim
def jo.iL{m:Mo}(mu:adL){ζ:adC}{n:Nat}{Kp:adv}{R:adu}:∀{p:oB}{env:Env}{σ:ab},iL L m mu ζ n Kp p env σ R->jo P m ζ n Kp p env σ R
 |.done,_,_,h=>.done h
 |.take S lt p,_,_,h=>jo.take L mu (j8.mono L (λa h=>jo.iL mu h) (nW L h))
 |.one i p,_,_,h=>jo.one (uJ L (jo.iL mu) h)
 |.both i p q,_,_,h=>jo.both (uJ L (jo.iL mu) h.1) (jo.iL mu h.2)
def aM.go{m}  mu  {ζ n Kp R p env σ}(h:iL L m mu ζ n Kp p env σ R):aM P m ζ n Kp p env σ R:=jo.iL L mu h
def bF(m:Mo)(ξ n:Nat)(ro:adD)(mu:adL)(ω:List Entry):Nat->adH->St->adt->Prop
 |0,todo,s,K=>aa P m ξ n ro ω todo s K
 | f + 1,todo,s,K=>match todo with
   |[]=>K (.leave none) s
   |.code .ret::_=>K (.leave (some .ret)) s
   |.code .skip::k=>bF m ξ n ro mu ω f k s K
   |.code (.label _)::k=>bF m ξ n ro mu ω f k s K
   |.inBlock _::k=>bF m ξ n ro mu ω f k s K
   |.inScope _::k=>bF m ξ n ro mu ω f k s K
   |.code (.seq a b)::k=>bF m ξ n ro mu ω f (.code a::.code b::k) s K
   |.code (.block id c)::k=>bF m ξ n ro mu ω f (.code c::.inBlock id::k) s K
   |.code (.scope c)::k=>bF m ξ n ro mu ω f (.code c::.inScope c::k) s K
   | .code (.exit id)::k=>match exitTo id k with
     |some g=>bF m ξ n ro mu ω f g s K
     |none=>K (.leave (some (.exit id))) s
   | .code (.cond c a b)::k=>Operand.ok n c=true/\(match ak s.env c with
     |.lit (.bool x)=>vJ x (bF m ξ n ro mu ω f (.code a::k) s K) (bF m ξ n ro mu ω f (.code b::k) s K)
     |_=>False)
   |.code (.region _ ζ false)::k=>bF m ξ n ro mu ω f (.inRegion ζ (List.range ζ.size)::k) s K
   | .code (.region id ζ true)::k=>match ω.find? λe=>e.id==id with
     |some ⟨_,p⟩=>iL L m mu ζ n (λv σ=>∀env,K (.panic v) {s with env,σ}) p s.env s.σ (λenv σ=>aa P m ξ n ro ω k {s with env,σ} K)
     |none=>aa P m ξ n ro ω (.code (.region id ζ true)::k) s K
   |.inRegion _ []::k=>bF m ξ n ro mu ω f k s K
   | .inRegion ζ (i::is)::k=>match ζ[i]? with
     | some o=>Oper.ok n o=true/\
       Jg (xX ζ n s.env o) (if qd L o=true then sm (B7 L mu o s.env s.σ) (λa d=>bF m ξ n ro mu ω f (.inRegion ζ is::k) {s with env:=bp s.env o.dst a,σ:=d} K) (λa d=>K (.panic a) {s with σ:=d})
        else if vL o.op=true then P7 (P:=P) m o s.env s.σ (λa d=>aa P m ξ n ro ω (.inRegion ζ is::k) {s with env:=bp s.env o.dst a,σ:=d} K) (λa d=>∀env,K (.panic a) {s with env,σ:=d})
        else aa P m ξ n ro ω (.inRegion ζ (i::is)::k) s K) (bF m ξ n ro mu ω f (.inRegion ζ is::k) {s with env:=bp s.env o.dst (.lit (.tuple #[]))} K)
     |none=>aa P m ξ n ro ω (.inRegion ζ (i::is)::k) s K
   |todo=>aa P m ξ n ro ω todo s K
def Go.bF{m:Mo}{ξ n:Nat}{ro:adD}(mu:adL)(ω:List Entry):∀(f:Nat){todo:adH}{s:St}{K:adt},kh ω todo=true->bF L m ξ n ro mu ω f todo s K->Go P m ξ n ro todo s K
 |0,_,_,_,g,h=>h g
 | f + 1,todo,s,K,g,h=>by
   unfold ck.bF at h;split at h
   . exact .leave (.inl ⟨rfl,rfl⟩) h
   . exact .leave (.inr (.inl ⟨_,rfl,rfl⟩)) h
   . exact .skip (Go.bF mu ω f (by simpa[kh,lE]using g) h)
   . exact .label (Go.bF mu ω f (by simpa[kh,lE]using g) h)
   . exact .inBlock (Go.bF mu ω f (by simpa[kh,lE]using g) h)
   . exact .inScope (Go.bF mu ω f (by simpa[kh,lE]using g) h)
   . exact .seq (Go.bF mu ω f (by simpa[kh,lE,and_assoc]using g) h)
   . exact .block (Go.bF mu ω f (by simpa[kh,lE]using g) h)
   . exact .scope (Go.bF mu ω f (by simpa[kh,lE]using g) h)
   . split at h
     . next S A=>exact .exit A (Go.bF mu ω f (LY A (by simp only[kh,abL,wL]at g ⊢;exact g.2)) h)
     next A=>exact .leave (.inr (.inr ⟨_,_,rfl,A,rfl⟩)) h
   . next c a b k=>
     obtain⟨B,u⟩:=h;split at u
     . next x C=>
       refine .cond C B ?_;cases x
       . exact Go.bF mu ω f (by simp only[kh,abL,wL,lE]at g ⊢;simp_all) (u.2 rfl)
       exact Go.bF mu ω f (by simp only[kh,abL,wL,lE]at g ⊢;simp_all) (u.1 rfl)
     simp_all
   . exact .region (Go.bF mu ω f (by simpa[kh,lE]using g) h)
   . next id ζ k=>
     split at h
     . next E p N=>
       have F:s8 ζ ⟨E,p⟩=true:=by simp only[kh,abL,lE,N,wL]at g;exact g.1
       simp only[s8,wL]at F;obtain⟨env,σ,D,rc⟩:=s;refine Go.draw L.mixed F.1 λl B u O=>?_
       exact dh.mono (λenv σ h=>h (by simp only[kh,abL,wL]at g ⊢;exact g.2)) _ _ _ (jo.iL L mu h _ _ _ F.2 l B u O (λ_ _ _ h=>by cases h))
     exact h g
   . exact .AB (Go.bF mu ω f (by simpa[kh,lE]using g) h)
   . next ζ i is k=>
     split at h
     . next o G=>
       obtain⟨w,h⟩:=h;have q:kh ω (.inRegion ζ is::k)=true:=by simpa[kh,lE]using g
       rcases AJ h with⟨M,t⟩|⟨j,b,x,d,T,t,Q,hd,H,C,I,h⟩
       . split at t
         . next y=>
           refine .op G M w (λc e=>?_) ?_
           . unfold qd sW at y;simp_all
           exact(xV L y t).mono λa r J=>Go.bF mu ω f q J
         split at t
         . next R=>
           have z:dh P m ζ n (λa r=>∀env,K (.panic a) {s with env,σ:=r}) [i] s.env s.σ (λenv r=>Go P m ξ n ro (.inRegion ζ is::k) {s with env,σ:=r} K):=⟨o,G,w,.inl ⟨M,(HT R t).mono λa r J=>J q⟩⟩
           exact Go.U6 (λv env σ h=>h env) z
         exact t g
       exact .unwanted G t Q hd H C I (Go.bF mu ω f q h)
     exact h g
   exact h g
end

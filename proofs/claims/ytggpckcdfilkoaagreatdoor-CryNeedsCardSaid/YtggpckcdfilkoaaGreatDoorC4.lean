import Derived.Orders
import Derived.Test.YtggpckcdfilkoaaGreatDoorC3
set_option linter.all false
namespace Go.bu
open Go.Conc
def bt.congr{P o ε a σ K Kp}(h:bt P o ε σ K Kp)(d:∀x∈o.op.operands,aA a x=aA ε x):bt P o a σ K Kp:=λk O b e c=>h k O b am c
def Wv(P:Rg)(m:Mo)(o:Oper)(ε:Env)(σ:af)(R:CU)(Kp:CU):Prop:=
 (∃fo args d,o.op=.call ⟨.value fo,args,d⟩/\cQ P m (aA ε fo) (args.toList.map (aA ε)) σ (λr b=>match r with|.val a=>R a b|.panic v=>Kp v b))\/
 ((∀c,o.op≠.defer c)/\bt P o ε σ R Kp)
def Wv.mono{P m o ε σ R e Kp}(h:Wv P m o ε σ R Kp)(f:∀a σ,R a σ->e a σ):Wv P m o ε σ e Kp:=by
 rcases h with⟨fo,args,b,c,d⟩|⟨c,d⟩
 . refine .inl ⟨fo,args,b,c,d.mono λr g i=>?_⟩
   grind
 . exact .inr ⟨c,d.mono f⟩
def Wv.congr{P m o ε a σ R Kp}(h:Wv P m o ε σ R Kp)(e:∀x∈o.op.operands,aA a x=aA ε x):Wv P m o a σ R Kp:=by
 rcases h with⟨fo,args,b,c,d⟩|⟨c,d⟩
 . refine .inl ⟨fo,args,b,c,?_⟩
   have f:aA a fo=aA ε fo:=aq;have g:args.toList.map (aA a)=args.toList.map (aA ε):=aq
   grind
 . exact .inr ⟨c,d.congr e⟩
def ri(ο:Cx)(n:Nat)(ε:Env)(o:Oper):Prop:=∃j b x d a,o.guard=some (j,b)/\ο[j]?=some a/\a.dst=some d/\d<n/\ε d=.lit x/\Lz x b
def fC(P:Rg)(m:Mo)(ο:Cx)(n:Nat)(Kp:CU):ZB->Env->af->FI->Prop
 |[],ε,σ,R=>R ε σ
 | i::l,ε,σ,R=>∃o,ο[i]?=some o/\Oper.ok n o=true/\
   ((dC ο n ε o/\Wv P m o ε σ (λa b=>fC P m ο n Kp l (cG ε o.dst a) b R) Kp)\/(ri ο n ε o/\fC P m ο n Kp l (cG ε o.dst (.lit (.tuple #[]))) σ R))
section
variable{P:Rg}{m:Mo}{φ n:Nat}{ro:Dm}{D:List Fg}{rc:Rec}{K:Ci}{k:AJ}{ο:Cx}
def Go.yT{Kp}:∀  l   ε   σ ,(∀v ε σ,Kp v σ->K (.panic v) ⟨ε,σ,D,rc⟩) ->
 fC P m ο n Kp l ε σ (λε σ=>Go P m φ n ro k ⟨ε,σ,D,rc⟩ K)->Go P m φ n ro (.inRegion ο l::k) ⟨ε,σ,D,rc⟩ K
 |[],ε,σ,_,h=>.FX h
 | i :: l,ε,σ,f,⟨o,p,e,h⟩=>by
   rcases h with⟨B,h⟩|⟨⟨j,b,x,d,R,C,E,hd,q,F,s⟩,h⟩
   . rcases h with⟨fo,args,G,t,u⟩|⟨t,u⟩
     . refine .call p t B e (u.mono λr c H=>?_)
       cases r with
       |val a=>exact Go.yT l _ c f H
       |panic v=>grind
     . refine .op p B e t ?_
       intro I O J w L;refine mK _ (u I O J w L) (λ_ _ _ ⟨v,M,N,Q,g,A,a,c,x,y,z⟩=>⟨v,M,N,Q,g,A,a,c,x,y,Go.yT l _ c f z⟩) am
   . exact .unwanted p C E hd q F s (Go.yT l _ σ f h)
def LC(P:Rg)(o:Oper)(ε:Env)(a:AV):Prop:=∀σ,bt P o ε σ (λc b=>c=a/\b=σ) (λ_ _=>False)
def yU(P:Rg)(o:Oper)(ε:Env)(σ:af)(a:AV):Prop:=bt P o ε σ (λc b=>c=a/\b=σ) (λ_ _=>False)
def oe(ο:Cx)(j i:Nat):Bool:=match ο[i]? with|some o=>o.after.toList.any λe=>Region.binds .any e && e.on==j|none=>false
def jI(ο:Cx)(o:Oper):ZB:=(o.op.operands.toList.filterMap fun|.tmp t=>some t|_=>none)++(match o.guard with|some (j,_)=>(match (ο[j]?).bind (·.dst)with|some d=>[d]|none=>[])|none=>[])
def qN(ο:Cx)(μ S:ZB):Bool:=
 μ.all fun i=>match ο[i]? with
  |none=>false
  | some o=>
    μ.all λj=>match ο[j]? with
     |none=>false
     | some a=>match a.dst with
       |none=>true
       | some d=>
         (if (jI ο o).contains d then
           (if S.contains i then(if S.contains j then oe ο j i && Nat.blt j i else oe ο i j)
            else(if S.contains j then oe ο j i else true))else true) &&
         (if S.contains i && i !=j && o.dst==some d then false else true)
def xh(ο:Cx):Bool:=(List.range ο.size).all λi=>match ο[i]? with|none=>false|some o=>o.after.toList.all λe=>!Region.binds .any e||Nat.blt e.on i
def aiF{ο}(h:xh ο=true):∀i o,ο[i]?=some o->∀e∈o.after,Region.binds .any e=true->e.on<i:=by
 intro i o b e c hb;have a:=LF.1 h i am;simp only[b]at a;have d:=LF.1 a e aq
 simp_all
def og(ο:Cx):ZB->ZB->Prop
 |_,[]=>True
 |done,i::l=>(∀j,oe ο j i=true->j∈done)/\i∉done/\og ο (i::done) l
theorem v7{ε a x}(h:∀t,x=.tmp t->a t=ε t):aA a x=aA ε x:=by cases x<;>first|rfl|simp_all
theorem mem_reads{o}{t:Nat}(h:Operand.tmp t∈o.op.operands):t∈jI ο o:=by refine E4.2 (.inl (List.mem_filterMap.2 ⟨.tmp t,am,rfl⟩))
theorem F1{o a}{j:Nat}{b}{d:Nat}(c:o.guard=some (j,b))(hj:ο[j]?=some a)(hd:a.dst=some d):d∈jI ο o:=by
 unfold jI
 grind
def dC.congr{ε a o}(h:dC ο n ε o)(b:∀t∈jI ο o,a t=ε t):dC ο n a o:=by
 unfold dC at h ⊢
 grind [F1]
def ri.congr{ε a o}(h:ri ο n ε o)(k:∀t∈jI ο o,a t=ε t):ri ο n a o:=by obtain⟨j,b,x,d,f,g,i,hd,c,l,e⟩:=h;exact⟨j,b,x,d,f,g,i,hd,c,by grind [F1],e⟩
theorem rj  ε   dst   a   t :cG ε dst a t=if dst=some t then a else ε t:=by
 cases dst with
 |none=>simp
 | some d=>
   by_cases h:t=d
   . simp_all
   simp_all [vj]
def late(ο:Cx)(μ S:ZB)(i:Nat):Bool:=μ.all λj=>S.contains j||oe ο i j
def Hh(P:Rg)(ο:Cx)(n:Nat)(μ S:ZB)(a:Env)(σ:af)(i:Nat):Prop:=∃o,ο[i]?=some o/\Oper.ok n o=true/\((dC ο n a o/\∃d,o.dst=some d/\(∀c,o.op≠.defer c)/\(LC P o a (a d)\/(late ο μ S i=true/\yU P o a σ (a d))))\/(ri ο n a o/\∃d,o.dst=some d/\a d=.lit (.tuple #[])))
def pa{μ S}(a:qN ο μ S=true){i j o e}{d:Nat}(b:i∈μ)(c:j∈μ)(hi:ο[i]?=some o)(hj:ο[j]?=some e)(hd:e.dst=some d):
 (d∈jI ο o->(i∈S->(j∈S->oe ο j i=true/\j<i)/\(j∉S->oe ο i j=true))/\(i∉S->j∈S->oe ο j i=true))/\(i∈S->i≠j->o.dst≠some d):=by
 unfold qN at a;rw[LF]at a;have f:=a i b;simp only[hi]at f;have g:=LF.1 f j c;simp only[hj,hd,vc]at g;obtain⟨l,m⟩:=g;refine⟨λn=>?_,λh k p=>?_⟩
 . refine⟨λh=>⟨λhj=>?_,λhj=>?_⟩,λh hj=>?_⟩
   . simp_all
   . grind
   grind
 grind
theorem hoist{μ S Kp R}(B:qN ο μ S=true):
 ∀  l done   ε b   σ ,(∀i∈l,i∈μ)->og ο done l->(∀i∈l,i∉done)->l.Nodup->(∀i∈l,∃o,ο[i]?=some o) ->
  (∀i∈l,i∈S->Hh P ο n μ S b σ i)->(∀t,(∀i∈l,i∈S->∀o,ο[i]?=some o->o.dst≠some t)->b t=ε t) ->
  fC P m ο n Kp (l.filter λi=>!S.contains i) b σ R->fC P m ο n Kp l ε σ R
 | [],done,ε,b,σ,_,_,_,_,_,_,Q,h=>by
   have:b=ε:=am
   grind
 | i :: l, done,ε,b,σ,X,Y,Z,T,C,U,Q,h=>by
   obtain⟨a1,a2,V⟩:=Y;obtain⟨o,s⟩:=C i ap;have a7:i∉l:=am
   have a8:∀t∈jI ο o,b t=ε t:=λt W=>Q t λj G D H e hd=>by
    obtain⟨c1,_⟩:=pa B am am s e hd
    grind
   have u:∀x∈o.op.operands,aA ε x=aA b x:=(by grind [v7,mem_reads]);have w:∀j∈l,j∉i::done:=am;by_cases I:i∈S
   . have J:(i::l).filter (λi=>!S.contains i)=l.filter λi=>!S.contains i:=am
     rw[J]at h;obtain⟨o',f,k,p⟩:=U i ap I;rw[s]at f;cases f
     have next:∀a d,o.dst=some d->b d=a->fC P m ο n Kp l (cG ε o.dst a) σ R:=λa d hd a9=>
      hoist B l (i::done) (cG ε o.dst a) b σ am V w am am am (λt W=>by
       rw[rj,hd]
       grind) h
     rcases p with⟨p,d,hd,z,q⟩|⟨p,d,hd,G⟩
     . refine⟨o,s,k,.inl ⟨p.congr am,.inr ⟨z,?_⟩⟩⟩
       have:=(show yU P o b σ (b d)from q.elim (λh=>h σ) am).congr u;intro kk O ρ K hr;refine mK _ (this kk O ρ K hr) (λ_ _ _ ⟨v,hv,k2,O2,g,L,a,c,x,y,e1,e2⟩=>⟨v,hv,k2,O2,g,L,a,c,x,y,?_⟩) am
       grind
     . exact⟨o,s,k,.inr ⟨p.congr am,next _ d hd G⟩⟩
   . have J : (i::l).filter (λi=>!S.contains i)=i::l.filter λi=>!S.contains i:=am
     rw[J]at h;obtain⟨o',f,k,p⟩:=h;rw[s]at f;cases f
     have next:∀a c,fC P m ο n Kp (l.filter λi=>!S.contains i) (cG b o.dst a) c R->fC P m ο n Kp l (cG ε o.dst a) c R:=λa c h'=>
      hoist B l (i::done) (cG ε o.dst a) (cG b o.dst a) c am V w am am
       (fun j G D=>by
         obtain⟨H,e,E,M⟩:=U j (by simp[G]) D;have ab:j≠i:=am
         have r:∀t∈jI ο H,cG b o.dst a t=b t:=λt W=>by
          rw[rj];by_cases hd:o.dst=some t
          . obtain⟨c1,_⟩:=pa B am am e s hd
            grind
          grind
         have F:∀d,H.dst=some d->cG b o.dst a d=b d:=λd hd=>by
          rw[rj];by_cases N:o.dst=some d
          . obtain⟨_,c2⟩:=pa B am am e s N
            grind
          grind
         refine⟨H,e,E,?_⟩;rcases M with⟨A,d,hd,z,q⟩|⟨A,d,hd,ad⟩
         . refine .inl ⟨A.congr r,d,hd,z,.inl λσ=>?_⟩
           rw[F d hd];rcases q with q|⟨hl,_⟩
           . exact(q σ).congr λx hx=>v7 (by grind [mem_reads])
           . have:=LF.1 hl i am
             grind
         . exact .inr ⟨A.congr r,d,hd,am⟩)
       (by grind [rj]) h'
     rcases p with⟨p,h⟩|⟨p,h⟩
     . exact⟨o,s,k,.inl ⟨p.congr am,(h.congr u).mono ac⟩⟩
     . exact⟨o,s,k,.inr ⟨p.congr am,next _ σ h⟩⟩
def og.sub  p :∀  l done a ,og ο done l->(∀i∈done,i∈a)->(∀i∈l,p i=false->i∈a)->(∀i∈l,p i=true->i∉a)->l.Nodup->og ο a (l.filter p)
 |[],_,_,_,_,_,_,_=>trivial
 | i ::l,done,a,⟨d,e,b⟩,f,g,h,j=>by
   by_cases c:p i=true
   . rw[List.filter_cons_of_pos c]
     refine⟨am,am,?_⟩;exact og.sub p l _ _ b am am am am
   . rw[List.filter_cons_of_neg c]
     exact og.sub p l _ a b am am am am
def aed(g:∀i o,ο[i]?=some o->∀e∈o.after,Region.binds .any e=true->e.on<i):∀  fuel t   listed   done ,listed.size=ο.size->(∀i,i<ο.size->(listed.getD i true=true↔i∈done)) ->
 ((List.range ο.size).filter λi=>!listed.getD i true).length<=fuel ->
 og ο done (Region.linearise.go .any ο fuel t listed [])/\(Region.linearise.go .any ο fuel t listed []).Nodup/\(∀i∈Region.linearise.go .any ο fuel t listed [],i∉done/\i<ο.size)/\∀i,i<ο.size->(i∈Region.linearise.go .any ο fuel t listed []\/i∈done):=by
 intro fuel;induction fuel with
 | zero=>
   intro t listed done n hd y;have m:(List.range ο.size).filter (λi=>!listed.getD i true)=[]:=am;unfold Region.linearise.go;refine⟨trivial,KS,am,λi b=>.inr ((hd i b).1 ?_)⟩
   grind [List.filter_eq_nil_iff]
 | succ fuel z=>
   intro t listed done n hd y;unfold Region.linearise.go;simp only[];generalize p:(List.range ο.size).filter (λi=>!listed.getD i true && ((ο[i]?).map (·.after.all λe=>!Region.binds .any e||listed.getD e.on false)).getD false)=rs
   have d:∀i,i∈rs↔i<ο.size/\listed.getD i true=false/\∃o,ο[i]?=some o/\∀e∈o.after,Region.binds .any e=true->listed.getD e.on false=true:=by
    intro i;rw[<-p,LB,wL];refine and_congr_right λb=>?_
    rw[vc,Kr];refine and_congr_right λ_=>?_
    have q:ο[i]?=some ο[i]:=am;rw[q];simp only[IP,IE,HV,Mb,Kr,td,exists_eq_left']
    grind
   have A:∀j,j<ο.size->listed.getD j false=listed.getD j true:=am;cases b:rs[t % rs.length]? with
   | none=>
     simp only[]
     have w:rs=[]:=by
      cases rs with
      |nil=>rfl
      | cons x xs=>
        have B:=List.getElem?_eq_none_iff.1 b;have K:t % (x::xs).length<(x::xs).length:=JP _ ap;omega
     refine⟨trivial,KS,λi b=>(by cases b),?_⟩;intro i;induction i using Nat.strongRecOn with
     | ind i C=>
       intro b;refine .inr ((hd i b).1 ?_);cases D:listed.getD i true with
       |true=>rfl
       | false=>
         have:i∈rs:=(d i).2 ⟨b,D,ο[i],Ie b,λe m hb=>by
          have E:=g i ο[i] (Ie b) e m hb
          grind⟩
         grind
   | some i=>
     simp only[];rw[linearise_go_acc,List.reverse_singleton,K7];have r:=List.mem_of_getElem? b;obtain⟨s,F,o,q,k⟩:=(d i).1 r;have l:i∉done:=λh=>am
     have f:∀j,j<ο.size->((listed.setIfInBounds i true).getD j true=if j=i then true else listed.getD j true):=λj c=>by
      by_cases a:j=i
      . subst a;simp
      . rw[wN a];exact getD_set_ne true (vj a)
     obtain⟨G,H,u,I⟩:=z (t / rs.length) (listed.setIfInBounds i true) (i::done) am (λj c=>by
      rw[f j c];by_cases a:j=i
      . simp[a]
      grind) (by
      have J:(List.range ο.size).filter (λj=>!(listed.setIfInBounds i true).getD j true)=((List.range ο.size).filter (λj=>!listed.getD j true)).filter (· !=i):=by
       rw[J4];refine Ff λj c=>?_
       rw[f j (wL.1 c)];by_cases a:j=i<;>simp[a]
      rw[J];have:(((List.range ο.size).filter (λj=>!listed.getD j true)).filter (· !=i)).length<((List.range ο.size).filter (λj=>!listed.getD j true)).length:=List.length_filter_lt_length_iff_exists.2 ⟨i,LB.2 ⟨wL.2 s,am⟩,ap⟩;omega)
     refine⟨⟨λj c=>?_,l,G⟩,List.nodup_cons.2 ⟨λh=>(u i h).1 ap,H⟩,λj c=>?_,λj c=>?_⟩
     . unfold oe at c
       rw[q]at c;obtain⟨e,m,hb⟩:=ES.1 c;simp only[vc,DW]at hb;have v:e∈o.after:=by simpa using m
       have B:=k e v hb.1
       grind
     . rcases Cv.1 c with e|e
       . grind
       . exact⟨λh=>(u j e).1 (by simp[h]),(u j e).2⟩
     . rcases I j c with h|h
       . exact .inl (by simp[h])
       . rcases Cv.1 h with e|e
         . exact .inl (by simp[e])
         grind
def abw(a:∀i o,ο[i]?=some o->∀e∈o.after,Region.binds .any e=true->e.on<i)  t :
 og ο [] (Region.linearise .any ο t)/\(Region.linearise .any ο t).Nodup/\(∀i,i∈Region.linearise .any ο t↔i<ο.size):=by
 obtain⟨b,c,d,f⟩:=aed a ο.size t (Array.replicate ο.size false) [] ap aq am;refine⟨b,c,λi=>⟨λh=>(d i h).2,λh=>?_⟩⟩;rcases f i h with h|h
 . exact h
 grind
end
section
variable{P:Rg}{m:Mo}{φ n:Nat}{ro:Dm}{D:List Fg}{rc:Rec}{K:Ci}{k:AJ}{ο:Cx}{Kp:CU}
def Any(P:Rg)(m:Mo)(ο:Cx)(n:Nat)(Kp:CU)(done μ:ZB)(ε:Env)(σ:af)(R:FI):Prop:=∀l,og ο done l->l.Nodup->(∀i,i∈l↔i∈μ)->fC P m ο n Kp l ε σ R
def Go.draw{id}(d:P.follows .mixedOrders=true)(e:xh ο=true){ε σ}
 (h:Any P m ο n (λv σ=>∀ε,K (.panic v) ⟨ε,σ,D,rc⟩) [] (List.range ο.size) ε σ (λε σ=>Go P m φ n ro k ⟨ε,σ,D,rc⟩ K)):Go P m φ n ro (.code (.region id ο true)::k) ⟨ε,σ,D,rc⟩ K:=by
 intro Q c O τ ξ ν cs f i j;refine .step (λl o g=>l=c/\o=O/\∃t,g=G ⟨φ,τ,.inRegion ο (Region.linearise .any ο t)::k,ξ,.run,ν,ro⟩ (oV rc cs)) rfl ?_ ?_
 . rintro _ _ _ ⟨rfl,rfl,t,rfl⟩
   obtain⟨p,q,r⟩:=abw (aiF e) t;have:=h _ p q am;exact Go.yT   _ ε σ am this _ _ _ τ ξ ν cs f i j
 . intro w a
   refine⟨G ⟨φ,τ,.inRegion ο (Region.linearise .any ο (w.tape w.drawn (.order φ id)))::k,ξ,.run,ν,ro⟩ _,{w with drawn:=w.drawn+1},#[],c,O,?_,?_,?_,rfl,rfl,_,rfl⟩
   . simp[G,stepG,stepG.exec,Question.forced,Question.cut,Region.schedule,d]
   . exact{le:=.refl _,size:=AK _,keep:=am,tail:=am,part:=am,shape:=λ_ _=>rfl,own:=λb x h=>.inl ⟨x,h,.refl x⟩,cell:=am,sh:=am,evs:=am,tape:=rfl,output:=rfl,os:=rfl,low:=am,tok:=am}
   . exact⟨a.apart,a.cell,a.sh,a.obj,a.tail,a.part⟩
def oh(P:Rg)(m:Mo)(ο:Cx)(n:Nat)(Kp:CU)(i:Nat)(ε:Env)(σ:af)(R:FI):Prop:=
 ∃ o,ο[i]?=some o/\Oper.ok n o=true/\
   ((dC ο n ε o/\Wv P m o ε σ (λa b=>R (cG ε o.dst a) b) Kp)\/(ri ο n ε o/\R (cG ε o.dst (.lit (.tuple #[]))) σ))
section
variable(L:lz P)
instance(n:Int):Decidable (fits n):=by unfold fits;infer_instance
def Db(op:BinOp)(kd:IntKind)(a b:Int):FP:=
 match op,kd with
 |.add,.i64=>if fits (a+b)then some (.int .i64 (a+b))else none
 |.sub,.i64=>if fits (a-b)then some (.int .i64 (a-b))else none
 |.mul,.i64=>if fits (a*b)then some (.int .i64 (a*b))else none
 |.eql,_=>some (.bool (a==b))
 |.neq,_=>some (.bool (a !=b))
 |.lss,_=>some (.bool (decide (a<b)))
 |.leq,_=>some (.bool (decide (a<=b)))
 |.gtr,_=>some (.bool (decide (a>b)))
 |.geq,_=>some (.bool (decide (a>=b)))
 |.shl,_=>if 0<=b then some (.int kd (kd.wrap (a*2 ^ (min b.toNat kd.bits))))else none
 |.shr,_=>if 0<=b then some (.int kd (a.fdiv (2 ^ (min b.toNat kd.bits))))else none
 |op,kd=>vQ op kd a b
theorem abl{op kd a b v R}(h:Db op kd a b=some v)(c:R v):yi op kd a b R:=by
 unfold Db at h;unfold yi;split at h
 . grind
 . grind
 . grind
 . grind
 . grind
 . grind
 . grind
 . grind
 . grind
 . grind
 . grind
 grind
def Cj(mu:ZB)(o:Oper)(ε:Env):IM:=
 match o.op with
 |.move x|.assign x=>some (aA ε x)
 | .pick c a b=>match aA ε c with
   |.lit (.bool x)=>some (if x then aA ε a else aA ε b)
   |_=>none
 |.box _ x=>if(match o.dst with|some d=>mu.contains d|none=>false)=true then none else if(aA ε x).cells.all AV.flat=true then some (.cp (aA ε x) 0)else none
 | .load t p=>match L.tt t,aA ε p with
   |some i,.cp v off=>eh v.cells off i.size i.agg
   |some i,.kp _ l hole off=>Wt l hole off i.size i.agg
   |_,_=>none
 | .fieldAddr s x j=>match L.tt s with
   | some ⟨.struct,_,_,_,o6⟩=>(match o6[j]? with
     |some f=>if f.2.1≠0 then yL (aA ε x) f.1 else none
     |none=>none)
   |_=>none
 | .field s x j=>match L.tt s,aA ε x with
   | some ⟨.struct,_,_,_,o6⟩,.agg l=>(match o6[j]? with
     |some f=>(match L.tt f.2.2 with|some n=>eh l f.1 n.size n.agg|none=>none)
     |none=>none)
   |_,_=>none
 | .indexAddr t x h=>match L.tt t with
   | some ⟨.slice e,_,_,_,_⟩=>(match L.tt e,aA ε x,aA ε h with
     |some g,.sl q es _,.lit (.int _ z)=>if q=g.size/\0<=z then(es[z.toNat]?).map (λa=>.cp a 0)else none
     |some g,.mJ b off len _,.lit (.int _ z)=>if 0<=z/\z<len then some (.ref b (off+z.toNat*g.size))else none
     |_,_,_=>none)
   | some ⟨.array k e,_,_,_,_⟩=>(match L.tt e,aA ε h with
     |some g,.lit (.int _ z)=>if 0<=z/\z<k then yL (aA ε x) (z.toNat*g.size)else none
     |_,_=>none)
   |_=>none
 | .index t x h=>match L.tt t with
   | some ⟨.array k e,_,_,_,_⟩=>(match L.tt e,aA ε x,aA ε h with
     |some g,.agg l,.lit (.int _ z)=>if 0<=z/\z<k then eh l (z.toNat*g.size) g.size g.agg else none
     |_,_,_=>none)
   |_=>none
 | .binOp op t x y _=>match L.tt t with
   | some ⟨.int _,_,_,_,_⟩=>(match aA ε x,aA ε y with
     |.lit (.int kd a),.lit (.int m b)=>if kd=m\/op=.shl\/op=.shr then(Db op kd a b).map .lit else none
     |_,_=>none)
   |_=>none
 | .unOp .not _ x=>match aA ε x with
   |.lit (.bool b)=>some (.lit (.bool !b))
   |_=>none
 | .convert s t x=>match L.tt s,L.tt t,aA ε x with
   |some ⟨.int _,_,_,_,_⟩,some ⟨.int kd,_,_,_,_⟩,.lit (.int _ a)=>some (.lit (.int kd (kd.wrap a)))
   |_,_,_=>none
 | .makeInterface t x=>match L.tt t with
   |some i=>if i.kind≠.iface then some (.pH t (aA ε x))else none
   |none=>none
 |.makeFunc f fs cs=>some (.fn f (fs.toList.map (aA ε)) (cs.toList.map (aA ε)))
 | .extract x j=>match aA ε x with
   |.cx l=>l[j]?
   |_=>none
 | .nilCheck x=>match aA ε x with
   |.cp v off=>some (.cp v off)
   |.ref b off=>some (.ref b off)
   |.kp b l hole off=>some (.kp b l hole off)
   |_=>none
 | .call c=>match c.callee,c.args.toList with
   | .builtin .len,[x]=>(match c.argTypes[0]? with
     | some t=>(match L.tt t with
       | some ⟨.slice _,_,_,_,_⟩=>(match aA ε x with
         |.sl _ es _=>some (.lit (.int .i64 es.length))
         |.lit (.slice none 0 0)=>some (.lit (.int .i64 0))
         |.mJ _ _ len _=>some (.lit (.int .i64 len))
         |_=>none)
       |_=>none)
     |none=>none)
   |_,_=>none
 |_=>none
theorem ahL{mu o ε a}(h:Cj L mu o ε=some a):(∀c,o.op≠.defer c)/\LC P o ε a:=by
 have key:yR L o=true/\∀(K:CU) σ,K a σ->Ly L mu o ε σ K (λ_ _=>False):=by
  unfold Cj at h;unfold yR Ly;split at h
  . simp_all
  . simp_all
  . next c x y b=>
    simp only[b]
    grind
  . next t x b=>
    simp only[b]
    grind
  . next t p b=>
    simp only[b];split at h
    . simp_all
    . simp_all
    grind
  . next s x j b=>
    simp only[b]
    grind
  . next s x j b=>
    simp only[b]
    grind
  . next t x g b=>
    simp only[b];split at h
    . next e i l m n d=>
      simp only[d]
      grind
    . next k e i l m n d=>
      simp only[d]
      grind
    grind
  . next t x g b=>
    simp only[b];split at h
    . grind
    grind
  . next op t x y v b=>
    simp only[b]
    grind [Option.map_eq_some_iff,abl]
  . next t x b=>
    simp only[b]
    grind
  . next s t x b=>
    simp only[b]
    grind
  . next t x b=>
    simp only[b]
    grind
  . simp_all
  . next x j b=>
    simp only[b]
    grind
  . next x b=>
    simp only[b]
    grind
  . next c b=>
    simp only[b];split at h
    . next x q r=>
      simp only[q,r]
      grind
    grind
  grind
 refine⟨λc e=>?_,λσ=>ajC L key.1 (key.2 (λu f=>u=a/\f=σ) σ ⟨rfl,rfl⟩)⟩
 simp_all
def Dc(o:Oper)(ε:Env)(σ:af):IM:=
 match o.op with
 | .load t p=>match L.tt t with
   |some i=>xR i σ (aA ε p)
   |none=>none
 |_=>none
theorem ajl{o ε σ a}(h:Dc L o ε σ=some a):(∀c,o.op≠.defer c)/\yU P o ε σ a:=by
 unfold Dc at h;split at h
 . next t p b=>
   split at h
   . next i d=>exact⟨am,Hf L b d h am⟩
   grind
 grind
def oW(mu:ZB)(ο:Cx)(n:Nat)(lt:Bool)(σ:af):ZB->Env->(Env->Prop)->Prop
 |[],ε,K=>K ε
 | i :: S,ε,K=>match ο[i]? with
   | some o=>Oper.ok n o=true/\o.dst.isSome=true/\yj ο n ε o (match Cj L mu o ε with
      |some a=>oW mu ο n lt σ S (cG ε o.dst a) K
      | none=>lt=true/\(match Dc L o ε σ with
        |some a=>oW mu ο n lt σ S (cG ε o.dst a) K
        |none=>False)) (oW mu ο n lt σ S (cG ε o.dst (.lit (.tuple #[]))) K)
   |none=>False
def ascending:ZB->Bool
 |i::j::l=>Nat.blt i j && ascending (j::l)
 |_=>true
def v8{i}:∀{l},ascending (i::l)=true->ascending l=true/\∀j∈l,i<j
 |[],_=>⟨rfl,am⟩
 | a::l,h=>by
   simp  [ascending,vc]at h;obtain⟨c,b⟩:=h;have d:=v8 b
   grind
def Dd{mu μ σ lt}  g  (w:qN ο μ g=true) (l:lt=true->∀i∈g,late ο μ g i=true):∀  S   ε   K ,ascending S=true->(∀i∈S,i∈g/\i∈μ)->oW L mu ο n lt σ S ε K ->
 ∃e,K e/\(∀i∈S,Hh P ο n μ g e σ i)/\∀t,(∀i∈S,∀o,ο[i]?=some o->o.dst≠some t)->e t=ε t
 |[],ε,K,_,_,h=>⟨ε,h,am,am⟩
 | i :: S, ε,K,y,M,h=>by
   obtain⟨y,Q⟩:=v8 y;unfold oW at h;split at h
   . next o r=>
     obtain⟨z,A,h⟩:=h;obtain⟨d,hd⟩:=OY.1 A
     have γ:∀a,oW L mu ο n lt σ S (cG ε o.dst a) K->((dC ο n ε o/\(∀c,o.op≠.defer c)/\(LC P o ε a\/(late ο μ g i=true/\yU P o ε σ a)))\/(ri ο n ε o/\a=.lit (.tuple #[])))->∃e,K e/\(∀j∈i::S,Hh P ο n μ g e σ j)/\∀t,(∀j∈i::S,∀o,ο[j]?=some o->o.dst≠some t)->e t=ε t:=by
      intro a R s;obtain⟨e,T,Y,B⟩:=Dd g w l S _ K y am R
      have f:∀t∈jI ο o,e t=ε t:=λt N=>by
       have C:∀j∈S,∀u,ο[j]?=some u->u.dst≠some t:=λj v u m p=>by
        obtain⟨U,_⟩:=pa w am am r m p
        grind
       rw[B t C,rj];by_cases D:o.dst=some t
       . obtain⟨U,_⟩:=pa w (M i ap).2 (M i ap).2 r r D
         grind
       grind
      have k:e d=a:=by
       rw[B d (λj v u m p=>by
        obtain⟨_,Z⟩:=pa w am am r m p
        grind),rj,wS hd]
      refine⟨e,T,λj v=>?_,λt N=>?_⟩
      . rcases Cv.1 v with rfl|v
        . refine⟨o,r,z,?_⟩
          rcases s with⟨s,E,F⟩|⟨s,rfl⟩
          . refine .inl ⟨s.congr f,d,hd,E,?_⟩
            rw[k];have O:∀σ,bt P o ε σ (λG q=>G=a/\q=σ) (λ_ _=>False)->bt P o e σ (λG q=>G=a/\q=σ) (λ_ _=>False):=λσ h=>h.congr (by grind [v7,mem_reads])
            exact F.imp (λh σ=>O σ (h σ)) (λh=>⟨h.1,O σ h.2⟩)
          . exact .inr ⟨s.congr f,d,hd,k⟩
        grind
      . rw[B t am,rj,wN (N i ap o r)]
     rcases yS h with⟨s,h⟩|⟨j,b,x,V,u,W,v,H,I,X,J,h⟩
     . split at h
       . grind [ahL]
       grind [ajl]
     . exact γ (.lit (.tuple #[])) h (.inr ⟨⟨j,b,x,V,u,W,v,H,I,X,J⟩,rfl⟩)
   grind
theorem Any.hoist  mu   S  {done μ ε σ R}(hd:∀i∈μ,i∉done) (g:∀i∈S,i∈μ) (o:∀i∈μ,(ο[i]?).isSome=true) (j:ascending S=true) (f:qN ο μ S=true){lt}(b:lt=true->∀i∈S,late ο μ S i=true)
 (h:oW L mu ο n lt σ S ε (λa=>Any P m ο n Kp (S++done) (μ.filter λi=>!S.contains i) a σ R)):Any P m ο n Kp done μ ε σ R:=by
 intro l c d p;obtain⟨a,k,q,r⟩:=Dd L S f b S ε _ j (λi e=>⟨e,g i e⟩) h
 refine bu.hoist f l done ε a σ am c am d am am
  am ?_
 refine k _ (og.sub _ l done _ c am am (λi e s=>?_) d) (d.filter _) am
 grind
def Hl(ο:Cx)(done μ S:ZB):Bool:=(μ.all λi=>!done.contains i && (ο[i]?).isSome) && (S.all λi=>μ.contains i) && ascending S && qN ο μ S
def Any.take  mu   S  {done μ ε σ R}  lt  (c:Hl ο done μ S=true) (b:lt=true->(S.all λi=>late ο μ S i)=true)
 (h:oW L mu ο n lt σ S ε (λa=>Any P m ο n Kp (S++done) (μ.filter λi=>!S.contains i) a σ R)):Any P m ο n Kp done μ ε σ R:=by
 simp  [Hl,vc]at c
 grind [Any.hoist]
end
end
attribute [simp] oW Cj Dc Db
section
variable{P:Rg}{m:Mo}{n:Nat}{ο:Cx}{Kp:CU}
def fC.mono{R c}(b:∀ε σ,R ε σ->c ε σ):∀  l   ε   σ ,fC P m ο n Kp l ε σ R->fC P m ο n Kp l ε σ c
 |[],ε,σ,h=>b _ _ h
 |i::l,ε,σ,⟨o,d,e,f⟩=>⟨o,d,e,f.imp (λh=>⟨h.1,h.2.mono λa g=>fC.mono b l _ _⟩) (λh=>⟨h.1,fC.mono b l _ _ h.2⟩)⟩
def oW.mono(L:lz P){mu lt σ K c}(b:∀ε,K ε->c ε):∀{S ε},oW L mu ο n lt σ S ε K->oW L mu ο n lt σ S ε c
 |[],ε,h=>b _ h
 | i :: S,ε,h=>by
   unfold oW at h ⊢;split at h
   . next o d=>
     refine⟨h.1,h.2.1,?_⟩;have h:=h.2.2;unfold yj at h ⊢
     have γ:∀{x:IM}{y:IM},(match x with|some a=>oW L mu ο n lt σ S (cG ε o.dst a) K|none=>lt=true/\(match y with|some a=>oW L mu ο n lt σ S (cG ε o.dst a) K|none=>False)) ->
      (match x with|some a=>oW L mu ο n lt σ S (cG ε o.dst a) c|none=>lt=true/\(match y with|some a=>oW L mu ο n lt σ S (cG ε o.dst a) c|none=>False)):=by
      intro x y h;cases x with
      |some a=>exact oW.mono L b h
      | none=>
        refine⟨h.1,?_⟩;cases y with
        |some a=>exact oW.mono L b h.2
        |none=>grind
     split at h
     . exact γ h
     . split at h
       . refine⟨h.1,?_⟩
         have h:=h.2;split at h
         . exact⟨λe=>γ (h.1 e),λe=>oW.mono L b (h.2 e)⟩
         . exact oW.mono L b h
         omega
       omega
   omega
inductive sm where
 |done
 |take (S:ZB) (lt:Bool) (p:sm)
 |one (i:Nat) (p:sm)
 |both (i:Nat) (p q:sm)
structure Entry where
 id:Nat
 aej:sm
def jX(ο:Cx):sm->ZB->ZB->ZB->Bool
 |.done,_,_,μ=>μ.isEmpty
 |.take S lt p,ex,done,μ=>ex.isEmpty && Hl ο done μ S && (!lt||S.all λi=>late ο μ S i) && jX ο p [] (S++done) (μ.filter λi=>!S.contains i)
 |.one i p,ex,done,μ=>μ.contains i && (μ.all λj=>!done.contains j) && (μ.all λj=>j==i||ex.contains j||(μ.any λx=>oe ο x j)) && jX ο p [] (i::done) (μ.filter (· !=i))
 |.both i p q,ex,done,μ=>μ.contains i && jX ο p [] (i::done) (μ.filter (· !=i)) && jX ο q (i::ex) done μ
def yV(ο:Cx)(e:Entry):Bool:=xh ο && jX ο e.aej [] [] (List.range ο.size)
def aek(P:Rg)(m:Mo)(ο:Cx)(n:Nat)(Kp:CU)(ex done μ:ZB)(ε:Env)(σ:af)(R:FI):Prop:=∀l,og ο done l->l.Nodup->(∀i,i∈l↔i∈μ)->(∀i a,l=i::a->i∉ex)->fC P m ο n Kp l ε σ R
def nf(P:Rg)(m:Mo)(ο:Cx)(n:Nat)(Kp:CU)(p:sm)(ε:Env)(σ:af)(R:FI):Prop:=∀ex done μ,jX ο p ex done μ=true->aek P m ο n Kp ex done μ ε σ R
def Rz{i}{l μ:ZB}(a:(i::l).Nodup)(b:∀j,j∈i::l↔j∈μ)  j :j∈l↔j∈μ.filter (· !=i):=am
def fC.RB{i}{l ex done μ:ZB}{p ε σ R}(a:og ο done (i::l))(b:(i::l).Nodup)(c:∀j,j∈i::l↔j∈μ)
 (d:jX ο p [] (i::done) (μ.filter (· !=i))=true) (h:oh P m ο n Kp i ε σ (λε σ=>nf P m ο n Kp p ε σ R)):fC P m ο n Kp (i::l) ε σ R:=by
 have next:∀ε σ,nf P m ο n Kp p ε σ R->fC P m ο n Kp l ε σ R:=λε σ h=>h [] _ _ d l a.2.2 am (Rz b c) am
 obtain⟨o,e,f,g⟩:=h;exact⟨o,e,f,g.imp (λh=>⟨h.1,h.2.mono am⟩) am⟩
def nf.done{ε σ R}(h:R ε σ):nf P m ο n Kp .done ε σ R:=λex done μ a l _ _ b _=>by
 simp  [jX]at a;subst a;cases l with
 |nil=>exact h
 |cons i l=>exact absurd ((b i).1 ap) ap
def nf.take(L:lz P)  mu  {S lt p ε σ R}(h:oW L mu ο n lt σ S ε (λd=>nf P m ο n Kp p d σ R)):nf P m ο n Kp (.take S lt p) ε σ R:=by
 intro ex done μ e;simp only[jX,vc]at e;obtain⟨⟨⟨i,f⟩,j⟩,g⟩:=e;have:=Any.take    L mu S lt f am (oW.mono L (λd h=>λl a b c=>h [] _ _ g l a b c am) h);exact λl a b c _=>this l a b c
def nf.one{i p ε σ R}(h:oh P m ο n Kp i ε σ (λε σ=>nf P m ο n Kp p ε σ R)):nf P m ο n Kp (.one i p) ε σ R:=by
 intro ex done μ c l d e f q;simp  [jX,DW]at c;obtain⟨⟨⟨r,hd⟩,g⟩,k⟩:=c;cases l with
 |nil=>grind
 | cons j l=>
   have a:j∈μ:=am
   have b:j=i:=by
    rcases g j a with(h|h)|⟨x,o,h⟩
    . exact h
    . grind
    . exact absurd (d.1 x h) am
   subst b;exact fC.RB (ex:=ex) d e f k h
def nf.both{i p q ε σ R}(h:oh P m ο n Kp i ε σ (λε σ=>nf P m ο n Kp p ε σ R))(f:nf P m ο n Kp q ε σ R):nf P m ο n Kp (.both i p q) ε σ R:=by
 intro ex done μ b l c d e o;simp  [jX]at b;obtain⟨⟨r,g⟩,k⟩:=b;cases l with
 |nil=>grind
 | cons j l=>
   by_cases a:j=i
   . subst a
     exact fC.RB (ex:=ex) c d e g h
   . exact f _ _ _ k _ c d e am
theorem xU{id}:∀{k k'},exitTo id k=some k'->∀x∈k',x∈k
 |[],k',h=>aq
 | i::k,k',h=>by
   have again:exitTo id k=some k'->∀x∈k',x∈i::k:=λh x a=>Lb _ (xU h x a)
   cases i<;>simp   at h<;>first|exact again h|skip
   grind
variable(L:lz P)
def uO(fn:Func)(k:Nat):Bool:=Nat.ble k fn.ntmps && fn.results.toList.all (ResultVar.ok fn.ntmps)
end
attribute [simp] List.find?
def pM{k O r c e x}(o:O r=some (.obj (.cells c e x))):qp k O (k.jP r (e,c.size)) O:=λw h=>by
 have p:=h.obj _ _ o;have f:w.shape? r=some (e,c.size):=by simp[World.shape?,p]
 refine⟨⟨h.apart,h.cell,λb s hb=>?_,h.obj,λb n hb=>?_,λb n hb=>?_⟩,⟨⟨λ_ _ _ h=>h,λb s d=>?_⟩,AK _,am,am,am,am,λb x q=>.inl ⟨x,q,.refl x⟩,λb i v t=>.inl t,λb s d=>?_,ap,rfl,rfl,rfl,ap,am⟩⟩
 . by_cases a:b=r
   . simp[az.jP]at hb;grind
   . exact h.sh b s (by simpa[az.jP,a]using hb)
 . obtain⟨g,j,l,m⟩:=h.tail b n hb
   refine⟨g,j,l,?_⟩;have:b≠r:=am;simpa[az.jP,this]using m
 . obtain⟨g,j,l,m⟩:=h.part b n hb
   refine⟨g,j,l,?_⟩;have:b≠r:=am;simpa[az.jP,this]using m
 . by_cases a:b=r
   . subst a
     have:=h.sh _ _ d;rw[f]at this;cases this;simp[az.jP]
   . simpa[az.jP,a]using d
 . by_cases a:b=r
   . grind
   . exact .inl (by simpa[az.jP,a]using d)
section
variable{P:Rg}{m:Mo}{Q:ZD}{k:az}{O:au}{g:YB}
def T.freeze{r n c e}(d:O r=some (.obj (.cells c e (0,0))))(b:g.status=.running)
 (h:∀k' O',k.Le k'->k'.sh r=some (e,c.size)->(∀j v,j<n->c[j]?=some v->k'.cell r j=some v)->O'=O.set r (.tail n)->T P m Q k' O' g):T P m Q k O g:=by
 by_cases a:∃w,Sat k O w
 . obtain⟨w,f⟩:=a
   have i:∀j,k.cell r j=none:=λj=>by
    cases q:k.cell r j with
    |none=>rfl
    |some v=>exact(f.apart _ _ _ q (.inl ⟨_,d⟩)).elim
   have o:=(pM  d w f).2.le;have l:(k.jP r (e,c.size)).Le ((k.jP r (e,c.size)).C0 r c n):=.C0 i;exact .ghost (pM d) (.ghost (uM  d (by simp[az.jP])) (h _ _ (o.trans l) (by simp[az.C0,az.jP]) (λj v p s=>by simp[az.C0,p,s]) rfl))
 . exact .step (λ_ _ _=>False) b am λw f=>absurd ⟨w,f⟩ a
end
def iC:∀{es},(∀e∈es,e.cells=[e])->RP es=es
 |[],_=>rfl
 | e::es,h=>by
   have a:=iC (es:=es) am;simp  [RP]at a ⊢
   grind
def V.I9{k v kk es sp}(h:V k v (.sl kk es sp)):(∃a,v=.slice a 0 0/\es=[]/\(sp=.any\/(sp=.exact/\a.isSome=true)))\/∃(b off cap N:Nat) (E:TypeId) (c:Nat->Value),v=.slice (some ⟨b,off,none⟩) es.length cap/\es.length<=cap/\k.sh b=some (E,N)/\off+cap*kk<=N/\(∀e∈es,e.cells.length=kk)/\
 (∀j,j<(RP es).length->k.cell b (off+j)=some (c j)/\bu.flat (c j)=true)/\(∀  j  a,(RP es)[j]?=some a->V k (c j) a)/\sp.fits b off es.length kk cap:=by
 cases h with
 |sl b off cap _ N E _ _ c d f g i l m n=>exact .inr ⟨b,off,cap,N,E,c,rfl,d,f,g,i,l,m,n⟩
 |slnil a _ _ h=>grind
inductive Fz(b:Nat)(l:We):AV->AV->Prop
 |refl (a:AV):Fz b l a a
 | sl (off cap kk:Nat) (es:We) (sp:tH):es.length<=cap->off+cap*kk<=l.length->(∀e∈es,e.cells.length=kk)->(∀(j:Nat) a,(RP es)[j]?=some a->l[off+j]?=some a)->(sp=.any\/(sp=.exact/\cap=es.length)) ->
    Fz b l (.mJ b off es.length cap) (.sl kk es sp)
 |fn (f:Fn) (a1 a2 c1 c2:We):a1.length=a2.length->c1.length=c2.length->(∀(i:Nat) a a',a1[i]?=some a->a2[i]?=some a'->Fz b l a a')->(∀(i:Nat) a a',c1[i]?=some a->c2[i]?=some a'->Fz b l a a')->Fz b l (.fn f a1 c1) (.fn f a2 c2)
 |rows (es es':We) (sp:tH):es.length=es'.length->(∀e∈es,e.cells=[e])->(∀e∈es',e.cells=[e])->(∀(i:Nat) a a',es[i]?=some a->es'[i]?=some a'->Fz b l a a')->Fz b l (.sl 1 es sp) (.sl 1 es' sp)
 |cp (base off:Nat) (v:AV):base+v.cells.length<=l.length->(∀(j:Nat) a,v.cells[j]?=some a->l[base+j]?=some a)->Fz b l (.ref b (base+off)) (.cp v off)
 |agg (l1 l2:We):l1.length=l2.length->(∀(i:Nat) a a',l1[i]?=some a->l2[i]?=some a'->Fz b l a a')->Fz b l (.agg l1) (.agg l2)
 |cx (l1 l2:We):l1.length=l2.length->(∀(i:Nat) a a',l1[i]?=some a->l2[i]?=some a'->Fz b l a a')->Fz b l (.cx l1) (.cx l2)
def Hm(k:az)(b:Nat)(E:TypeId)(l:We):Prop:=k.sh b=some (E,l.length)/\∀(j:Nat) a,l[j]?=some a->∃u,k.cell b j=some u/\V k u a/\bu.flat u=true
def Fz.sound{k b E l a a'}(h:Fz b l a a')(n:Hm k b E l):∀{v},V k v a->V k v a':=by
 induction h with
 |refl a=>grind
 | sl off cap S es sp e m o q r=>
   intro v d;cases d
   exact V.ofRow e n.1 m o (λj a p=>n.2 _ _ (q j a p)) (by
    rcases r with rfl|⟨rfl,r⟩
    . trivial
    . exact r)
 | rows es s sp e m o _ y=>
   intro v d;have f1:=iC m;have T:=iC o;rcases d.I9 with⟨U,rfl,rfl,B⟩|⟨C,off,cap,N,D,c,rfl,W,F,G,X,H,I,Y⟩
   . grind
   . rw[f1]at H I
     rw[e];refine .sl C off cap 1 N D s sp c ac F G am am (λj a p=>?_) am
     grind
 | cp base off x hlen e=>
   intro v d;cases d;refine .cp b base off _ _ x (λj=>(k.cell b (base+j)).getD undef) n.1 hlen (λj J=>?_) (λj a p=>?_)
   . obtain⟨u,m,o,q⟩:=n.2 _ _ (e j x.cells[j] (by simp[J]))
     grind
   . obtain⟨u,m,o,q⟩:=n.2 _ _ (e j a p)
     grind
 | fn f Z K c1 L e m _ _ M O=>
   intro v d;cases d with
   | fn _ P Q _ _ z A g3 g4=>
     refine .fn f P Q K L ac (λi u a' t g=>?_) ac (λi u a' t g=>?_)
     . grind
     grind
 | agg R w e _ y=>
   intro v d;cases d with
   | agg c _ z A=>
     refine .agg c w ac λi u a' t g=>?_
     grind
 | cx R w e _ y=>
   intro v d;cases d with
   | cx c _ z A=>
     refine .cx c w ac λi u a' t g=>?_
     grind
def RD(b:Nat)(l:We)(σ σ':af):Prop:=∀c y,σ' c=some y->c≠b/\(σ c=some y\/∃d e,σ c=some (.cells d)/\y=.cells e/\d.length=e.length/\∀(i:Nat) a f,d[i]?=some a->e[i]?=some f->Fz b l a f)
def RD.del  b   l   σ :RD b l σ (σ.del b):=λc y h=>by
 unfold af.del at h
 grind
def RD.sound{k O b E l σ σ'}(h:RD b l σ σ')(s:Hm k b E l)(f:Rel k O σ)  x :Rel k (O.set b x) σ':=⟨λc y g j=>by
 obtain⟨d,h⟩:=h c y g;rcases h with h|⟨m,p,n,rfl,q,t⟩
 . obtain⟨z,r,a⟩:=f.1 c y h j
   exact⟨z,by simp[au.set,d,r],a⟩
 . obtain⟨z,r,a⟩:=f.1 c _ n ap
   cases a with
   | cells u e _ B C w=>
     refine⟨_,by simp  [au.set,d];omega,.cells u e p ac (λi v A D o=>?_) w⟩;have F:i<m.length:=am
     exact(t i m[i] A ap o).sound s am,λc y g j=>by
 obtain⟨d,h⟩:=h c _ g;rcases h with h|⟨m,p,_,h,_⟩
 . obtain⟨n,q⟩:=f.2 c y h j
   exact⟨by simp[au.set,d,n],q⟩
 simp_all⟩
section
variable{P:Rg}{m:Mo}
def T.Hn{Q k O g σ b l}(o:Rel k O σ)(hb:σ b=some (.cells l))(f:g.status=.running)
 (h:∀k' O',k.Le k'->(∀v a a',V k v a->Fz b l a a'->V k' v a')->(∀σ',RD b l σ σ'->Rel k' O' σ')->T P m Q k' O' g):T P m Q k O g:=by
 obtain⟨y,q,r⟩:=o.1 b _ hb ap;cases r with
 | cells c e _ B s t=>
   refine T.freeze (n:=c.size) q f λk' O' d u C i=>?_
   have p:Hm k' b e l:=⟨am,λj a w=>by
    have D:j<c.size:=am
    exact⟨c[j],am,(s j _ a ap w).mono d,t j _ am⟩⟩
   refine h k' O' d (λv a a' x z=>z.sound p (x.mono d)) λσ' A=>?_
   rw[i];exact A.sound p (o.mono d) _
def Go.freeze{φ n ro todo K ε a σ σ' D rc}  b   l  (hb:σ b=some (.cells l)) (d:∀t,Fz b l (ε t) (a t)) (g:RD b l σ σ')
 (h:Go P m φ n ro todo ⟨a,σ',D,rc⟩ K):Go P m φ n ro todo ⟨ε,σ,D,rc⟩ K:=by
 intro Q k O τ ξ ν cs i e j;refine T.Hn e.rel hb rfl λo p c q f=>?_
 exact h Q o p τ ξ ν cs i ⟨e.size,λt r=>q _ _ _ (e.env t r) (d t),f σ' g,e.ds.mono c,e.rc.mono c⟩ (j.mono c)
def Fz.upd{b l}{ε:Env}{t a'}(h:Fz b l (ε t) a')  u :Fz b l (ε u) (ε.upd t a' u):=by
 unfold Env.upd;split
 . grind
 . exact .refl _
inductive tO(KF:YC):YC
 |done {r:fQ}{σ:af}:KF r σ->tO KF r σ
 |freeze {a a':AV}{σ σ':af}(b:Nat) (l:We):σ b=some (.cells l)->Fz b l a a'->RD b l σ σ'->tO KF (.val a') σ'->tO KF (.val a) σ
 |dp {a a':AV}{σ:af}:a.W a'->tO KF (.val a') σ->tO KF (.val a) σ
 |less {r:fQ}{σ σ':af}:σ'.Le σ->tO KF r σ'->tO KF r σ
def ar.thaw{f args σ KF}(h:ar P m f args σ (tO KF)):ar P m f args σ KF:=by
 intro Q k O o c μ ν w x y F H
 have key:∀r i,tO KF r i->∀e j g,k.Le e->Rel e j i->(match r with
  |.val a=>V e g a->T P m Q e j (qz ν c μ g)
  |.panic a=>V e g a->T P m Q e j (G (c.raise [⟨g,false,false⟩]) μ)):=by
  intro r i z;induction z with
  |@done r σ I=>grind
  | freeze b l hb J t _ p=>
    intro e j g n q v;refine T.Hn q hb (by cases ν<;>rfl) λA B s C u=>?_
    exact p A B g (n.trans s) (u _ t) am
  |dp D _ p=>intro e j g n q v;exact p e j g n q (D _ _ v)
  |@less r σ i t _ p=>intro e j g n q;exact p e j g n (q.le t)
 exact h Q k O o c μ ν w x y (λe j g E i a b c d=>key _ _ d e j g a c b) (λe j g E i a b c d=>key _ _ d e j g a c b)
end
def RE(σ:af)(a:AV)(kk:Nat)(es:We):Prop:=LA a kk es\/∃b off cap l,a=.mJ b off es.length cap/\σ b=some (.cells l)/\(∀e∈es,e.cells.length=kk)/\∀(j:Nat) x,(RP es)[j]?=some x->l[off+j]?=some x
def cV(σ0 σ:af)(a:AV)(kk:Nat)(es:We):Prop:=σ0.Le σ/\((es=[]/\(a=.nil\/a=.sl kk [] .exact))\/∃b cap μ,a=.mJ b 0 es.length cap/\σ0 b=none/\es.length<=cap/\(∀e∈es,e.cells.length=kk)/\σ b=some (.cells (RP es++μ))/\μ.length=(cap-es.length)*kk)
def cV.rd{σ0 σ a kk es}(h:cV σ0 σ a kk es):RE σ a kk es:=by
 rcases h.2 with⟨rfl,rfl|rfl⟩|⟨b,cap,μ,rfl,_,_,c,d,_⟩
 . exact .inl (.inl ⟨rfl,rfl⟩)
 . exact .inl (.inr ⟨_,rfl⟩)
 . refine .inr ⟨b,0,cap,_,rfl,d,c,λj x e=>?_⟩
   grind
def cV.empty  σ   kk :cV σ σ (.sl kk [] .exact) kk []:=⟨λ_ _ h=>h,am⟩
def cV.thaw{σ0 σ a kk es KF}(h:cV σ0 σ a kk es)(d:KF (.val (.sl kk es .any)) σ0):tO KF (.val a) σ:=by
 rcases h.2 with⟨rfl,rfl|rfl⟩|⟨b,cap,μ,rfl,k,f,e,g,l⟩
 . exact .less h.1 (.dp (bK kk) (.done d))
 . exact .less h.1 (.dp (eo kk _ _) (.done d))
 . have m:=bL e
   refine .freeze b _ g (.sl 0 cap kk es .any f ?_ e (λj x n=>?_) (.inl rfl)) (RD.del b _ σ) (.less (λc y i=>?_) (.done d))
   . have:cap*kk=es.length*kk+(cap-es.length)*kk:=by rw[<-Nat.add_mul];grind
     grind
   . grind
   . have:c≠b:=am
     simp  [af.del,this];exact h.1 c y i
section
variable{P:Rg}(L:lz P){k:az}{O:au}{Kp:FU}
def V.Zv{v b off len cap}(h:V k v (.mJ b off len cap)):v=.slice (some ⟨b,off,none⟩) len cap:=by cases h;rfl
def V.RG{v}(h:V k v .nil):v=.slice none 0 0:=by cases h;rfl
def RE.facts{σ v a kk es}(h:RE σ a kk es)(c:V k v a):∃base cap,v=.slice base es.length cap/\∀e∈es,e.cells.length=kk:=by
 rcases h with(⟨rfl,rfl⟩|⟨sp,rfl⟩)|⟨b,off,cap,l,rfl,d,f,g⟩
 . cases c;simp_all
 . rcases c.qA with⟨i,rfl,rfl,_⟩|⟨b,off,cap,N,E,rfl,j,m,n,o,_⟩
   . grind
   grind
 . cases c;grind
def yk{K σ v a kk es}(g:V k v a)(h:Rel k O σ)(d:RE σ a kk es)
 (i:∀c ,c.size=es.length*kk->(∀(j:Nat) u x,c[j]?=some u->(RP es)[j]?=some x->V k u x)->(∀(j:Nat) u,c[j]?=some u->flat u=true)->K c k O):jm P (Builtin.firstCells kk es.length v) k O K Kp:=by
 rcases d with d|⟨b,off,cap,l,rfl,m,n,o⟩
 . exact xg g d (AK _) i
 . cases g
   obtain⟨y,p,q⟩:=h.1 b _ m ap;cases q with
   | cells D e _ r s t=>
     have w:=bL n;refine oc (l:=RP es)  (off:=0) (λj x z=>?_) _ 0 #[] ac λvs A B C=>?_
     . have f:=o j x z
       exact tJ.own  p r s t _ x f|>.imp am
     grind
end
section
variable{P:Rg}(L:lz P){o:Oper}{ε:Env}{σ:af}{K:CU}{Kp:CU}
def kA{s x E t t2 e e2 it W g σ0 es xs}(ho:o.op=.call ⟨.builtin .append,#[s,x],E⟩)(h0:E[0]?=some t)(N:E[1]?=some t2)(ht:L.tt t=some it)(hk:it.kind=.slice e)
 (ax:L.tt t2=some W) (ay:W.kind=.slice e2) (F:L.tt e=some g) (hb:g.bytes<=1024) (hlen:es.length+xs.length<=1073741824) (hs:cV σ0 σ (aA ε s) g.size es) (hx:RE σ (aA ε x) g.size xs)
 (hz:(qZ g.zero).cells.all AV.flat=true) (hK:∀a' σ',cV σ0 σ' a' g.size (es++xs)->K a' σ'):bt P o ε σ K Kp:=λk O ρ n J=>by
 have w:=n s aq
 have Q:=n x aq
 have:execOp ρ o=(do pure (Next.value (<-Builtin.append_ E o.type #[ρ s,ρ x]))):=by simp[execOp,ho,resolve,invoke,builtin]
 rw[this];refine ag ?_;have aC:g.zero.cells.size=g.size:=by obtain⟨_,_,_,_,_,_,h⟩:=L.facts F;exact h
 obtain⟨base,cap,A,aE⟩:=hs.rd.facts w;obtain⟨aF,b7,M,aL⟩:=hx.facts Q;have B:=hs.1;unfold Builtin.append_;simp only[h0,N,Mj,List.getElem?_cons_zero,OP];refine ag (aY L ht λd _ hd=>?_)
 rw[dD hd hk,A];dsimp only;refine ag (de L F ?_);refine ag (aY L ax λd2 _ X=>?_)
 rw[dD X ay];refine ag (an ?_);dsimp only;simp only[zA,LK,Bool.not_false,ZC];refine ag (s:=Builtin.lenOf (ρ x)) ?_;rw[M];refine an ?_;rw[<-M];have G:=bL aE;have bm:=bL aL
 by_cases m:es.length+xs.length<=cap
 ·
  rw[wS m];refine ag (yk Q J hx λc H aO Y=>?_)
  rcases hs.2 with⟨rfl,p⟩|⟨b,Z,μ,p,aW,hc,_,I,C⟩
  . have b8:cap=0:=by
     rcases p with p|p
     . rw[p,A]at w;have:=w.RG;grind
     . rw[p,A]at w
       rcases w.qA with⟨_,q1,_,_⟩|⟨_,_,Z,_,_,q1,_,_,_,_,_,q7⟩
       . grind
       . cases q1;exact q7
    have a7:xs=[]:=am
    subst a7
    have b0:c.toList=[]:=aq
    have bq:V k (.slice base 0 cap) (aA ε s):=am
    cases base with
    | none=>
      dsimp only;refine an (an ⟨_,.inl rfl,.here ⟨.refl k,aA ε s,σ,?_,J,am⟩⟩)
      omega
    | some ad=>
      dsimp only;rw[b0];refine ag (an ?_);refine an (an ⟨_,.inl rfl,.here ⟨.refl k,aA ε s,σ,?_,J,am⟩⟩)
      omega
  . rw [p, A] at w
    have hinv:=w.Zv;simp only[Value.slice.injEq,true_and]at hinv;obtain⟨rfl,rfl⟩:=hinv;obtain⟨y,hO,hy⟩:=J.1 b _ I ap
    cases hy with
    | cells cc et _ g1 g2 g3=>
      dsimp only;rw[mL]
      have R:cc.size=cap*g.size:=by rw[g1,zR,G,C,<-Nat.add_mul];grind
      have hmul:(es.length+xs.length)*g.size<=cc.size:=by rw[R];exact IQ _ m
      rw[Kj]at hmul;refine ag (vY c.toList 0 cc O hO am (λu hu=>?_) λO' c' b1 br b2=>?_)
      . obtain⟨j,hj,rfl⟩:=FG.1 hu
        exact Y j _ am
      . have bw:xs.length*g.size<=μ.length:=am
        refine an (an ⟨_,.inl rfl,.here ⟨.refl k,.mJ b 0 (es++xs).length cap,σ.set b (.cells (RP (es++xs)++μ.drop (xs.length*g.size))),?_,?_,hK _ _ ⟨?_,.inr ⟨b,cap,μ.drop (xs.length*g.size),rfl,aW,am,λz hz=>?_,by simp[af.set],?_⟩⟩⟩⟩)
        . rw[show es.length+xs.length=(es++xs).length by simp]
          exact .mJ ..
        . rw [b1]
          refine J.set (.cells c' et _ ?_ (λi v a n p=>?_) (λi v n=>?_))
          . grind [flatten_append]
          . rw [b2]at n
            simp only[IC,Array.length_toList,H,Nat.add_zero]at n;rw[flatten_append,IG]at p
            by_cases N:i<es.length*g.size
            . grind
            . rw[Fi ac,G]at p
              by_cases h2:i<es.length*g.size+xs.length*g.size
              . grind
              . rw[wN ac]at n
                rw[Fi ac,List.getElem?_drop]at p
                refine g2 i v a n ?_;rw[Fi ac,G,<-p]
                congr 1;omega
          grind
        . intro b' y hy
          have:b'≠b:=am
          simp[af.set,this,B b' y hy]
        . grind
        . rw[List.length_drop,C,zR,<-Nat.sub_mul];grind
 ·
  rw[wN m]
  have a8:¬((es.length+xs.length:Nat):Int)>IntKind.i64.max:=by have:IntKind.i64.max=9223372036854775807:=rfl;omega
  refine ag (fB L F λinfo _ _ bx _=>?_)
  rw[wN (λq=>a8 q.1)]
  refine ag (fB L F λS _ _ a9 _=>?_)
  have T:=nextslicecap_le (Nat.lt_of_not_le m)
  have U:¬(Builtin.nextslicecap (es.length+xs.length) cap*S.bytes>2 ^ 48):=by rw[a9];have N:Builtin.nextslicecap (es.length+xs.length) cap*g.bytes<=(4*(es.length+xs.length)+2000)*1024:=Nat.mul_le_mul T hb;omega
  rw[wN U];refine ag (s:=choose _) (λt=>?_)
  have D:(Question.appendCap (es.length+xs.length) cap e).forced=false:=rfl;rw[D];simp only[zA,LK];have b3:∃f,(Question.appendCap (es.length+xs.length) cap e).cut t=f/\es.length+xs.length<=f:=⟨_,rfl,by simp only[Question.cut];omega⟩
  obtain⟨f,ab,b9⟩:=b3;rw[ab];refine an ?_;refine ag (fB L F λb4 _ _ _ _=>?_)
  refine ag (vZ ?_);refine ag (yk (a:=aA ε s) am J hs.rd λc H aO Y=>?_)
  refine ag (yk Q J hx λd bA X bB=>?_)
  refine ag (fA L F ?_);have b5:=C7 (k:=k) hz
  have bC:(Builtin.zeroCells g.zero.cells (f-(es.length+xs.length))).size=(f-(es.length+xs.length))*g.size:=by simp[Builtin.zeroCells,aC]
  have bE:∀(i:Nat) v,(Builtin.zeroCells g.zero.cells (f-(es.length+xs.length)))[i]?=some v->flat v=true:=by
   intro i v n;have hi:=(CS.1 n).1;simp only[Builtin.zeroCells]at n;obtain⟨c5,F⟩:=CS.1 n;simp at F;subst F
   have al:0<g.zero.cells.size:=am
   have hm:i % g.zero.cells.size<g.zero.cells.size:=JP _ al;rw[getElem!_pos g.zero.cells _ hm];exact b5.2.2 (i % g.zero.cells.size) _ am
  refine ag (lD (l:=RP (es++xs)++List.replicate ((f-(es.length+xs.length))*g.size) .eT) J ?_ (λi v a n p=>?_) (λi v n=>?_) λr k' O' hn b6 av=>an (an ⟨_,.inl rfl,.here ⟨b6,.mJ r 0 (es++xs).length f,_,?_,av,hK _ _ ⟨λb' y hy=>?_,.inr ⟨r,f,List.replicate ((f-(es.length+xs.length))*g.size) .eT,rfl,?_,am,λz hz=>?_,by simp[af.set],?_⟩⟩⟩⟩))
  . grind [Array.size_append,flatten_append,List.length_append,List.length_replicate]
  . rw [flatten_append,IG]at p
    rw[Array.append_assoc]at n
    by_cases N:i<es.length*g.size
    . rw[KX ac]at p
      grind
    . rw[Fi ac,G]at p
      rw[Mr ac,H]at n
      by_cases h2:i-es.length*g.size<xs.length*g.size
      . grind
      . rw[Fi ac]at p
        have:=List.mem_of_getElem? p;rw[List.mem_replicate]at this;rw[this.2];exact .eT _
  . rw[Array.append_assoc]at n
    by_cases N:i<es.length*g.size
    . grind
    . rw[Mr ac,H]at n
      grind
  . rw[show es.length+xs.length=(es++xs).length by simp];exact .mJ ..
  . have N:=B b' y hy
    have:b'≠r:=am
    simp[af.set,this,N]
  . cases q:σ0 r with
    |none=>rfl
    |some y=>have:=B r y q;grind
  . grind
  . simp
end
def I'(ε:Env)(len cap:Nat)(lo hi mx:Option I8)(l h m:Nat):Prop:=
 (match mx with|none=>m=cap|some o=>(∃kd,aA ε o=.lit (.int kd (m:Int)))/\m<=cap)/\
 (match hi with|none=>mx=none/\h=len|some o=>(∃kd,aA ε o=.lit (.int kd (h:Int)))/\h<=m)/\
 (match lo with|none=>l=0|some o=>(∃kd,aA ε o=.lit (.int kd (l:Int)))/\l<=h)
def I'.le{ε len cap lo hi mx l h m}(hb:I' ε len cap lo hi mx l h m)(a:len<=cap):l<=h/\h<=m/\m<=cap:=by
 obtain⟨b,c,d⟩:=hb
 grind
section
variable{P:Rg}(L:lz P){k:az}{O:au}{Kp:FU}
theorem xi{K v kd}{z y:Nat}{c}(a:V k v (.lit (.int kd (z:Int))))(b:z<=y)(d:K z k O):jm P (Instr.sliceBound v y c) k O K Kp:=by
 rw[ga a];refine ag (an ?_)
 simp_all [an]
def rk{K ε ρ isSlice len cap lo hi mx l h m}(hb:I' ε len cap lo hi mx l h m)
 (b:∀o,(lo=some o\/hi=some o\/mx=some o)->V k (ρ o) (aA ε o)) (q:K (l,h,m) k O):jm P (Instr.sliceBounds isSlice len cap (lo.map ρ) (hi.map ρ) (mx.map ρ)) k O K Kp:=by
 obtain⟨g,d,r⟩:=hb
 have a:∀c,jm P (do
  let l <-match lo.map ρ with
   |some v=>Instr.sliceBound v h c
   |none=>pure 0
  pure (l,h,m):Sem (Nat × Nat × Nat)) k O K Kp:=by
  grind [ag,an,xi]
 cases mx with
 | none=>
   subst g;refine ag (an ?_);cases hi with
   |none=>obtain⟨_,rfl⟩:=d;exact ag (an (a _))
   |some o=>obtain⟨⟨kd,e⟩,f⟩:=d;have:=b o (.inr (.inl rfl));rw[e]at this;exact ag (xi this f (a _))
 | some j=>
   obtain⟨⟨s,n⟩,p⟩:=g;have i:=b j (.inr (.inr rfl));rw[n]at i;refine ag (xi i p ?_);cases hi with
   |none=>grind
   |some o=>obtain⟨⟨kd,e⟩,f⟩:=d;have:=b o (.inr (.inl rfl));rw[e]at this;exact ag (xi this f (a _))
end
def yW{kk}:∀{es}(_:∀e∈es,e.cells.length=kk)  l ,RP (es.drop l)=(RP es).drop (l*kk)
 |[],_,l=>by simp[RP]
 |a::es,h,0=>ap
 |a::es,h,l+1=>by rw[List.drop_succ_cons,yW (λe b=>h e (by simp[b])) l,flatten_cons,Kj,Nat.one_mul,LG,<-List.drop_drop,<-h a ap,List.drop_left]
def yX{kk}:∀{es}(_:∀e∈es,e.cells.length=kk)  l ,RP (es.take l)=(RP es).take (l*kk)
 |[],_,l=>by simp[RP]
 |a::es,h,0=>by simp[RP]
 | a::es,h,l+1=>by
   have c:=h a ap;have d:(l+1)*kk=l*kk+kk:=am
   rw[List.take_succ_cons,flatten_cons,yX (λe b=>h e (by simp[b])) l,flatten_cons,Mc,IL (l:=a.cells) ac]
   grind
section
variable{P:Rg}(L:lz P){o:Oper}{ε:Env}{σ:af}{K:CU}{Kp:CU}
def tP{t x lo hi mx}(a:o.op=.slice t x lo hi mx):x∈o.op.operands/\∀y,(lo=some y\/hi=some y\/mx=some y)->y∈o.op.operands:=aq
theorem V.RI{k:az}{b off cap kk N E l h m:Nat}{es sp}(n:k.sh b=some (E,N))(s:off+cap*kk<=N)(o:∀e∈es,e.cells.length=kk)
 (t:∀  j  a,(RP es)[j]?=some a->∃v,k.cell b (off+j)=some v/\V k v a/\bu.flat v=true) (u:l<=h) (w:h<=m) (x:m<=cap) (p:h<=es.length) (c:sp=.any\/(sp=.exact/\m=h)):
 V k (.slice (if m=l then some ⟨b,off,none⟩else(some (⟨b,off,none⟩:Addr)).map (·.add (l*kk))) (h-l) (m-l)) (.sl kk ((es.drop l).take (h-l)) sp):=by
 have hlen:((es.drop l).take (h-l)).length=h-l:=am
 have d:∀e∈(es.drop l).take (h-l),e.cells.length=kk:=am;by_cases f:m=l
 . rw[wS f]
   have q:h-l=0:=ac
   have g:m-l=0:=ac
   rw[q,g];refine V.ofRow (kk:=kk) (es:=[]) (cap:=0) ap n ac ap (λj a i=>by simp[RP]at i) (by rcases c with rfl|⟨rfl,_⟩<;>simp[tH.fits])
 . rw[wN f,IP,mL]
   conv=>lhs;rw[<-hlen]
   refine V.ofRow ac n ?_ d (λj a i=>?_) ?_
   . have:=IQ kk (show l+(m-l)<=cap by omega)
     grind
   . rw[yX (λe r=>o e (List.mem_of_mem_drop r)),yW o]at i
     grind
   . rcases c with rfl|⟨rfl,rfl⟩
     . trivial
     . show m-l=_;rw[hlen]
def uP{t e:Nat}{x lo hi it f es sp l h}(p:o.op=.slice t x lo hi none)(q:L.tt t=some it)(r:it.kind=.slice e)(u:L.tt e=some f)
 (A:aA ε x=.sl f.size es sp) (hb:∀cap,es.length<=cap->I' ε es.length cap lo hi none l h cap) (g:h<=es.length) (v:K (.sl f.size ((es.drop l).take (h-l)) .any) σ):bt P o ε σ K Kp:=
 bt.val (s:=λc=>Instr.sliceAt t (c x) (lo.map c) (hi.map c) none) (λc=>by simp[execOp,p]) λk O c B w=>by
  obtain⟨C,R⟩:=tP p;have y:=B x C;rw[A]at y;unfold Instr.sliceAt;refine ag (aY L q λS _ i=>?_);rw[dD i r];dsimp only;unfold Instr.slice;refine ag (aY L q λd _ hd=>?_);rw[dD hd r];rcases y.qA with⟨D,j,rfl,_⟩|⟨b,off,cap,N,E,j,z,F,G,H,I,T⟩
  . rw[j]
    have a:=hb 0 ap;have:=a.le ap;have m:l=0:=ac
    have n:h=0:=ac
    cases D<;>(
     refine ag (rk (mx:=none) a am ?_);refine ag (de L u (an (.here ⟨.refl k,_,σ,?_,w,v⟩)));subst m;subst n;exact .slnil _ _ _ (.inl rfl))
  . rw[j]
    have a:=hb cap z;obtain⟨J,M,Q⟩:=a.le z;refine ag (rk (mx:=none) a am ?_);refine ag (de L u (an (.here ⟨.refl k,_,σ,?_,w,v⟩)));exact V.RI F G H I J M Q g (.inl rfl)
def pN{t e:Nat}{x lo hi mx it j es sp l h}(r:o.op=.slice t x lo hi (some mx))(u:L.tt t=some it)(v:it.kind=.slice e)(m:L.tt e=some j)
 (B:aA ε x=.sl j.size es sp) (hb:∀cap,es.length<=cap->I' ε es.length cap lo hi (some mx) l h h) (C:h<=es.length) (w:∀a,(a=.sl j.size ((es.drop l).take (h-l)) .exact\/(es=[]/\a=.nil))->K a σ):bt P o ε σ K Kp:=
 bt.val (s:=λf=>Instr.sliceAt t (f x) (lo.map f) (hi.map f) (some (f mx))) (λf=>by simp[execOp,r]) λk O f D n=>by
  obtain⟨F,G⟩:=tP r;have y:=D x F;rw[B]at y;unfold Instr.sliceAt;refine ag (aY L u λH _ p=>?_);rw[dD p v];dsimp only;unfold Instr.slice;refine ag (aY L u λd _ hd=>?_);rw[dD hd v];rcases y.qA with⟨z,q,rfl,_⟩|⟨b,off,cap,N,E,q,A,I,J,M,Q,R⟩
  . rw[q]
    have c:=hb 0 ap;have:=c.le ap;have g:l=0:=ac
    have i:h=0:=ac
    cases z with
    | none=>
      dsimp only;refine ag (rk (mx:=some mx) c am ?_);dsimp only;refine ag (de L m (an (.here ⟨.refl k,.nil,σ,?_,n,am⟩)));subst g;subst i;simp only[ZC,Nat.sub_zero];exact .lit _
    | some z=>
      dsimp only;refine ag (rk (mx:=some mx) c am ?_);dsimp only;refine ag (de L m (an (.here ⟨.refl k,_,σ,?_,n,w _ (.inl rfl)⟩)));subst g;subst i;simp only[ZC,Nat.sub_zero,IB,List.take_nil];exact .slnil _ _ _ am
  . rw[q]
    dsimp only;have c:=hb cap A;obtain⟨S,T,U⟩:=c.le A;refine ag (rk (mx:=some mx) c am ?_);dsimp only;refine ag (de L m (an (.here ⟨.refl k,_,σ,?_,n,w _ (.inl rfl)⟩)))
    grind [V.RI]
def uQ{op}{t B e:Nat}{x y i kk es sp}(C:o.op=.binOp op t x y B)(D:L.tt t=some i)(F:i.kind=.slice e)(G:aA ε y=.nil)
 (H:aA ε x=.sl kk es sp) (j:op=.eql\/op=.neq) (I:es=[]->K (.lit (.bool (op==.eql))) σ) (J:K (.lit (.bool (op==.neq))) σ):bt P o ε σ K Kp:=
 bt.val (s:=λg=>do eqGuard op t x y (g x) (g y);binOp op t (g x) (g y)) (λg=>by simp[execOp,C]) λk O g l M=>by
  have w:=l x aq;have z:=l y aq;rw[G]at z;rw[H]at w;have Q:g y=.slice none 0 0:=z.RG
  have m:∃a n c,g x=.slice a n c/\(a.isNone=true->es=[]):=by
   rcases w.qA with⟨U,m,h,_⟩|⟨b,off,cap,N,E,m,_⟩
   . grind
   grind
  obtain⟨a,n,c,m,W⟩:=m;rw[m,Q];have X:eqGuard op t x y (.slice a n c) (.slice none 0 0)=pure ():=by rcases j with rfl|rfl<;>simp[eqGuard]
  have p:∀(R:Bool->az->au->Prop) (A:FU),R a.isNone k O->jm P (Op.equal t (.slice a n c) (.slice none 0 0)) k O R A:=λR A S=>by
   refine ag (aY L D λd _ hd=>?_);rw[dD hd F];cases a<;>exact an S
  have fin:∀b:Bool,K (.lit (.bool b)) σ->jm P (do pure (.bool b)) k O (λv q r=>sF q r λu T=>k.Le u/\∃a f,V u v a/\Rel u T f/\K a f) (λv q r=>k.Le q/\∃a f,V q v a/\Rel q r f/\Kp a f):=λb hb=>an (.here ⟨.refl k,_,σ,.lit _,M,hb⟩)
  rcases j with rfl|rfl
  . refine ag (s:=Op.equal t (.slice a n c) (.slice none 0 0)) (p _ _ (fin _ ?_))
    cases Y:a.isNone with
    |true=>grind
    |false=>grind
  . refine ag (s:=Op.equal t (.slice a n c) (.slice none 0 0)) (p _ _ (fin (!a.isNone) ?_))
    grind
def ajB{i d}(h:iA P i d=true)(a:i.kind=.bool):d=.bool:=by cases d<;>simp_all [iA]
def F3{op}{t n:Nat}{x y i p q}(r:o.op=.binOp op t x y n)(u:L.tt t=some i)(v:i.kind=.bool)(w:aA ε x=.lit (.bool p))(z:aA ε y=.lit (.bool q)){b}(f:(op=.eql/\b=(p==q))\/(op=.neq/\b=!(p==q)))(g:K (.lit (.bool b)) σ):bt P o ε σ K Kp:=
 bt.val (s:=λa=>do eqGuard op t x y (a x) (a y);binOp op t (a x) (a y)) (λa=>by simp[execOp,r]) λk O a c h=>by
  have j:=c x aq;have l:=c y aq;rw[w]at j;rw[z]at l;rw[yh j,yh l]
  have e:∀(R:Bool->az->au->Prop) (m:FU),R _ k O->jm P (Op.equal t (.bool p) (.bool q)) k O R m:=λR m A=>by
   refine ag (aY L u λd _ hd=>?_);rw[ajB hd v];exact an A
  rcases f with⟨rfl,rfl⟩|⟨rfl,rfl⟩
  . exact ag (s:=Op.equal t _ _) (e _ _ (an (.here ⟨.refl k,_,σ,.lit _,h,g⟩)))
  . exact ag (s:=Op.equal t _ _) (e _ _ (an (.here ⟨.refl k,_,σ,.lit _,h,g⟩)))
end
inductive Ck{α:Sort _}(a:α):Type
 |mk
def Fj{α:Type}(x:Option α)(K:α->Prop)(u:Ck K:=.mk):Prop:=∃a,x=some a/\K a
@[simp] theorem aiw{α a}{K:α->Prop}{u}:Fj (some a) K u=K a:=by simp[Fj]
@[simp] theorem ahT{α K u}:Fj (none:Option α) K u=False:=by simp[Fj]
@[simp] theorem yY{α β f}{x:Option α}{K:β->Prop}{u}:Fj (x.map f) K u=Fj x (λa=>K (f a)):=by cases x<;>simp
def BI(x:Bool)(A B:Prop)(u:Ck A:=.mk)(v:Ck B:=.mk):Prop:=(x=true->A)/\(x=false->B)
@[simp] theorem uR{A B u v}:BI true A B u v=A:=by simp[BI]
@[simp] theorem sI{A B u v}:BI false A B u v=B:=by simp[BI]
def ael(σ:af)(F:ZA)(u:Ck F:=.mk):Prop:=∀b,σ b=none->F b
section
variable{P:Rg}(L:lz P){o:Oper}{ε:Env}{σ:af}{K:CU}{Kp:CU}
def aiX{x}{p t:Nat}{i}(y:o.op=.typeAssert x p t true)(q:L.tt t=some i)(D:i.kind≠.iface)(z:aA ε x=.lit .nilIface)
 (A:K (.cx [qZ i.zero,.lit (.bool false)]) σ):bt P o ε σ K Kp:=
 bt.val (s:=λg=>Instr.typeAssert (g x) p t true) (λg=>by simp[execOp,y]) λk O g l B=>by
  have e:=l x aq;rw[z]at e;generalize g x=v at e;cases e;refine ag (aY L q λdd _ hd=>?_)
  have pair:∀{u:Value}{b:Bool}{a:AV},V k u a->V k (.tuple #[u,.bool b]) (.cx [a,.lit (.bool b)]):=λ{u b a} h=>.cx _ _ rfl λj w c e r=>by
   match j with
   |0=>grind
   |1=>simp at e r;subst e;subst r;exact .lit _
   |j+2=>grind
  have fin:jm P ((do pure (.tuple #[<-zeroValue t,.bool false]):Sem Value)) k O (λv f m=>sF f m λn C=>k.Le n/\∃a d,V n v a/\Rel n C d/\K a d) (λv f m=>k.Le f/\∃a d,V f v a/\Rel f m d/\Kp a d):=ag (fA L q (an (.here ⟨.refl k,_,σ,pair (.qZ k _),B,A⟩)))
  grind
end
def Ww(a:TI)(len:Nat)(parts:List (Nat × AV)):Bool:=decide (len*a.size<=16777216) && (qZ a.zero).cells.all AV.flat && (decide (len*a.size=0)||decide ((qZ a.zero).cells.length=a.size)) && (parts.map (·.1)==List.range len) && parts.all λp=>decide (p.2.cells.length=a.size) && p.2.cells.all AV.flat
def BJ{size}:∀  parts   l   s ,(parts.map (·.1)=List.range' s parts.length)->(∀p∈parts,p.2.cells.length=size/\p.2.cells.all AV.flat=true)->(s+parts.length)*size=l.length ->
 qt (λj=>some (j*size,size)) l parts=some (l.take (s*size)++RP (parts.map (·.2)))
 |[],l,s,_,_,c=>by simp[qt,RP]at c ⊢;grind
 | (i,a)::parts,l,s,b,d,c=>by
   simp  [LM,Ds,List.range'_succ,List.cons.injEq]at b;obtain⟨rfl,b⟩:=b;obtain⟨f,g⟩:=d (i,a) ap;simp   at c;have e:i*size+size<=l.length:=am
   simp only[qt];rw[BJ parts _ _ b am (by grind [tu])];rw[LM,flatten_cons,<-List.append_assoc];have:(i+1)*size=i*size+a.cells.length:=am
   unfold aI;rw[IG,Mc,Mc];have h:(List.take (i*size) l).length=i*size:=am
   simp_all [IL]
section
variable{P:Rg}(L:lz P)
def ahK{o ε σ K Kp t len e parts it b}(d:o.op=.buildSlice t len parts)(f:L.tt t=some it)(g:it.kind=.slice e)(i:L.tt e=some b)
 (h:Ww b len (parts.toList.map λp=>(p.1,aA ε p.2))=true) (j:K (.sl b.size (parts.toList.map λp=>aA ε p.2) .exact) σ):bt P o ε σ K Kp:=by
 simp only[Ww,vc,Mb,LF,DW,wK]at h;obtain⟨⟨⟨⟨k,r⟩,l⟩,m⟩,n⟩:=h;have hlen:parts.toList.length=len:=by have:=congrArg List.length m;grind
 have a:∀p∈(parts.toList.map λp=>(p.1,aA ε p.2)),p.2.cells.length=b.size/\p.2.cells.all AV.flat=true:=λp c=>⟨(n p c).1,am⟩
 refine abk L d f g i k am l  ⟨am,λx q=>?_⟩ ?_ j
 . obtain⟨p,c,rfl⟩:=CR.1 q
   exact(a (p.1,aA ε p.2) am).1
 . rw[BJ  _ _ 0 (by grind [List.range_eq_range']) a am]
   simp[Function.comp_def]
inductive Out where
 |ok (a:AV) (σ:af)
 |no
 |mM (p:Prop) (x:Out)
 |new (σ:af) (c:We)
 |panic (v:AV) (σ:af)
def Out.opt(x:IM)(σ:af):Out:=match x with|some a=>.ok a σ|none=>.no
def yl(x:Out)(K Kp:CU)(u:Ck K:=.mk)(v:Ck Kp:=.mk):Prop:=
 match x with
 |.ok a σ=>K a σ
 |.no=>False
 |.mM p x=>p/\yl x K Kp u v
 |.new σ c=>ael σ λb=>K (.ref b 0) (σ.set b (.cells c))
 |.panic v σ=>Kp v σ
section
variable{K Kp:CU}{u:Ck K}{v:Ck Kp}
@[simp] theorem ad8{a σ}:yl (.ok a σ) K Kp u v=K a σ:=propext Zy
@[simp] theorem ad9:yl .no K Kp u v=False:=propext Zy
@[simp] theorem tQ{p x}:yl (.mM p x) K Kp u v=(p/\yl x K Kp):=propext Zy
@[simp] theorem mN{x σ}:yl (.opt x σ) K Kp u v=Fj x (λa=>K a σ):=by cases x<;>simp[Out.opt]
end
def LI(op:BinOp)(kd:IntKind)(a b:Int)(σ:af):Out:=
 match op,kd with
 |.add,.i64=>.mM (fits (a+b)) (.ok (.lit (.int .i64 (a+b))) σ)
 |.sub,.i64=>.mM (fits (a-b)) (.ok (.lit (.int .i64 (a-b))) σ)
 |.mul,.i64=>.mM (fits (a*b)) (.ok (.lit (.int .i64 (a*b))) σ)
 |.eql,_=>.ok (.lit (.bool (a==b))) σ
 |.neq,_=>.ok (.lit (.bool (a !=b))) σ
 |.lss,_=>.ok (.lit (.bool (decide (a<b)))) σ
 |.leq,_=>.ok (.lit (.bool (decide (a<=b)))) σ
 |.gtr,_=>.ok (.lit (.bool (decide (a>b)))) σ
 |.geq,_=>.ok (.lit (.bool (decide (a>=b)))) σ
 |.shl,_=>.mM (0<=b) (.ok (.lit (.int kd (kd.wrap (a*2 ^ (min b.toNat kd.bits))))) σ)
 |.shr,_=>.mM (0<=b) (.ok (.lit (.int kd (a.fdiv (2 ^ (min b.toNat kd.bits))))) σ)
 |op,kd=>.opt ((vQ op kd a b).map .lit) σ
def ac4{op kd a b σ K Kp}(h:yl (LI op kd a b σ) K Kp):yi op kd a b λv=>K (.lit v) σ:=by
 have key:∀x:FP,yl (.opt (x.map .lit) σ) K Kp->∃v,x=some v/\K _ σ:=λx h=>by rw[mN,yY]at h;exact h
 cases op<;>first|exact key _ h|exact h|(cases kd<;>first|exact h|exact key _ h)
def Ho(mu:ZB)(o:Oper)(ε:Env)(σ:af):Out:=
 match o.op with
 |.move x=>.ok (aA ε x) σ
 |.assign x=>.ok (aA ε x) σ
 | .pick c a b=>match aA ε c with
   |.lit (.bool x)=>.ok (if x then aA ε a else aA ε b) σ
   |_=>.no
 | .alloc t=>match L.tt t with
   |some i=>.mM ((qZ i.zero).cells.all AV.flat=true) (.new σ (qZ i.zero).cells)
   |none=>.no
 |.box _ x=>.mM ((aA ε x).cells.all AV.flat=true) (if(match o.dst with|some d=>mu.contains d|none=>false)=true then .new σ (aA ε x).cells else .ok (.cp (aA ε x) 0) σ)
 | .load t p=>match L.tt t with
   |some i=>.opt (xR i σ (aA ε p)) σ
   |none=>.no
 | .store t p x=>match L.tt t with
   |some i=>(match vX i σ (aA ε p) (aA ε x)with|some n=>.ok (.lit undef) n|none=>.no)
   |none=>.no
 | .fieldAddr s x j=>match L.tt s with
   | some ⟨.struct,_,_,_,o6⟩=>(match o6[j]? with
     |some f=>.mM (f.2.1≠0) (.opt (yL (aA ε x) f.1) σ)
     |none=>.no)
   |_=>.no
 | .field s x j=>match L.tt s,aA ε x with
   | some ⟨.struct,_,_,_,o6⟩,.agg l=>(match o6[j]? with
     |some f=>(match L.tt f.2.2 with|some q=>.opt (eh l f.1 q.size q.agg) σ|none=>.no)
     |none=>.no)
   |_,_=>.no
 | .indexAddr t x m=>match L.tt t with
   | some ⟨.slice e,_,_,_,_⟩=>(match L.tt e,aA ε x,aA ε m with
     |some g,.sl u es _,.lit (.int _ z)=>.mM (u=g.size/\0<=z) (.opt ((es[z.toNat]?).map λa=>.cp a 0) σ)
     |some g,.mJ b off len _,.lit (.int _ z)=>.mM (0<=z/\z<len) (.ok (.ref b (off+z.toNat*g.size)) σ)
     |_,_,_=>.no)
   | some ⟨.array k e,_,_,_,_⟩=>(match L.tt e,aA ε m with
     |some g,.lit (.int _ z)=>.mM (0<=z/\z<k) (.opt (yL (aA ε x) (z.toNat*g.size)) σ)
     |_,_=>.no)
   |_=>.no
 | .index t x m=>match L.tt t with
   | some ⟨.array k e,_,_,_,_⟩=>(match L.tt e,aA ε x,aA ε m with
     |some g,.agg l,.lit (.int _ z)=>.mM (0<=z/\z<k) (.opt (eh l (z.toNat*g.size) g.size g.agg) σ)
     |_,_,_=>.no)
   |_=>.no
 | .binOp op t x y _=>match aA ε x,aA ε y with
   | .lit (.bool a),.lit (.bool b)=>(match L.tt t with
     | some ⟨.bool,_,_,_,_⟩=>(match op with
       |.eql=>.ok (.lit (.bool (a==b))) σ
       |.neq=>.ok (.lit (.bool (!(a==b)))) σ
       |_=>.no)
     |_=>.no)
   |.lit (.int kd a),.lit (.int h b)=>.mM (kd=h\/op=.shl\/op=.shr) (if(match o.dst with|some d=>mu.contains d|none=>false)=true then .opt ((vQ op kd a b).map .lit) σ else LI op kd a b σ)
   |_,_=>.no
 | .unOp .not _ x=>match aA ε x with
   |.lit (.bool b)=>.ok (.lit (.bool !b)) σ
   |_=>.no
 | .convert _ t x=>match L.tt t,aA ε x with
   |some ⟨.int kd,_,_,_,_⟩,.lit (.int _ a)=>.ok (.lit (.int kd (kd.wrap a))) σ
   |_,_=>.no
 | .makeInterface t x=>match L.tt t with
   |some i=>.mM (i.kind≠.iface) (.ok (.pH t (aA ε x)) σ)
   |none=>.no
 |.makeFunc f fs cs=>.ok (.fn f (fs.toList.map (aA ε)) (cs.toList.map (aA ε))) σ
 | .extract x j=>match aA ε x with
   |.cx l=>.opt (l[j]?) σ
   |_=>.no
 | .typeAssert x _ t true=>match L.tt t,aA ε x with
   |some i,.pH d y=>.mM (i.kind≠.iface) (.ok (if d=t then .cx [y,.lit (.bool true)]else .cx [qZ i.zero,.lit (.bool false)]) σ)
   |some i,.lit .nilIface=>.mM (i.kind≠.iface) (.ok (.cx [qZ i.zero,.lit (.bool false)]) σ)
   |_,_=>.no
 |.nilCheck x=>match aA ε x with|.cp v off=>.ok (.cp v off) σ|.ref b off=>.ok (.ref b off) σ|.kp b l hole off=>.ok (.kp b l hole off) σ|.fn (.func f) l r=>.ok (.fn (.func f) l r) σ|_=>.no
 | .panic x=>match aA ε x with
   |.pH t y=>.panic (.pH t y) σ
   |_=>.no
 | .build t parts=>match L.tt t with
   |some i=>.mM (i.kind=.struct/\(qZ i.zero).cells.all AV.flat=true) (.opt ((qt (λj=>(i.o6[j]?).map λx=>(x.1,x.2.1)) (qZ i.zero).cells (parts.toList.map λp=>(p.1,aA ε p.2))).map .agg) σ)
   |none=>.no
 | .buildSlice t len parts=>match L.tt t with
   | some ⟨.slice e,_,_,_,_⟩=>(match L.tt e with
     |some g=>.mM (Ww g len (parts.toList.map λp=>(p.1,aA ε p.2))=true) (.ok (.sl g.size (parts.toList.map λp=>aA ε p.2) .exact) σ)
     |none=>.no)
   |_=>.no
 | .call c=>match c.callee,c.args.toList with
   | .builtin .len,[x]=>(match aA ε x with
     |.sl _ es _=>.ok (.lit (.int .i64 es.length)) σ
     |.lit (.slice none 0 0)=>.ok (.lit (.int .i64 0)) σ
     |.mJ _ _ len _=>.ok (.lit (.int .i64 len)) σ
     |_=>.no)
   | .builtin .min,[x,y]=>(match aA ε x,aA ε y with
     |.lit (.int kd a),.lit (.int h b)=>.mM (kd=h) (.ok (.lit (.int kd (if b<a then b else a))) σ)
     |_,_=>.no)
   | .builtin .max,[x,y]=>(match aA ε x,aA ε y with
     |.lit (.int kd a),.lit (.int h b)=>.mM (kd=h) (.ok (.lit (.int kd (if b>a then b else a))) σ)
     |_,_=>.no)
   |_,_=>.no
 |_=>.no
def wh(o:Oper):Bool:=
 match o.op with
 |.buildSlice t _ _=>match L.tt t with|some ⟨.slice _,_,_,_,_⟩=>true|_=>false
 |.binOp _ t _ _ _=>match L.tt t with|some ⟨.int _,_,_,_,_⟩=>true|some ⟨.bool,_,_,_,_⟩=>true|_=>false
 |_=>yR L o
def De{mu o ε σ K Kp}(C:wh L o=true)(h:yl (Ho L mu o ε σ) K Kp):bt P o ε σ K Kp:=by
 unfold Ho at h;unfold wh yR at C;split at h
 . next x g=>exact Cy (.inl g) h
 . next x g=>exact Cy (.inr g) h
 . next c a b g=>
   split at h
   . next x m=>exact Nx g m h
   . exact h.elim
 . next t g=>
   split at h
   . next i w=>exact IX L g w h.1 h.2
   . exact h.elim
 . next t x g=>
   obtain⟨A,B⟩:=h;generalize (match o.dst with|some d=>mu.contains d|none=>false)=q at B;cases q
   . exact Rt g A B
   . exact C2 g A B
 . next t p g=>
   split at h
   . next i w=>rw[mN]at h;obtain⟨a,A,B⟩:=h;exact Hf L g w A B
   . exact h.elim
 . next t p x g=>
   split at h
   . next i w=>
     split at h
     . next Z A=>exact IW L g w A h
     . exact h.elim
   . exact h.elim
 . next s x j g=>
   split at h
   . next I J M o6 w=>
     split at h
     . next f U=>rw[tQ,mN]at h;obtain⟨A,a,B,S⟩:=h;exact yM L g w rfl U A B S
     . exact h.elim
   . exact h.elim
 . next s x j g=>
   split at h
   . next I J M o6 l w m=>
     split at h
     . next f U=>
       split at h
       . next fi V=>rw[mN]at h;obtain⟨a,A,B⟩:=h;exact IY L g w rfl U V m A B
       . exact h.elim
     . exact h.elim
   . exact h.elim
 . next t x ix g=>
   split at h
   . next e I J M N w=>
     split at h
     . next T kk es sp kd z F m D=>rw[tQ,mN,yY]at h;obtain⟨⟨rfl,G⟩,a,A,B⟩:=h;exact C3 L g w rfl F m D G A B
     . next T b off len cap kd z F m D=>exact BG L g w rfl F m D h.1 h.2
     . exact h.elim
   . next k e I J M N w=>
     split at h
     . next T kd z F D=>rw[tQ,mN]at h;obtain⟨G,a,A,B⟩:=h;exact BF L g w rfl F D G A B
     . exact h.elim
   . exact h.elim
 . next t x ix g=>
   split at h
   . next k e I J M N w=>
     split at h
     . next T l kd z F m D=>rw[tQ,mN]at h;obtain⟨G,a,A,B⟩:=h;exact IZ L g w rfl F m D G A B
     . exact h.elim
   . exact h.elim
 . next op t x y t2 g=>
   split at h
   . next a b m u=>
     split at h
     . next I J M N E=>
       split at h
       . exact F3 L g E rfl m u am h
       . exact F3 L g E rfl m u am h
       . exact h.elim
     . exact h.elim
   . next kd a H b m u=>
     obtain⟨a7,h⟩:=h;have n:(op≠.shl/\op≠.shr)->H=kd:=am;generalize (match o.dst with|some d=>mu.contains d|none=>false)=q at h;cases q with
     | true=>
       simp only[ZC,mN,yY]at h;obtain⟨v,R,W⟩:=h;rw[n ⟨(λe=>by subst e;cases R),(λe=>by subst e;cases R)⟩]at u;exact fL g m u R W
     |false=>
     simp only[zA,LK]at h;have h:=ac4 h;unfold yi at h;split at h
     . rw[n ap]at u;exact tL g m u am h.1 h.2
     . rw[n ap]at u;exact tL g m u am h.1 h.2
     . rw[n ap]at u;exact tL g m u am h.1 h.2
     . rw[n ap]at u;exact fL g m u rfl h
     . rw[n ap]at u;exact fL g m u rfl h
     . rw[n ap]at u;exact fL g m u rfl h
     . rw[n ap]at u;exact fL g m u rfl h
     . rw[n ap]at u;exact fL g m u rfl h
     . rw[n ap]at u;exact fL g m u rfl h
     . exact yN g m u h.1 am h.2
     . exact yN g m u h.1 am h.2
     . next A B S Y h5 h6 h7 h8 h9 a8 a9=>
       obtain⟨v,R,W⟩:=h;rw[n ⟨λe=>aq,λe=>aq⟩]at u;exact fL g m u R W
   . exact h.elim
 . next t x g=>
   split at h
   . next b m=>exact Rw g m h
   . exact h.elim
 . next s t x g=>
   simp only[g]at C;split at h
   . next kd I J M N H a E m=>
     split at C
     . next ks b1 b2 b3 b4 kt c1 c2 c3 c4 hs X=>rw[E]at X;exact C4 L g hs E rfl rfl m h
     . cases C
   . exact h.elim
 . next t x g=>
   split at h
   . next i w=>exact tN L g w h.1 h.2
   . exact h.elim
 . next f fs cs g=>exact BH g h
 . next x j g=>
   split at h
   . next l m=>rw[mN]at h;obtain⟨a,A,B⟩:=h;exact C5 g m A B
   . exact h.elim
 . next x xt t g=>
   split at h
   . next i d y w m=>exact xS L g w h.1 m h.2
   . next i w m=>exact aiX L g w h.1 m h.2
   . exact h.elim
 . next x g=>
   split at h
   . next v off m=>exact ko g aq aq
   . next b off m=>exact ko g aq aq
   . next b l hole off m=>exact ko g aq aq
   . next f l r m=>exact ko g aq aq
   . exact h.elim
 . next x g=>
   split at h
   . next t y m=>exact I0 g m h
   . exact h.elim
 . next t parts g=>
   split at h
   . next i w=>rw[tQ,mN,yY]at h;obtain⟨⟨A,B⟩,l,S,Y⟩:=h;exact I2 L g w A B S Y
   . exact h.elim
 . next t len parts g=>
   split at h
   . next e I J M N E=>
     split at h
     . next T F=>exact ahK L g E rfl F h.1 h.2
     . exact h.elim
   . exact h.elim
 . next c g=>
   simp only[g]at C;split at h
   . next x O Q=>
     simp only[O,Q]at C;have e:=qM O Q;split at C
     . next t G=>
       split at C
       . next e' I J M N E=>
         rw[e]at g;split at h
         . next kk es sp m=>exact Hg L g G E rfl (.inl m) h
         . next m=>exact Hg L (kk:=0) (sp:=.any) (es:=[]) g G E rfl am h
         . next b off len cap m=>exact FZ L g G E rfl m h
         . exact h.elim
       grind
     grind
   . next x y O Q=>
     rw[qM O Q]at g;split at h
     . next kd a H b m u=>obtain⟨rfl,h⟩:=h;exact xf g m u am h
     . exact h.elim
   . next x y O Q=>
     rw[qM O Q]at g;split at h
     . next kd a H b m u=>obtain⟨rfl,h⟩:=h;exact xf g m u am h
     . exact h.elim
   . exact h.elim
 . exact h.elim
end
def vR(pl:List Entry):Code->Bool
 |.seq a b=>vR pl a && vR pl b
 |.block _ c=>vR pl c
 |.scope c=>vR pl c
 |.cond _ a b=>vR pl a && vR pl b
 |.loop c=>vR pl c
 |.rangeFunc _ _ a c=>vR pl a && vR pl c
 |.region id ο true=>match pl.find? λe=>e.id==id with|some e=>yV ο e|none=>true
 |_=>true
def oZ(pl:List Entry)(todo:AJ):Bool:=todo.all fun|.code c=>vR pl c|_=>true
def abZ{pl id k k'}(h:exitTo id k=some k')(a:oZ pl k=true):oZ pl k'=true:=by
 unfold oZ at a ⊢
 grind [xU]
def aa(P:Rg)(m:Mo)(φ n:Nat)(ro:Dm)(η:List Entry)(todo:AJ)(s:St)(K:Ci):Prop:=oZ η todo=true->Go P m φ n ro todo s K
def Df(ο:Cx)(n:Nat)(ε:Env)(o:Oper):Option Bool:=
 match o.guard with
 |none=>some true
 | some (j,b)=>match (ο[j]?).bind (·.dst)with
   | some d=>if d<n then(match ε d with
     |.lit (.bool x)=>some (if b then x else !x)
     |.lit (.tuple _)=>some false
     |_=>none)else none
   |none=>none
def OQ(x:Option Bool)(A B:Prop)(u:Ck A:=.mk)(v:Ck B:=.mk):Prop:=match x with|some b=>BI b A B u v|none=>False
@[simp] theorem tR{b A B u v}:OQ (some b) A B u v=BI b A B:=propext Zy
@[simp] theorem abJ{A B u v}:OQ none A B u v=False:=propext Zy
def Dg{ο n ε o go no go' a u v}(f:go->go')(g:no->a)(h:OQ (Df ο n ε o) go no u v):yj ο n ε o go' a:=by
 unfold Df at h;unfold yj;cases i:o.guard with
 |none=>simp_all
 | some p=>
   obtain⟨j,b⟩:=p;rw[i]at h;simp  at h ⊢;cases hd:(ο[j]?).bind _ with
   |none=>simp_all
   | some d=>
     rw[hd]at h;simp  at h ⊢;by_cases c:d<n
     . rw [wS c]at h
       refine⟨c,?_⟩;split at h
       . next x k=>
         simp  [k];refine⟨λe=>?_,λe=>?_⟩
         . simp_all
         . cases x<;>cases b<;>simp at e
           . simp_all
           simp_all
       . simp_all
       simp_all
     simp_all
def F4{ο n ε o go no u v}(h:OQ (Df ο n ε o) go no u v):
 (dC ο n ε o/\go)\/∃j b x d a,o.guard=some (j,b)/\ο[j]?=some a/\a.dst=some d/\d<n/\ε d=.lit x/\Lz x b/\no:=
 yS (Dg id id h)
section
variable{P:Rg}{m:Mo}{φ n:Nat}{ro:Dm}{D:List Fg}{rc:Rec}{K:Ci}{k:AJ}{ο:Cx}
def Go.abK{Kp i is ε σ}(N:∀v ε σ,Kp v σ->K (.panic v) ⟨ε,σ,D,rc⟩)
 (h:fC P m ο n Kp [i] ε σ (λε σ=>Go P m φ n ro (.inRegion ο is::k) ⟨ε,σ,D,rc⟩ K)):Go P m φ n ro (.inRegion ο (i::is)::k) ⟨ε,σ,D,rc⟩ K:=by
 obtain⟨o,f,c,h⟩:=h;rcases h with⟨w,h⟩|⟨⟨j,b,x,d,Q,A,B,hd,l,C,p⟩,h⟩
 . rcases h with⟨fo,args,E,q,s⟩|⟨q,s⟩
   . refine .call f q w c (s.mono λr e F=>?_)
     cases r with
     |val a=>exact F
     |panic v=>grind
   . refine .op f w c q ?_
     intro G O H t I;refine mK _ (s G O H t I) (λ_ _ _ ⟨v,J,L,M,g,u,a,e,x,y,z⟩=>⟨v,J,L,M,g,u,a,e,x,y,z⟩) am
 . exact .unwanted f A B hd l C p h
variable(L:lz P)
def LJ(mu:ZB)(lt:Bool)(o:Oper)(ε:Env)(σ:af):IM:=
 match o.op with
 |.load t p=>if lt then(match L.tt t with|some i=>xR i σ (aA ε p)|none=>none)else Cj L mu o ε
 |_=>Cj L mu o ε
def Hp(mu:ZB)(ο:Cx)(n:Nat)(lt:Bool)(σ:af)(K:Env->Prop)(u:Ck K:=.mk):ZB->Env->Prop
 |[],ε=>K ε
 | i::S,ε=>match ο[i]? with
   |some o=>(Oper.ok n o && o.dst.isSome)=true/\OQ (Df ο n ε o) (Fj (LJ L mu lt o ε σ) λa=>Hp mu ο n lt σ K u S (cG ε o.dst a)) (Hp mu ο n lt σ K u S (cG ε o.dst (.lit (.tuple #[]))))
   |none=>False
def ahJ{mu lt o ε σ a}(h:LJ L mu lt o ε σ=some a):Cj L mu o ε=some a\/(Cj L mu o ε=none/\lt=true/\Dc L o ε σ=some a):=by
 unfold LJ at h;split at h
 . next t p c=>
   cases lt
   . grind
   . simp at h
     split at h
     . next i d=>
       have f:Dc L o ε σ=some a:=aq
       cases b:Cj L mu o ε with
       |none=>grind
       | some g=>
         unfold Cj at b;simp  [c,d]at b;split at b
         . next j v off e k=>simp_all
         . simp_all
         grind
     grind
 grind
def tT{mu ο n lt σ K u}:∀{S ε},Hp L mu ο n lt σ K u S ε->oW L mu ο n lt σ S ε K
 |[],ε,h=>h
 | i :: S,ε,h=>by
   unfold Hp at h;unfold oW;split at h
   . next o e=>
     try simp only[e]
     obtain⟨b,f⟩:=h;rw[vc]at b;refine⟨b.1,b.2,?_⟩
     have γ:(Fj (LJ L mu lt o ε σ) λa=>Hp L mu ο n lt σ K u S (cG ε o.dst a))->(match Cj L mu o ε with
      |some a=>oW L mu ο n lt σ S (cG ε o.dst a) K
      | none=>lt=true/\(match Dc L o ε σ with
        |some a=>oW L mu ο n lt σ S (cG ε o.dst a) K
        |none=>False)):=by
      rintro⟨a,g,d⟩;rcases ahJ L g with h|⟨h,j,c⟩
      . simp only[h];exact tT d
      . simp only[h,c];exact⟨j,tT d⟩
     exact Dg γ tT f
   grind
def BL:Op->Bool
 |.defer _|.go _|.send _ _|.recv _ _ _|.select _ _=>false
 |.call c=>match c.callee with|.builtin .recover=>false|.builtin .close=>false|.invoke _ _=>false|_=>true
 |_=>true
def Wx(m:Mo)(o:Oper)(ε:Env)(σ:af)(R:CU)(Kp:CU):Prop:=
 match o.op with
 |.call ⟨.value fo,args,_⟩=>cQ P m (aA ε fo) (args.toList.map (aA ε)) σ λr b=>match r with|.val a=>R a b|.panic v=>Kp v b
 |_=>bt P o ε σ R Kp
def Ny{m o ε σ R Kp}(b:BL o.op=true)(h:Wx (P:=P) m o ε σ R Kp):Wv P m o ε σ R Kp:=by
 unfold Wx at h;split at h
 . next fo args a d=>exact .inl ⟨fo,args,a,d,h⟩
 . exact .inr ⟨(λc e=>by rw[e]at b;cases b),h⟩
def aR(P:Rg)(m:Mo)(ο:Cx)(n:Nat)(Kp:CU)(p:sm)(ε:Env)(σ:af)(R:FI):Prop:=nf P m ο n Kp p ε σ R
def Wy(m:Mo)(mu:ZB)(ο:Cx)(n:Nat)(Kp:CU)(i:Nat)(p:sm)(ε:Env)(σ:af)(go:FI)(R:FI)(u:Ck go:=.mk):Prop:=
 match ο[i]? with
 | some o=>Oper.ok n o=true/\OQ (Df ο n ε o) (if wh L o=true then yl (Ho L mu o ε σ) (λa b=>go (cG ε o.dst a) b) Kp else
    if BL o.op=true then Wx (P:=P) m o ε σ (λa b=>aR P m ο n Kp p (cG ε o.dst a) b R) Kp else oh P m ο n Kp i ε σ (λε σ=>aR P m ο n Kp p ε σ R)) (go (cG ε o.dst (.lit (.tuple #[]))) σ)
 |none=>False
def mD(m:Mo)(mu:ZB)(ο:Cx)(n:Nat)(Kp:CU):sm->Env->af->FI->Prop
 |.done,ε,σ,R=>R ε σ
 |.take S lt p,ε,σ,R=>Hp L mu ο n lt σ (λa=>mD m mu ο n Kp p a σ R) .mk S ε
 |.one i p,ε,σ,R=>Wy L m mu ο n Kp i p ε σ (λε σ=>mD m mu ο n Kp p ε σ R) R
 |.both i p q,ε,σ,R=>Wy L m mu ο n Kp i p ε σ (λε σ=>mD m mu ο n Kp p ε σ R) R/\mD m mu ο n Kp q ε σ R
def AL{m mu ο n Kp p R}(r:∀{ε σ},mD L m mu ο n Kp p ε σ R->nf P m ο n Kp p ε σ R){i ε σ}
 (h:Wy L m mu ο n Kp i p ε σ (λε σ=>mD L m mu ο n Kp p ε σ R) R):oh P m ο n Kp i ε σ (λε σ=>nf P m ο n Kp p ε σ R):=by
 unfold Wy at h;split at h
 . next o f=>
   obtain⟨a,h⟩:=h;rcases F4 h with⟨q,h⟩|⟨j,b,x,s,t,u,v,g,k,w,l,h⟩
   . split at h
     . next d=>
       refine⟨o,f,a,.inl ⟨q,.inr ⟨λc e=>?_,(De L d h).mono am⟩⟩⟩;unfold wh yR at d;simp_all
     . split at h
       . next y=>exact⟨o,f,a,.inl ⟨q,Ny y h⟩⟩
       . exact h
   . exact⟨o,f,a,.inr ⟨⟨j,b,x,s,t,u,v,g,k,w,l⟩,r h⟩⟩
 . exact h.elim
def nf.mD{m:Mo}(mu:ZB){ο:Cx}{n:Nat}{Kp:CU}{R:FI}:∀{p:sm}{ε:Env}{σ:af},mD L m mu ο n Kp p ε σ R->nf P m ο n Kp p ε σ R
 |.done,_,_,h=>.done h
 |.take S lt p,_,_,h=>nf.take L mu (oW.mono L (λa h=>nf.mD mu h) (tT L h))
 |.one i p,_,_,h=>nf.one (AL L (nf.mD mu) h)
 |.both i p q,_,_,h=>nf.both (AL L (nf.mD mu) h.1) (nf.mD mu h.2)
def aR.go{m}  mu  {ο n Kp R p ε σ}(h:mD L m mu ο n Kp p ε σ R):aR P m ο n Kp p ε σ R:=nf.mD L mu h
def cU(m:Mo)(φ n:Nat)(ro:Dm)(mu:ZB)(η:List Entry):Nat->AJ->St->Ci->Prop
 |0,todo,s,K=>aa P m φ n ro η todo s K
 | f + 1,todo,s,K=>match todo with
   |[]=>K (.leave none) s
   |.code .ret::_=>K (.leave (some .ret)) s
   |.code .skip::k=>cU m φ n ro mu η f k s K
   |.code (.label _)::k=>cU m φ n ro mu η f k s K
   |.inBlock _::k=>cU m φ n ro mu η f k s K
   |.inScope _::k=>cU m φ n ro mu η f k s K
   |.code (.seq a b)::k=>cU m φ n ro mu η f (.code a::.code b::k) s K
   |.code (.block id c)::k=>cU m φ n ro mu η f (.code c::.inBlock id::k) s K
   |.code (.scope c)::k=>cU m φ n ro mu η f (.code c::.inScope c::k) s K
   | .code (.exit id)::k=>match exitTo id k with
     |some g=>cU m φ n ro mu η f g s K
     |none=>K (.leave (some (.exit id))) s
   | .code (.cond c a b)::k=>Operand.ok n c=true/\(match aA s.env c with
     |.lit (.bool x)=>BI x (cU m φ n ro mu η f (.code a::k) s K) (cU m φ n ro mu η f (.code b::k) s K)
     |_=>False)
   |.code (.region _ ο false)::k=>cU m φ n ro mu η f (.inRegion ο (List.range ο.size)::k) s K
   | .code (.region id ο true)::k=>match η.find? λe=>e.id==id with
     |some ⟨_,p⟩=>mD L m mu ο n (λv σ=>∀ε,K (.panic v) {s with env:=ε,σ}) p s.env s.σ (λε σ=>aa P m φ n ro η k {s with env:=ε,σ} K)
     |none=>aa P m φ n ro η (.code (.region id ο true)::k) s K
   |.inRegion _ []::k=>cU m φ n ro mu η f k s K
   | .inRegion ο (i::is)::k=>match ο[i]? with
     | some o=>Oper.ok n o=true/\
       OQ (Df ο n s.env o) (if wh L o=true then yl (Ho L mu o s.env s.σ) (λa d=>cU m φ n ro mu η f (.inRegion ο is::k) {s with env:=cG s.env o.dst a,σ:=d} K) (λa d=>K (.panic a) {s with σ:=d})
        else if BL o.op=true then Wx (P:=P) m o s.env s.σ (λa d=>aa P m φ n ro η (.inRegion ο is::k) {s with env:=cG s.env o.dst a,σ:=d} K) (λa d=>∀ε,K (.panic a) {s with env:=ε,σ:=d})
        else aa P m φ n ro η (.inRegion ο (i::is)::k) s K) (cU m φ n ro mu η f (.inRegion ο is::k) {s with env:=cG s.env o.dst (.lit (.tuple #[]))} K)
     |none=>aa P m φ n ro η (.inRegion ο (i::is)::k) s K
   |todo=>aa P m φ n ro η todo s K
def Go.cU{m:Mo}{φ n:Nat}{ro:Dm}(mu:ZB)(η:List Entry):∀(f:Nat){todo:AJ}{s:St}{K:Ci},oZ η todo=true->cU L m φ n ro mu η f todo s K->Go P m φ n ro todo s K
 |0,_,_,_,g,h=>h g
 | f + 1,todo,s,K,g,h=>by
   unfold bu.cU at h;split at h
   . exact .leave (.inl ⟨rfl,rfl⟩) h
   . exact .leave (.inr (.inl ⟨_,rfl,rfl⟩)) h
   . exact .skip (Go.cU mu η f (by simpa[oZ,vR]using g) h)
   . exact .label (Go.cU mu η f (by simpa[oZ,vR]using g) h)
   . exact .inBlock (Go.cU mu η f (by simpa[oZ,vR]using g) h)
   . exact .inScope (Go.cU mu η f (by simpa[oZ,vR]using g) h)
   . exact .seq (Go.cU mu η f (by simpa[oZ,vR,and_assoc]using g) h)
   . exact .block (Go.cU mu η f (by simpa[oZ,vR]using g) h)
   . exact .scope (Go.cU mu η f (by simpa[oZ,vR]using g) h)
   . split at h
     . next S A=>exact .exit A (Go.cU mu η f (abZ A (by simp only[oZ,IN,vc]at g ⊢;grind)) h)
     . next A=>exact .leave (.inr (.inr ⟨_,_,rfl,A,rfl⟩)) h
   . next c a b k=>
     obtain⟨B,u⟩:=h;split at u
     . next x C=>
       refine .cond C B ?_;cases x
       . exact Go.cU mu η f (by simp only[oZ,IN,vc,vR]at g ⊢;grind) (u.2 rfl)
       . exact Go.cU mu η f (by simp only[oZ,IN,vc,vR]at g ⊢;grind) (u.1 rfl)
     grind
   . exact .region (Go.cU mu η f (by simpa[oZ,vR]using g) h)
   . next id ο k=>
     split at h
     . next E p N=>
       have F:yV ο ⟨E,p⟩=true:=by
        simp only[oZ,IN,vR,N,vc]at g
        grind
       simp only[yV,vc]at F;obtain⟨ε,σ,D,rc⟩:=s;refine Go.draw L.mixed F.1 λl B u O=>?_
       exact fC.mono (λε σ h=>h (by simp only[oZ,IN,vc]at g ⊢;grind)) _ _ _ (nf.mD L mu h _ _ _ F.2 l B u O am)
     . exact h g
   . exact .FX (Go.cU mu η f (by simpa[oZ,vR]using g) h)
   . next ο i is k=>
     split at h
     . next o G=>
       obtain⟨w,h⟩:=h;have q:oZ η (.inRegion ο is::k)=true:=by simpa[oZ,vR]using g
       rcases F4 h with⟨M,t⟩|⟨j,b,x,d,T,t,Q,hd,H,C,I,h⟩
       . split at t
         . next y=>
           refine .op G M w (λc e=>?_) ?_
           . unfold wh yR at y;simp_all
           . exact(De L y t).mono λa r J=>Go.cU mu η f q J
         . split at t
           . next R=>
             have z:fC P m ο n (λa r=>∀ε,K (.panic a) {s with env:=ε,σ:=r}) [i] s.env s.σ (λε r=>Go P m φ n ro (.inRegion ο is::k) {s with env:=ε,σ:=r} K):=⟨o,G,w,.inl ⟨M,(Ny R t).mono λa r J=>J q⟩⟩;exact Go.abK (λv ε σ h=>h ε) z
           . exact t g
       . exact .unwanted G t Q hd H C I (Go.cU mu η f q h)
     . exact h g
   . exact h g
end

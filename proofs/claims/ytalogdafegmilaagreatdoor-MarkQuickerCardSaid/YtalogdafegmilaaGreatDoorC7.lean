/- Part 7 of the proof. -/
import Derived.Orders
import Derived.Test.YtalogdafegmilaaGreatDoorC6
set_option linter.all false
namespace Go.aN
open Go.Conc
theorem aG.congr{P:Program}{o:Oper}{env env':Env}{σ:aa}{K Kp:AV->aa->Prop}(h:aG P o env σ K Kp)(he:∀x∈o.op.operands,ap env' x=ap env x):aG P o env' σ K Kp:=λk O ρ h1 h2=>h k O ρ (λx hx=>by rw[<-he x hx];exact h1 x hx) h2
def JG(P:Program)(m:Mo)(o:Oper)(env:Env)(σ:aa)(R:AV->aa->Prop)(Kp:AV->aa->Prop):Prop:=
 (∃fo args tys,o.op=.call ⟨.value fo,args,tys⟩/\dC P m (ap env fo) (args.toList.map (ap env)) σ (λr σ'=>match r with|.val a=>R a σ'|.panic v=>Kp v σ'))\/
 ((∀c,o.op≠.defer c)/\aG P o env σ R Kp)
theorem JG.mono{P:Program}{m:Mo}{o:Oper}{env:Env}{σ:aa}{R R' Kp:AV->aa->Prop}(h:JG P m o env σ R Kp)(hr:∀a σ,R a σ->R' a σ):JG P m o env σ R' Kp:=by
 rcases h with⟨fo,args,tys,h1,h2⟩|⟨h1,h2⟩
 . refine .inl ⟨fo,args,tys,h1,h2.mono λr σ' hh=>?_⟩
   cases r
   . exact hr _ _ hh
   . exact hh
 . exact .inr ⟨h1,h2.mono hr⟩
theorem JG.congr{P:Program}{m:Mo}{o:Oper}{env env':Env}{σ:aa}{R Kp:AV->aa->Prop}(h:JG P m o env σ R Kp)(he:∀x∈o.op.operands,ap env' x=ap env x):JG P m o env' σ R Kp:=by
 rcases h with⟨fo,args,tys,h1,h2⟩|⟨h1,h2⟩
 . refine .inl ⟨fo,args,tys,h1,?_⟩
   have e1:ap env' fo=ap env fo:=he fo (by rw[h1];simp[Op.operands,Call.operands]);have e2:args.toList.map (ap env')=args.toList.map (ap env):=List.map_congr_left λx hx=>he x (by rw[h1];simp only[Op.operands,Call.operands];exact Array.mem_append.2 (.inr (by simpa using hx)))
   rw[e1,e2];exact h2
 . exact .inr ⟨h1,h2.congr he⟩
def kM(ops:Array Oper)(n:Nat)(env:Env)(o:Oper):Prop:=∃j b x d oj,o.guard=some (j,b)/\ops[j]?=some oj/\oj.dst=some d/\d<n/\env d=.lit x/\Nh x b
def cP(P:Program)(m:Mo)(ops:Array Oper)(n:Nat)(Kp:AV->aa->Prop):List Nat->Env->aa->(Env->aa->Prop)->Prop
 |[],env,σ,R=>R env σ
 | i::l,env,σ,R=>∃o,ops[i]?=some o/\Oper.ok n o=true/\
   ((bS ops n env o/\JG P m o env σ (λa σ'=>cP P m ops n Kp l (bd env o.dst a) σ' R) Kp)\/(kM ops n env o/\cP P m ops n Kp l (bd env o.dst (.lit (.tuple #[]))) σ R))
section
variable{P:Program}{m:Mo}{fid n:Nat}{ro:Option Nat}{D:List kL}{rc:Rec}{K:Exit->St->Prop}{k:List Item}{ops:Array Oper}
theorem Go.qF{Kp:AV->aa->Prop}:∀(l:List Nat) (env:Env) (σ:aa),(∀v env σ,Kp v σ->K (.panic v) ⟨env,σ,D,rc⟩) ->
 cP P m ops n Kp l env σ (λenv σ=>Go P m fid n ro k ⟨env,σ,D,rc⟩ K)->Go P m fid n ro (.inRegion ops l::k) ⟨env,σ,D,rc⟩ K
 |[],env,σ,_,h=>.wI h
 | i :: l,env,σ,hp,⟨o,ho,hok,h⟩=>by
   rcases h with⟨hw,h⟩|⟨⟨j,b,x,d,oj,hg,hj,hd,hdn,hx,hxb⟩,h⟩
   . rcases h with⟨fo,args,tys,h1,h2⟩|⟨h1,h2⟩
     . refine .call ho h1 hw hok (h2.mono λr σ' hh=>?_)
       cases r with
       |val a=>exact Go.qF l _ σ' hp hh
       |panic v=>exact hp _ _ _ hh
     . refine .op ho hw hok h1 ?_
       intro kk O ρ hρ hr;refine lZ _ (h2 kk O ρ hρ hr) (λ_ _ _ ⟨v,hv,k2,O2,g,hle,a,σ',x,y,z⟩=>⟨v,hv,k2,O2,g,hle,a,σ',x,y,Go.qF l _ σ' hp z⟩) (λ_ _ _ ⟨hle,a,σ',x,y,z⟩=>⟨hle,a,σ',x,y,hp _ _ _ z⟩)
   . exact .unwanted ho hg hj hd hdn hx hxb (Go.qF l _ σ hp h)
def BV(P:Program)(o:Oper)(env:Env)(a:AV):Prop:=∀σ,aG P o env σ (λa' σ'=>a'=a/\σ'=σ) (λ_ _=>False)
def qG(P:Program)(o:Oper)(env:Env)(σ:aa)(a:AV):Prop:=aG P o env σ (λa' σ'=>a'=a/\σ'=σ) (λ_ _=>False)
def ib(ops:Array Oper)(j i:Nat):Bool:=match ops[i]? with|some o=>o.after.toList.any λe=>Region.binds .any e && e.on==j|none=>false
def dk(ops:Array Oper)(o:Oper):List Nat:=(o.op.operands.toList.filterMap fun|.tmp t=>some t|_=>none)++(match o.guard with|some (j,_)=>(match (ops[j]?).bind (·.dst)with|some d=>[d]|none=>[])|none=>[])
def kA(ops:Array Oper)(rest S:List Nat):Bool:=
 rest.all fun i=>match ops[i]? with
  |none=>false
  | some o=>
    rest.all λj=>match ops[j]? with
     |none=>false
     | some oj=>match oj.dst with
       |none=>true
       | some d=>
         (if (dk ops o).contains d then
           (if S.contains i then(if S.contains j then ib ops j i && Nat.blt j i else ib ops i j)
            else(if S.contains j then ib ops j i else true))else true) &&
         (if S.contains i && i !=j && o.dst==some d then false else true)
def oA(ops:Array Oper):Bool:=(List.range ops.size).all λi=>match ops[i]? with|none=>false|some o=>o.after.toList.all λe=>!Region.binds .any e||Nat.blt e.on i
theorem uy{ops:Array Oper}(h:oA ops=true):∀i o,ops[i]?=some o->∀e∈o.after,Region.binds .any e=true->e.on<i:=by
 intro i o ho e he hb;have hil:i<ops.size:=(Array.getElem?_eq_some_iff.1 ho).1;have h1:=List.all_eq_true.1 h i (List.mem_range.2 hil);simp only[ho]at h1;have h2:=List.all_eq_true.1 h1 e (by simpa using he);rw[hb]at h2;simpa using h2
def iO(ops:Array Oper):List Nat->List Nat->Prop
 |_,[]=>True
 |done,i::l=>(∀j,ib ops j i=true->j∈done)/\i∉done/\iO ops (i::done) l
theorem nL{env env':Env}{x:Operand}(h:∀t,x=.tmp t->env' t=env t):ap env' x=ap env x:=by cases x<;>first|rfl|exact h _ rfl
theorem mem_reads{o:Oper}{t:Nat}(h:Operand.tmp t∈o.op.operands):t∈dk ops o:=by unfold dk;refine List.mem_append.2 (.inl (List.mem_filterMap.2 ⟨.tmp t,by simpa using h,rfl⟩))
theorem wQ{o oj:Oper}{j:Nat}{b:Bool}{d:Nat}(hg:o.guard=some (j,b))(hj:ops[j]?=some oj)(hd:oj.dst=some d):d∈dk ops o:=by unfold dk;refine List.mem_append.2 (.inr ?_);rw[hg];simp[hj,hd]
theorem bS.congr{env env':Env}{o:Oper}(h:bS ops n env o)(he:∀t∈dk ops o,env' t=env t):bS ops n env' o:=by
 unfold bS at h ⊢;cases hg:o.guard with
 |none=>trivial
 |some p=>obtain⟨j,b⟩:=p;simp only[hg]at h ⊢;obtain⟨oj,d,h1,h2,h3,h4⟩:=h;exact⟨oj,d,h1,h2,h3,by rw[he d (wQ hg h1 h2)];exact h4⟩
theorem kM.congr{env env':Env}{o:Oper}(h:kM ops n env o)(he:∀t∈dk ops o,env' t=env t):kM ops n env' o:=by obtain⟨j,b,x,d,oj,hg,hj,hd,hdn,hx,hxb⟩:=h;exact⟨j,b,x,d,oj,hg,hj,hd,hdn,by rw[he d (wQ hg hj hd)];exact hx,hxb⟩
theorem jz(env:Env)(dst:Option Tmp)(a:AV)(t:Nat):bd env dst a t=if dst=some t then a else env t:=by
 cases dst with
 |none=>simp[bd]
 | some d=>
   by_cases h:t=d
   . subst h;simp[bd,Env.upd]
   . simp[bd,Env.upd,h,Ne.symm h]
def late(ops:Array Oper)(rest S:List Nat)(i:Nat):Bool:=rest.all λj=>S.contains j||ib ops i j
def yj(P:Program)(ops:Array Oper)(n:Nat)(rest S:List Nat)(env1:Env)(σ:aa)(i:Nat):Prop:=∃o,ops[i]?=some o/\Oper.ok n o=true/\((bS ops n env1 o/\∃d,o.dst=some d/\(∀c,o.op≠.defer c)/\(BV P o env1 (env1 d)\/(late ops rest S i=true/\qG P o env1 σ (env1 d))))\/(kM ops n env1 o/\∃d,o.dst=some d/\env1 d=.lit (.tuple #[])))
theorem jl{rest S:List Nat}(hc:kA ops rest S=true){i j:Nat}{o oj:Oper}{d:Nat}(hir:i∈rest)(hjr:j∈rest)(hi:ops[i]?=some o)(hj:ops[j]?=some oj)(hd:oj.dst=some d):
 (d∈dk ops o->(i∈S->(j∈S->ib ops j i=true/\j<i)/\(j∉S->ib ops i j=true))/\(i∉S->j∈S->ib ops j i=true))/\(i∈S->i≠j->o.dst≠some d):=by
 unfold kA at hc;rw[List.all_eq_true]at hc;have h1:=hc i hir;simp only[hi]at h1;have h2:=List.all_eq_true.1 h1 j hjr;simp only[hj,hd,Bool.and_eq_true]at h2;obtain⟨h3,h4⟩:=h2;refine⟨λhm=>?_,λhS hne he=>?_⟩
 . have hm':(dk ops o).contains d=true:=by simpa using hm
   rw[if_pos hm']at h3;refine⟨λhS=>⟨λhj=>?_,λhj=>?_⟩,λhS hj=>?_⟩
   . simpa[hS,hj]using h3
   . simpa[hS,hj]using h3
   . simpa[hS,hj]using h3
 . simp[hS,hne,he]at h4
theorem hoist{rest S:List Nat}{Kp:AV->aa->Prop}{R:Env->aa->Prop}(hc:kA ops rest S=true):
 ∀ (l done:List Nat) (env env1:Env) (σ:aa),(∀i∈l,i∈rest)->iO ops done l->(∀i∈l,i∉done)->l.Nodup->(∀i∈l,∃o,ops[i]?=some o) ->
   (∀i∈l,i∈S->yj P ops n rest S env1 σ i)->(∀t,(∀i∈l,i∈S->∀o,ops[i]?=some o->o.dst≠some t)->env1 t=env t) ->
   cP P m ops n Kp (l.filter λi=>!S.contains i) env1 σ R->cP P m ops n Kp l env σ R
 | [],done,env,env1,σ,_,_,_,_,_,_,he,h=>by
   have:env1=env:=funext λt=>he t (λi hi=>by simp at hi)
   rw[<-this];exact h
 | i :: l, done,env,env1,σ,hlr,ha,hnd,hndp,hops,hh,he,h=>by
   obtain⟨a1,a2,a3⟩:=ha;obtain⟨o,ho⟩:=hops i (by simp);have hil:i∉l:=(List.nodup_cons.1 hndp).1
   have hrd:∀t∈dk ops o,env1 t=env t:=λt ht=>he t λj hj hjS oj hoj hd=>by
    obtain⟨c1,_⟩:=jl hc (hlr i (by simp)) (hlr j (by simp[hj])) ho hoj hd
    have hedge:ib ops j i=true:=by
     by_cases hiS:i∈S
     . exact(((c1 ht).1 hiS).1 hjS).1
     . exact(c1 ht).2 hiS hjS
    exact hnd j hj (a1 j hedge)
   have hopr:∀x∈o.op.operands,ap env x=ap env1 x:=λx hx=>nL λt e=>(hrd t (mem_reads (by rw[<-e];exact hx))).symm
   have hnd':∀j∈l,j∉i::done:=λj hj hm=>by
    rcases List.mem_cons.1 hm with rfl|hm
    . exact hil hj
    . exact hnd j (by simp[hj]) hm
   by_cases hiS:i∈S
   . have hf:(i::l).filter (λi=>!S.contains i)=l.filter λi=>!S.contains i:=by simp[hiS]
     rw[hf]at h;obtain⟨o',ho',hok,hw⟩:=hh i (by simp) hiS;rw[ho]at ho';cases ho'
     have next:∀a d,o.dst=some d->env1 d=a->cP P m ops n Kp l (bd env o.dst a) σ R:=λa d hd hda=>
      hoist hc l (i::done) (bd env o.dst a) env1 σ (λj hj=>hlr j (by simp[hj])) a3 hnd' (List.nodup_cons.1 hndp).2 (λj hj=>hops j (by simp[hj])) (λj hj=>hh j (by simp[hj])) (λt ht=>by
       rw[jz,hd];by_cases htd:d=t
       . subst htd;simp[hda]
       . rw[if_neg (λe=>htd (Option.some.inj e))]
         refine he t λj hj hjS oj hoj hdj=>?_
         rcases List.mem_cons.1 hj with rfl|hj
         . rw[ho]at hoj;cases hoj
           rw[hd]at hdj;exact htd (Option.some.inj hdj)
         . exact ht j hj hjS oj hoj hdj) h
     rcases hw with⟨hw,d,hd,hdf,hst⟩|⟨hw,d,hd,hj⟩
     . refine⟨o,ho,hok,.inl ⟨hw.congr λt ht=>(hrd t ht).symm,.inr ⟨hdf,?_⟩⟩⟩
       have:=(show qG P o env1 σ (env1 d)from hst.elim (λh=>h σ) (λh=>h.2)).congr hopr;intro kk O ρ hρ hr;refine lZ _ (this kk O ρ hρ hr) (λ_ _ _ ⟨v,hv,k2,O2,g,hle,a,σ',x,y,e1,e2⟩=>⟨v,hv,k2,O2,g,hle,a,σ',x,y,?_⟩) (λ_ _ _ ⟨_,_,_,_,_,z⟩=>z.elim);subst e1;subst e2;exact next _ d hd rfl
     . exact⟨o,ho,hok,.inr ⟨hw.congr λt ht=>(hrd t ht).symm,next _ d hd hj⟩⟩
   . have hf : (i::l).filter (λi=>!S.contains i)=i::l.filter λi=>!S.contains i:=by simp[hiS]
     rw[hf]at h;obtain⟨o',ho',hok,hw⟩:=h;rw[ho]at ho';cases ho'
     have next:∀a σ',cP P m ops n Kp (l.filter λi=>!S.contains i) (bd env1 o.dst a) σ' R->cP P m ops n Kp l (bd env o.dst a) σ' R:=λa σ' h'=>
      hoist hc l (i::done) (bd env o.dst a) (bd env1 o.dst a) σ' (λj hj=>hlr j (by simp[hj])) a3 hnd' (List.nodup_cons.1 hndp).2 (λj hj=>hops j (by simp[hj]))
       (fun j hj hjS=>by
         obtain⟨oj,hoj,hokj,hwj⟩:=hh j (by simp[hj]) hjS;have hji:j≠i:=λe=>hil (e ▸ hj)
         have hkeep:∀t∈dk ops oj,bd env1 o.dst a t=env1 t:=λt ht=>by
          rw[jz];by_cases hd:o.dst=some t
          . obtain⟨c1,_⟩:=jl hc (hlr j (by simp[hj])) (hlr i (by simp)) hoj ho hd
            have:=((c1 ht).1 hjS).2 hiS;exact absurd (a1 j this) (hnd j (by simp[hj]))
          . rw[if_neg hd]
         have hdst:∀d,oj.dst=some d->bd env1 o.dst a d=env1 d:=λd hd=>by
          rw[jz];by_cases hdo:o.dst=some d
          . obtain⟨_,c2⟩:=jl hc (hlr j (by simp[hj])) (hlr i (by simp)) hoj ho hdo
            exact absurd hd (c2 hjS hji)
          . rw[if_neg hdo]
         refine⟨oj,hoj,hokj,?_⟩;rcases hwj with⟨hw1,d,hd,hdf,hst⟩|⟨hw1,d,hd,hjk⟩
         . refine .inl ⟨hw1.congr hkeep,d,hd,hdf,.inl λσ=>?_⟩
           rw[hdst d hd];rcases hst with hst|⟨hl,_⟩
           . exact(hst σ).congr λx hx=>nL λt e=>hkeep t (mem_reads (by rw[<-e];exact hx))
           . have:=List.all_eq_true.1 hl i (hlr i (by simp))
             rw[Bool.or_eq_true]at this;rcases this with h1|h1
             . exact absurd (by simpa using h1) hiS
             . exact absurd (a1 j h1) (hnd j (by simp[hj]))
         . exact .inr ⟨hw1.congr hkeep,d,hd,by rw[hdst d hd];exact hjk⟩)
       (fun t ht=>by
         rw[jz,jz];by_cases hd:o.dst=some t
         . rw[if_pos hd,if_pos hd]
         . rw[if_neg hd,if_neg hd]
           refine he t λj hj hjS oj hoj hdj=>?_
           rcases List.mem_cons.1 hj with rfl|hj
           . exact hiS hjS
           . exact ht j hj hjS oj hoj hdj) h'
     rcases hw with⟨hw,h⟩|⟨hw,h⟩
     . exact⟨o,ho,hok,.inl ⟨hw.congr λt ht=>(hrd t ht).symm,(h.congr hopr).mono λa σ'=>next a σ'⟩⟩
     . exact⟨o,ho,hok,.inr ⟨hw.congr λt ht=>(hrd t ht).symm,next _ σ h⟩⟩
theorem iO.sub(p:Nat->Bool):∀(l done done':List Nat),iO ops done l->(∀i∈done,i∈done')->(∀i∈l,p i=false->i∈done')->(∀i∈l,p i=true->i∉done')->l.Nodup->iO ops done' (l.filter p)
 |[],_,_,_,_,_,_,_=>trivial
 | i :: l,done,done',⟨a1,a2,a3⟩,h1,h2,h3,hn=>by
   have hil:i∉l:=(List.nodup_cons.1 hn).1;by_cases hp:p i=true
   . rw [List.filter_cons_of_pos hp]
     refine⟨λj hj=>h1 j (a1 j hj),h3 i (by simp) hp,?_⟩
     exact iO.sub p l (i::done) (i::done') a3 (λj hj=>by
      rcases List.mem_cons.1 hj with e|e
      . simp[e]
      . simp[h1 j e]) (λj hj hpj=>by simp[h2 j (by simp[hj]) hpj]) (λj hj hpj hm=>by
      rcases List.mem_cons.1 hm with e|e
      . exact hil (e ▸ hj)
      . exact h3 j (by simp[hj]) hpj e) (List.nodup_cons.1 hn).2
   . rw [List.filter_cons_of_neg hp]
     exact iO.sub p l (i::done) done' a3 (λj hj=>by
      rcases List.mem_cons.1 hj with e|e
      . rw[e];exact h2 i (by simp) (by simpa using hp)
      . exact h1 j e) (λj hj hpj=>h2 j (by simp[hj]) hpj) (λj hj hpj=>h3 j (by simp[hj]) hpj) (List.nodup_cons.1 hn).2
theorem yk(hedge:∀i o,ops[i]?=some o->∀e∈o.after,Region.binds .any e=true->e.on<i):∀(fuel t:Nat) (listed:Array Bool) (done:List Nat),listed.size=ops.size->(∀i,i<ops.size->(listed.getD i true=true↔i∈done)) ->
 ((List.range ops.size).filter λi=>!listed.getD i true).length<=fuel ->
 iO ops done (Region.linearise.go .any ops fuel t listed [])/\(Region.linearise.go .any ops fuel t listed []).Nodup/\(∀i∈Region.linearise.go .any ops fuel t listed [],i∉done/\i<ops.size)/\∀i,i<ops.size->(i∈Region.linearise.go .any ops fuel t listed []\/i∈done):=by
 intro fuel;induction fuel with
 | zero=>
   intro t listed done hsz hd hf;have he:(List.range ops.size).filter (λi=>!listed.getD i true)=[]:=List.eq_nil_of_length_eq_zero (by omega);unfold Region.linearise.go;refine⟨trivial,List.nodup_nil,λi hi=>(by cases hi),λi hi=>.inr ((hd i hi).1 ?_)⟩;have:=List.filter_eq_nil_iff.1 he i (List.mem_range.2 hi);cases hx:listed.getD i true with
   |true=>rfl
   |false=>rw[hx]at this;exact absurd rfl this
 | succ fuel ih=>
   intro t listed done hsz hd hf;unfold Region.linearise.go;simp only[];generalize hrs:(List.range ops.size).filter (λi=>!listed.getD i true && ((ops[i]?).map (·.after.all λe=>!Region.binds .any e||listed.getD e.on false)).getD false)=rs
   have hmem:∀i,i∈rs↔i<ops.size/\listed.getD i true=false/\∃o,ops[i]?=some o/\∀e∈o.after,Region.binds .any e=true->listed.getD e.on false=true:=by
    intro i;rw[<-hrs,List.mem_filter,List.mem_range];refine and_congr_right λhi=>?_
    rw[Bool.and_eq_true,Bool.not_eq_true'];refine and_congr_right λ_=>?_
    have ho:ops[i]?=some ops[i]:=Array.getElem?_eq_getElem hi;rw[ho];simp only[Option.map_some,Option.getD_some,Array.all_eq_true_iff_forall_mem,Bool.or_eq_true,Bool.not_eq_true',Option.some.injEq,exists_eq_left'];refine forall_congr' λe=>forall_congr' λhe=>?_
    cases Region.binds .any e<;>simp
   have hgd:∀j,j<ops.size->listed.getD j false=listed.getD j true:=λj hj=>by
    have hj':j<listed.size:=by omega
    simp[hj']
   cases hi:rs[t % rs.length]? with
   | none=>
     simp only[]
     have hnil:rs=[]:=by
      cases rs with
      |nil=>rfl
      | cons x xs=>
        have h1:=List.getElem?_eq_none_iff.1 hi;have h2:t % (x::xs).length<(x::xs).length:=Nat.mod_lt _ (by simp);omega
     refine⟨trivial,List.nodup_nil,λi hi=>(by cases hi),?_⟩;intro i;induction i using Nat.strongRecOn with
     | ind i ihi=>
       intro hi;refine .inr ((hd i hi).1 ?_);cases hx:listed.getD i true with
       |true=>rfl
       | false=>
         have:i∈rs:=(hmem i).2 ⟨hi,hx,ops[i],Array.getElem?_eq_getElem hi,λe he hb=>by
          have hlt:=hedge i ops[i] (Array.getElem?_eq_getElem hi) e he hb;have hlt':e.on<ops.size:=by omega
          rcases ihi e.on hlt hlt' with h|h
          . cases h
          . rw[hgd e.on hlt'];exact(hd e.on hlt').2 h⟩
         rw[hnil]at this;cases this
   | some i=>
     simp only[];rw[linearise_go_acc,List.reverse_singleton,List.singleton_append];have hir:=List.mem_of_getElem? hi;obtain⟨hil,hiu,o,ho,hall⟩:=(hmem i).1 hir;have hind:i∉done:=λh=>by have:=(hd i hil).2 h;rw[hiu]at this;cases this
     have hset:∀j,j<ops.size->((listed.setIfInBounds i true).getD j true=if j=i then true else listed.getD j true):=λj hj=>by
      by_cases hji:j=i
      . subst hji;rw[if_pos rfl];simp[hsz,hj]
      . rw[if_neg hji];exact getD_set_ne true (Ne.symm hji)
     obtain⟨b1,b2,b3,b4⟩:=ih (t / rs.length) (listed.setIfInBounds i true) (i::done) (by simpa using hsz) (λj hj=>by
      rw[hset j hj];by_cases hji:j=i
      . simp[hji]
      . rw[if_neg hji,hd j hj];exact⟨λh=>List.mem_cons_of_mem _ h,λh=>(List.mem_cons.1 h).resolve_left hji⟩) (by
      have e1:(List.range ops.size).filter (λj=>!(listed.setIfInBounds i true).getD j true)=((List.range ops.size).filter (λj=>!listed.getD j true)).filter (· !=i):=by
       rw[List.filter_filter];refine List.filter_congr λj hj=>?_
       rw[hset j (List.mem_range.1 hj)];by_cases hji:j=i<;>simp[hji]
      rw[e1];have:(((List.range ops.size).filter (λj=>!listed.getD j true)).filter (· !=i)).length<((List.range ops.size).filter (λj=>!listed.getD j true)).length:=List.length_filter_lt_length_iff_exists.2 ⟨i,List.mem_filter.2 ⟨List.mem_range.2 hil,by rw[hiu];rfl⟩,by simp⟩;omega)
     refine⟨⟨λj hj=>?_,hind,b1⟩,List.nodup_cons.2 ⟨λh=>(b3 i h).1 (by simp),b2⟩,λj hj=>?_,λj hj=>?_⟩
     . unfold ib at hj
       rw[ho]at hj;obtain⟨e,he,hb⟩:=List.any_eq_true.1 hj;simp only[Bool.and_eq_true,beq_iff_eq]at hb;have he':e∈o.after:=by simpa using he
       have h1:=hall e he' hb.1;have h2:=hedge i o ho e he' hb.1;have h3:e.on<ops.size:=by omega
       rw[hgd _ h3]at h1;rw[<-hb.2];exact(hd _ h3).1 h1
     . rcases List.mem_cons.1 hj with e|e
       . subst e;exact⟨hind,hil⟩
       . exact⟨λh=>(b3 j e).1 (by simp[h]),(b3 j e).2⟩
     . rcases b4 j hj with h|h
       . exact .inl (by simp[h])
       . rcases List.mem_cons.1 h with e|e
         . exact .inl (by simp[e])
         . exact .inr e
theorem yl(hc:∀i o,ops[i]?=some o->∀e∈o.after,Region.binds .any e=true->e.on<i)(t:Nat):
 iO ops [] (Region.linearise .any ops t)/\(Region.linearise .any ops t).Nodup/\(∀i,i∈Region.linearise .any ops t↔i<ops.size):=by
 obtain⟨b1,b2,b3,b4⟩:=yk hc ops.size t (Array.replicate ops.size false) [] (by simp) (λi hi=>by simp[hi]) (by exact Nat.le_trans (List.length_filter_le _ _) (Nat.le_of_eq List.length_range));refine⟨b1,b2,λi=>⟨λh=>(b3 i h).2,λh=>?_⟩⟩;rcases b4 i h with h|h
 . exact h
 . cases h
end
section
variable{P:Program}{m:Mo}{fid n:Nat}{ro:Option Nat}{D:List kL}{rc:Rec}{K:Exit->St->Prop}{k:List Item}{ops:Array Oper}{Kp:AV->aa->Prop}
def Any(P:Program)(m:Mo)(ops:Array Oper)(n:Nat)(Kp:AV->aa->Prop)(done rest:List Nat)(env:Env)(σ:aa)(R:Env->aa->Prop):Prop:=∀l,iO ops done l->l.Nodup->(∀i,i∈l↔i∈rest)->cP P m ops n Kp l env σ R
theorem Go.draw{id:Nat}(hm:P.follows .mixedOrders=true)(he:oA ops=true){env:Env}{σ:aa}
 (h:Any P m ops n (λv σ=>∀env,K (.panic v) ⟨env,σ,D,rc⟩) [] (List.range ops.size) env σ (λenv σ=>Go P m fid n ro k ⟨env,σ,D,rc⟩ K)):Go P m fid n ro (.code (.region id ops true)::k) ⟨env,σ,D,rc⟩ K:=by
 intro Q kk O tmps defs kind cs h1 h2 h3;refine .step (λk' O' g=>k'=kk/\O'=O/\∃t,g=G ⟨fid,tmps,.inRegion ops (Region.linearise .any ops t)::k,defs,.run,kind,ro⟩ (fM rc cs)) rfl ?_ ?_
 . rintro _ _ _ ⟨rfl,rfl,t,rfl⟩
   obtain⟨b1,b2,b3⟩:=yl (uy he) t;have:=h _ b1 b2 (λi=>by rw[b3,List.mem_range]);exact Go.qF (D:=D) (rc:=rc) _ env σ (λv env σ hk=>hk env) this _ _ _ tmps defs kind cs h1 h2 h3
 . intro w hw
   refine⟨G ⟨fid,tmps,.inRegion ops (Region.linearise .any ops (w.tape w.drawn (.order fid id)))::k,defs,.run,kind,ro⟩ (fM rc cs),{w with drawn:=w.drawn+1},#[],kk,O,?_,?_,?_,rfl,rfl,_,rfl⟩
   . simp[G,stepG,stepG.exec,choose,Sem.run,Question.forced,Question.cut,Region.schedule,hm]
   . exact{le:=.refl _,size:=Nat.le_refl _,keep:=λ_ _ _=>rfl,tail:=λb n _ _ c e h=>⟨c,h,rfl,λ_ _=>rfl⟩,part:=λb n _ _ c e h=>⟨c,h,rfl,λ_ _=>rfl⟩,shape:=λ_ _=>rfl,own:=λb x h=>.inl ⟨x,h,.refl x⟩,cell:=λ_ _ _ h=>.inl h,sh:=λ_ _ h=>.inl h,evs:=λe h=>by simp at h,tape:=rfl,output:=rfl,os:=rfl,low:=λe h=>by simp at h,tok:=λ_ f h=>⟨f,h⟩}
   . exact⟨hw.apart,hw.cell,hw.sh,hw.obj,hw.tail,hw.part⟩
def iP(P:Program)(m:Mo)(ops:Array Oper)(n:Nat)(Kp:AV->aa->Prop)(i:Nat)(env:Env)(σ:aa)(R:Env->aa->Prop):Prop:=
 ∃ o,ops[i]?=some o/\Oper.ok n o=true/\
   ((bS ops n env o/\JG P m o env σ (λa σ'=>R (bd env o.dst a) σ') Kp)\/(kM ops n env o/\R (bd env o.dst (.lit (.tuple #[]))) σ))
section
variable(L:iE P)
instance(n:Int):Decidable (fits n):=by unfold fits;infer_instance
def uz(op:BinOp)(kd:IntKind)(a b:Int):Option Value:=
 match op,kd with
 |.add,.i64=>if fits (a+b)then some (.int .i64 (a+b))else none
 |.sub,.i64=>if fits (a-b)then some (.int .i64 (a-b))else none
 |.mul,.i64=>if fits (a*b)then some (.int .i64 (a*b))else none
 |.eql,_=>some (.bool (a==b))
 |.neq,_=>some (.bool (a !=b))
 |.lss,_=>some (.bool (decide (a<b)))
 |.leq,_=>some (.bool (decide (a<=b)))
 |.gtr,_=>some (.bool (decide (a>b)))
 |.geq,_=>some (.bool (decide (a>=b)))
 |.shl,_=>if 0<=b then some (.int kd (kd.wrap (a*2 ^ (min b.toNat kd.bits))))else none
 |.shr,_=>if 0<=b then some (.int kd (a.fdiv (2 ^ (min b.toNat kd.bits))))else none
 |op,kd=>pe op kd a b
theorem yn{op:BinOp}{kd:IntKind}{a b:Int}{v:Value}{R:Value->Prop}(h:uz op kd a b=some v)(hR:R v):pK op kd a b R:=by
 unfold uz at h;unfold pK;split at h
 . split at h
   . next hf=>cases h;exact⟨hf,hR⟩
   . cases h
 . split at h
   . next hf=>cases h;exact⟨hf,hR⟩
   . cases h
 . split at h
   . next hf=>cases h;exact⟨hf,hR⟩
   . cases h
 . cases h;exact hR
 . cases h;exact hR
 . cases h;exact hR
 . cases h;exact hR
 . cases h;exact hR
 . cases h;exact hR
 . split at h
   . next hf=>cases h;exact⟨hf,hR⟩
   . cases h
 . split at h
   . next hf=>cases h;exact⟨hf,hR⟩
   . cases h
 . split<;>first|contradiction|exact⟨v,h,hR⟩
def tD(mu:List Nat)(o:Oper)(env:Env):Option AV:=
 match o.op with
 |.move x|.assign x=>some (ap env x)
 | .pick c a b=>match ap env c with
   |.lit (.bool x)=>some (if x then ap env a else ap env b)
   |_=>none
 |.box _ x=>if(match o.dst with|some d=>mu.contains d|none=>false)=true then none else if(ap env x).cells.all AV.flat=true then some (.cp (ap env x) 0)else none
 | .load t p=>match L.tt t,ap env p with
   |some i,.cp v off=>cE v.cells off i.size i.agg
   |some i,.kp _ l hole off=>JE l hole off i.size i.agg
   |_,_=>none
 | .fieldAddr s x j=>match L.tt s with
   | some ⟨.struct,_,_,_,iK⟩=>(match iK[j]? with
     |some f=>if f.2.1≠0 then qy (ap env x) f.1 else none
     |none=>none)
   |_=>none
 | .field s x j=>match L.tt s,ap env x with
   | some ⟨.struct,_,_,_,iK⟩,.agg l=>(match iK[j]? with
     |some f=>(match L.tt f.2.2 with|some fi=>cE l f.1 fi.size fi.agg|none=>none)
     |none=>none)
   |_,_=>none
 | .indexAddr t x ix=>match L.tt t with
   | some ⟨.slice e,_,_,_,_⟩=>(match L.tt e,ap env x,ap env ix with
     |some ie,.sl kk es _,.lit (.int _ z)=>if kk=ie.size/\0<=z then(es[z.toNat]?).map (λa=>.cp a 0)else none
     |some ie,.fZ b off len _,.lit (.int _ z)=>if 0<=z/\z<len then some (.ref b (off+z.toNat*ie.size))else none
     |_,_,_=>none)
   | some ⟨.array k e,_,_,_,_⟩=>(match L.tt e,ap env ix with
     |some ie,.lit (.int _ z)=>if 0<=z/\z<k then qy (ap env x) (z.toNat*ie.size)else none
     |_,_=>none)
   |_=>none
 | .index t x ix=>match L.tt t with
   | some ⟨.array k e,_,_,_,_⟩=>(match L.tt e,ap env x,ap env ix with
     |some ie,.agg l,.lit (.int _ z)=>if 0<=z/\z<k then cE l (z.toNat*ie.size) ie.size ie.agg else none
     |_,_,_=>none)
   |_=>none
 | .binOp op t x y _=>match L.tt t with
   | some ⟨.int _,_,_,_,_⟩=>(match ap env x,ap env y with
     |.lit (.int kd a),.lit (.int kd' b)=>if kd=kd'\/op=.shl\/op=.shr then(uz op kd a b).map .lit else none
     |_,_=>none)
   |_=>none
 | .unOp .not _ x=>match ap env x with
   |.lit (.bool b)=>some (.lit (.bool !b))
   |_=>none
 | .convert s t x=>match L.tt s,L.tt t,ap env x with
   |some ⟨.int _,_,_,_,_⟩,some ⟨.int kd,_,_,_,_⟩,.lit (.int _ a)=>some (.lit (.int kd (kd.wrap a)))
   |_,_,_=>none
 | .makeInterface t x=>match L.tt t with
   |some i=>if i.kind≠.iface then some (.nI t (ap env x))else none
   |none=>none
 |.makeFunc f fs cs=>some (.fn f (fs.toList.map (ap env)) (cs.toList.map (ap env)))
 | .extract x j=>match ap env x with
   |.c9 l=>l[j]?
   |_=>none
 | .nilCheck x=>match ap env x with
   |.cp v off=>some (.cp v off)
   |.ref b off=>some (.ref b off)
   |.kp b l hole off=>some (.kp b l hole off)
   |_=>none
 | .call c=>match c.callee,c.args.toList with
   | .builtin .len,[x]=>(match c.argTypes[0]? with
     | some t=>(match L.tt t with
       | some ⟨.slice _,_,_,_,_⟩=>(match ap env x with
         |.sl _ es _=>some (.lit (.int .i64 es.length))
         |.lit (.slice none 0 0)=>some (.lit (.int .i64 0))
         |.fZ _ _ len _=>some (.lit (.int .i64 len))
         |_=>none)
       |_=>none)
     |none=>none)
   |_,_=>none
 |_=>none
theorem uA{mu:List Nat}{o:Oper}{env:Env}{a:AV}(h:tD L mu o env=some a):(∀c,o.op≠.defer c)/\BV P o env a:=by
 have key:pn L o=true/\∀(K:AV->aa->Prop) σ,K a σ->Nk L mu o env σ K (λ_ _=>False):=by
  unfold tD at h;unfold pn Nk;split at h
  . next x ho=>simp only[ho];cases h;exact⟨by first|rfl|trivial,λK σ hK=>hK⟩
  . next x ho=>simp only[ho];cases h;exact⟨by first|rfl|trivial,λK σ hK=>hK⟩
  . next c x y ho=>
    simp only[ho];split at h
    . next b hb=>simp only[hb];cases h;exact⟨by first|rfl|trivial,λK σ hK=>hK⟩
    . cases h
  . next t x ho=>
    simp only[ho];by_cases hq:(match o.dst with|some d=>mu.contains d|none=>false)=true
    . rw[if_pos hq]at h;cases h
    . rw[if_neg hq]at h
      by_cases hf:(ap env x).cells.all AV.flat=true
      . rw[if_pos hf]at h;cases h;exact⟨trivial,λK σ hK=>⟨hf,(if_neg (c:=_=true) hq).symm ▸ hK⟩⟩
      . rw[if_neg hf]at h;cases h
  . next t p ho=>
    simp only[ho];split at h
    . next i v off hi hp=>simp only[hi,hp];exact⟨by first|rfl|trivial,λK σ hK=>⟨a,h,hK⟩⟩
    . next i b l hole off hi hp=>simp only[hi,hp];exact⟨by first|rfl|trivial,λK σ hK=>⟨a,h,hK⟩⟩
    . cases h
  . next s x j ho=>
    simp only[ho];split at h
    . next a1 a2 a3 iK hs=>
      simp only[hs];split at h
      . next f hf=>
        split at h
        . next h0=>exact⟨by first|rfl|trivial,λK σ hK=>by simp only[hf];exact⟨h0,a,h,hK⟩⟩
        . cases h
      . cases h
    . cases h
  . next s x j ho=>
    simp only[ho];split at h
    . next a1 a2 a3 iK l hs hx=>
      simp only[hs,hx];split at h
      . next f hf=>
        split at h
        . next fi hfi=>exact⟨by first|rfl|trivial,λK σ hK=>by rename_i hf _ hfi;simp only[hf,hfi];exact⟨a,h,hK⟩⟩
        . cases h
      . cases h
    . cases h
  . next t x ix ho=>
    simp only[ho];split at h
    . next e a1 a2 a3 a4 ht=>
      simp only[ht];split at h
      . next ie kk es sp kd z he hx hix=>
        simp only[he,hx,hix];split at h
        . next hc=>obtain⟨y,h1,h2⟩:=Option.map_eq_some_iff.1 h;exact⟨by first|rfl|trivial,λK σ hK=>⟨hc.1,hc.2,y,h1,by rw[h2];exact hK⟩⟩
        . cases h
      . next ie b off len cap kd z he hx hix=>
        simp only[he,hx,hix];split at h
        . next hc=>cases h;exact⟨by first|rfl|trivial,λK σ hK=>⟨hc,hK⟩⟩
        . cases h
      . cases h
    . next k e a1 a2 a3 a4 ht=>
      simp only[ht];split at h
      . next ie kd z he hix=>
        simp only[he,hix];split at h
        . next hc=>exact⟨by first|rfl|trivial,λK σ hK=>⟨hc,a,h,hK⟩⟩
        . cases h
      . cases h
    . cases h
  . next t x ix ho=>
    simp only[ho];split at h
    . next k e a1 a2 a3 a4 ht=>
      simp only[ht];split at h
      . next ie l kd z he hx hix=>
        simp only[he,hx,hix];split at h
        . next hc=>exact⟨by first|rfl|trivial,λK σ hK=>⟨hc,a,h,hK⟩⟩
        . cases h
      . cases h
    . cases h
  . next op t x y t2 ho=>
    simp only[ho];split at h
    . next kk a1 a2 a3 a4 ht=>
      simp only[ht];split at h
      . next kd u kd' v hx hy=>
        simp only[hx,hy];split at h
        . next hk=>obtain⟨y,h1,h2⟩:=Option.map_eq_some_iff.1 h;refine⟨by first|rfl|trivial,λK σ hK=>⟨hk,yn h1 (by rw[h2];exact hK)⟩⟩
        . cases h
      . cases h
    . cases h
  . next t x ho=>
    simp only[ho];split at h
    . next b hb=>simp only[hb];cases h;exact⟨by first|rfl|trivial,λK σ hK=>hK⟩
    . cases h
  . next s t x ho=>
    simp only[ho];split at h
    . next k1 a1 a2 a3 a4 kd b1 b2 b3 b4 kx u hs ht hx=>simp only[hs,ht,hx];cases h;exact⟨by first|rfl|trivial,λK σ hK=>hK⟩
    . cases h
  . next t x ho=>
    simp only[ho];split at h
    . next i hi=>
      simp only[hi];split at h
      . next hc=>cases h;exact⟨by first|rfl|trivial,λK σ hK=>⟨hc,hK⟩⟩
      . cases h
    . cases h
  . next f fs cs ho=>simp only[ho];cases h;exact⟨by first|rfl|trivial,λK σ hK=>hK⟩
  . next x j ho=>
    simp only[ho];split at h
    . next l hl=>simp only[hl];exact⟨by first|rfl|trivial,λK σ hK=>⟨a,h,hK⟩⟩
    . cases h
  . next x ho=>
    simp only[ho];split at h
    . next v off hx=>simp only[hx];cases h;exact⟨by first|rfl|trivial,λK σ hK=>⟨trivial,hK⟩⟩
    . next b off hx=>simp only[hx];cases h;exact⟨by first|rfl|trivial,λK σ hK=>⟨trivial,hK⟩⟩
    . next b l hole off hx=>simp only[hx];cases h;exact⟨by first|rfl|trivial,λK σ hK=>⟨trivial,hK⟩⟩
    . cases h
  . next c ho=>
    simp only[ho];split at h
    . next x hc ha=>
      simp only[hc,ha];split at h
      . next t h0=>
        split at h
        . next e a1 a2 a3 a4 ht=>
          simp only[h0,ht];split at h
          . next kk es sp hx=>simp only[hx];cases h;exact⟨by first|rfl|trivial,λK σ hK=>hK⟩
          . next hx=>simp only[hx];cases h;exact⟨by first|rfl|trivial,λK σ hK=>hK⟩
          . next hx=>simp only[hx];cases h;exact⟨by first|rfl|trivial,λK σ hK=>hK⟩
          . cases h
        . cases h
      . cases h
    . cases h
  . cases h
 refine⟨λc e=>?_,λσ=>Ep L key.1 (key.2 (λa' σ'=>a'=a/\σ'=σ) σ ⟨rfl,rfl⟩)⟩;have:=key.1;unfold pn at this;rw[e]at this;cases this
def sQ(o:Oper)(env:Env)(σ:aa):Option AV:=
 match o.op with
 | .load t p=>match L.tt t with
   |some i=>nu i σ (ap env p)
   |none=>none
 |_=>none
theorem sR{o:Oper}{env:Env}{σ:aa}{a:AV}(h:sQ L o env σ=some a):(∀c,o.op≠.defer c)/\qG P o env σ a:=by
 unfold sQ at h;split at h
 . next t p ho=>
   split at h
   . next i hi=>exact⟨λc e=>(by rw[ho]at e;cases e),ye L ho hi h ⟨rfl,rfl⟩⟩
   . cases h
 . cases h
def ja(mu:List Nat)(ops:Array Oper)(n:Nat)(lt:Bool)(σ:aa):List Nat->Env->(Env->Prop)->Prop
 |[],env,K=>K env
 | i :: S,env,K=>match ops[i]? with
   | some o=>Oper.ok n o=true/\o.dst.isSome=true/\pL ops n env o (match tD L mu o env with
      |some a=>ja mu ops n lt σ S (bd env o.dst a) K
      | none=>lt=true/\(match sQ L o env σ with
        |some a=>ja mu ops n lt σ S (bd env o.dst a) K
        |none=>False)) (ja mu ops n lt σ S (bd env o.dst (.lit (.tuple #[]))) K)
   |none=>False
def ascending:List Nat->Bool
 |i::j::l=>Nat.blt i j && ascending (j::l)
 |_=>true
theorem nM{i:Nat}:∀{l:List Nat},ascending (i::l)=true->ascending l=true/\∀j∈l,i<j
 |[],_=>⟨rfl,λ_ h=>by cases h⟩
 | a::l,h=>by
   simp only[ascending,Bool.and_eq_true,Nat.blt_eq]at h;obtain⟨h1,h2⟩:=h;have h3:=nM h2;refine⟨h2,λj hj=>?_⟩;rcases List.mem_cons.1 hj with rfl|hj
   . exact h1
   . exact Nat.lt_trans h1 (h3.2 j hj)
theorem uB{mu rest:List Nat}{σ:aa}{lt:Bool}(S0:List Nat)(hc:kA ops rest S0=true)(hlate:lt=true->∀i∈S0,late ops rest S0 i=true):∀(S:List Nat) (env:Env) (K:Env->Prop),ascending S=true->(∀i∈S,i∈S0/\i∈rest)->ja L mu ops n lt σ S env K ->
 ∃env1,K env1/\(∀i∈S,yj P ops n rest S0 env1 σ i)/\∀t,(∀i∈S,∀o,ops[i]?=some o->o.dst≠some t)->env1 t=env t
 |[],env,K,_,_,h=>⟨env,h,λ_ hi=>(by cases hi),λ_ _=>rfl⟩
 | i :: S, env,K,ha,hs,h=>by
   obtain⟨ha,hlt⟩:=nM ha;unfold ja at h;split at h
   . next o ho=>
     obtain⟨hok,hds,h⟩:=h;obtain⟨d,hd⟩:=Option.isSome_iff_exists.1 hds
     have main:∀a,ja L mu ops n lt σ S (bd env o.dst a) K->((bS ops n env o/\(∀c,o.op≠.defer c)/\(BV P o env a\/(late ops rest S0 i=true/\qG P o env σ a)))\/(kM ops n env o/\a=.lit (.tuple #[])))->∃env1,K env1/\(∀j∈i::S,yj P ops n rest S0 env1 σ j)/\∀t,(∀j∈i::S,∀o,ops[j]?=some o->o.dst≠some t)->env1 t=env t:=by
      intro a hr hw;obtain⟨env1,h1,h2,h3⟩:=uB S0 hc hlate S _ K ha (λj hj=>hs j (by simp[hj])) hr
      have hkeep:∀t∈dk ops o,env1 t=env t:=λt ht=>by
       have hne:∀j∈S,∀oj,ops[j]?=some oj->oj.dst≠some t:=λj hj oj hoj hdj=>by
        obtain⟨c1,_⟩:=jl hc (hs i (by simp)).2 (hs j (by simp[hj])).2 ho hoj hdj;have:=(((c1 ht).1 (hs i (by simp)).1).1 (hs j (by simp[hj])).1).2;have:=hlt j hj;omega
       rw[h3 t hne,jz];by_cases hdt:o.dst=some t
       . obtain⟨c1,_⟩:=jl hc (hs i (by simp)).2 (hs i (by simp)).2 ho ho hdt
         have:=(((c1 ht).1 (hs i (by simp)).1).1 (hs i (by simp)).1).2;omega
       . rw[if_neg hdt]
      have hval:env1 d=a:=by
       rw[h3 d (λj hj oj hoj hdj=>by
        obtain⟨_,c2⟩:=jl hc (hs i (by simp)).2 (hs j (by simp[hj])).2 ho hoj hdj;exact c2 (hs i (by simp)).1 (by have:=hlt j hj;omega) hd),jz,if_pos hd]
      refine⟨env1,h1,λj hj=>?_,λt ht=>?_⟩
      . rcases List.mem_cons.1 hj with rfl|hj
        . refine⟨o,ho,hok,?_⟩
          rcases hw with⟨hw,hdf,hst⟩|⟨hw,rfl⟩
          . refine .inl ⟨hw.congr hkeep,d,hd,hdf,?_⟩
            rw[hval];have cg:∀σ,aG P o env σ (λa' σ'=>a'=a/\σ'=σ) (λ_ _=>False)->aG P o env1 σ (λa' σ'=>a'=a/\σ'=σ) (λ_ _=>False):=λσ h=>h.congr λx hx=>nL λt e=>hkeep t (mem_reads (by rw[<-e];exact hx))
            exact hst.imp (λh σ=>cg σ (h σ)) (λh=>⟨h.1,cg σ h.2⟩)
          . exact .inr ⟨hw.congr hkeep,d,hd,hval⟩
        . exact h2 j hj
      . rw[h3 t (λj hj=>ht j (by simp[hj])),jz,if_neg (ht i (by simp) o ho)]
     rcases qE h with⟨hw,h⟩|⟨j,b,x,d',oj,hg,hj,hjd,hdn,hx,hxb,h⟩
     . split at h
       . next a hp=>exact main a h (.inl ⟨hw,(uA L hp).1,.inl (uA L hp).2⟩)
       . obtain⟨hl,h⟩:=h
         split at h
         . next a hp=>exact main a h (.inl ⟨hw,(sR L hp).1,.inr ⟨hlate hl i (hs i (by simp)).1,(sR L hp).2⟩⟩)
         . exact h.elim
     . exact main (.lit (.tuple #[])) h (.inr ⟨⟨j,b,x,d',oj,hg,hj,hjd,hdn,hx,hxb⟩,rfl⟩)
   . exact h.elim
theorem Any.hoist(mu:List Nat)(S:List Nat){done rest:List Nat}{env:Env}{σ:aa}{R:Env->aa->Prop}(hd:∀i∈rest,i∉done)(hS:∀i∈S,i∈rest)(hr:∀i∈rest,(ops[i]?).isSome=true)(ha:ascending S=true)(hc:kA ops rest S=true){lt:Bool}(hlate:lt=true->∀i∈S,late ops rest S i=true)
 (h:ja L mu ops n lt σ S env (λenv1=>Any P m ops n Kp (S++done) (rest.filter λi=>!S.contains i) env1 σ R)):Any P m ops n Kp done rest env σ R:=by
 intro l hag hn hm;obtain⟨env1,h1,h2,h3⟩:=uB L S hc hlate S env _ ha (λi hi=>⟨hi,hS i hi⟩) h
 refine aN.hoist hc l done env env1 σ (λi hi=>(hm i).1 hi) hag (λi hi=>hd i ((hm i).1 hi)) hn (λi hi=>Option.isSome_iff_exists.1 (hr i ((hm i).1 hi))) (λi _ hiS=>h2 i hiS)
  (λt ht=>h3 t λi hi o ho=>ht i ((hm i).2 (hS i hi)) hi o ho) ?_
 refine h1 _ (iO.sub (λi=>!S.contains i) l done (S++done) hag (λi hi=>by simp[hi]) (λi _ hp=>by simp at hp;simp[hp]) (λi hi hp=>?_) hn) (hn.filter _) (λi=>by simp[List.mem_filter,hm i]);simp at hp;simp[hp,hd i ((hm i).1 hi)]
def yo(ops:Array Oper)(done rest S:List Nat):Bool:=(rest.all λi=>!done.contains i && (ops[i]?).isSome) && (S.all λi=>rest.contains i) && ascending S && kA ops rest S
theorem Any.take(mu:List Nat)(S:List Nat){done rest:List Nat}{env:Env}{σ:aa}{R:Env->aa->Prop}(lt:Bool)(hc:yo ops done rest S=true)(hlate:lt=true->(S.all λi=>late ops rest S i)=true)
 (h:ja L mu ops n lt σ S env (λenv1=>Any P m ops n Kp (S++done) (rest.filter λi=>!S.contains i) env1 σ R)):Any P m ops n Kp done rest env σ R:=by
 simp only[yo,Bool.and_eq_true,List.all_eq_true]at hc;obtain⟨⟨⟨h1,h2⟩,h3⟩,h4⟩:=hc;exact Any.hoist L mu S (λi hi=>by simpa using(h1 i hi).1) (λi hi=>by simpa using h2 i hi) (λi hi=>(h1 i hi).2) h3 h4 (λe i hi=>List.all_eq_true.1 (hlate e) i hi) h
end
end
attribute [simp] ja tD sQ uz
section
variable{P:Program}{m:Mo}{n:Nat}{ops:Array Oper}{Kp:AV->aa->Prop}
theorem cP.mono{R R':Env->aa->Prop}(hr:∀env σ,R env σ->R' env σ):∀(l:List Nat) (env:Env) (σ:aa),cP P m ops n Kp l env σ R->cP P m ops n Kp l env σ R'
 |[],env,σ,h=>hr _ _ h
 |i::l,env,σ,⟨o,h1,h2,h3⟩=>⟨o,h1,h2,h3.imp (λh=>⟨h.1,h.2.mono λa σ'=>cP.mono hr l _ _⟩) (λh=>⟨h.1,cP.mono hr l _ _ h.2⟩)⟩
theorem ja.mono(L:iE P){mu:List Nat}{lt:Bool}{σ:aa}{K K':Env->Prop}(hk:∀env,K env->K' env):∀{S:List Nat}{env:Env},ja L mu ops n lt σ S env K->ja L mu ops n lt σ S env K'
 |[],env,h=>hk _ h
 | i :: S,env,h=>by
   unfold ja at h ⊢;split at h
   . next o ho=>
     try simp only[ho]
     refine⟨h.1,h.2.1,?_⟩;have h:=h.2.2;unfold pL at h ⊢
     have main:∀{x:Option AV}{y:Option AV},(match x with|some a=>ja L mu ops n lt σ S (bd env o.dst a) K|none=>lt=true/\(match y with|some a=>ja L mu ops n lt σ S (bd env o.dst a) K|none=>False)) ->
      (match x with|some a=>ja L mu ops n lt σ S (bd env o.dst a) K'|none=>lt=true/\(match y with|some a=>ja L mu ops n lt σ S (bd env o.dst a) K'|none=>False)):=by
      intro x y h;cases x with
      |some a=>exact ja.mono L hk h
      | none=>
        refine⟨h.1,?_⟩;cases y with
        |some a=>exact ja.mono L hk h.2
        |none=>exact h.2
     split at h
     . exact main h
     . split at h
       . refine⟨h.1,?_⟩
         have h:=h.2;split at h
         . exact⟨λe=>main (h.1 e),λe=>ja.mono L hk (h.2 e)⟩
         . exact ja.mono L hk h
         . exact h
       . exact h
   . exact h
inductive ke where
 |done
 |take (S:List Nat) (lt:Bool) (p:ke)
 |one (i:Nat) (p:ke)
 |both (i:Nat) (p q:ke)
structure Entry where
 id:Nat
 Pf:ke
def eG(ops:Array Oper):ke->List Nat->List Nat->List Nat->Bool
 |.done,_,_,rest=>rest.isEmpty
 |.take S lt p,ex,done,rest=>ex.isEmpty && yo ops done rest S && (!lt||S.all λi=>late ops rest S i) && eG ops p [] (S++done) (rest.filter λi=>!S.contains i)
 |.one i p,ex,done,rest=>rest.contains i && (rest.all λj=>!done.contains j) && (rest.all λj=>j==i||ex.contains j||(rest.any λx=>ib ops x j)) && eG ops p [] (i::done) (rest.filter (· !=i))
 |.both i p q,ex,done,rest=>rest.contains i && eG ops p [] (i::done) (rest.filter (· !=i)) && eG ops q (i::ex) done rest
def yp(ops:Array Oper)(e:Entry):Bool:=oA ops && eG ops e.Pf [] [] (List.range ops.size)
def Pg(P:Program)(m:Mo)(ops:Array Oper)(n:Nat)(Kp:AV->aa->Prop)(ex done rest:List Nat)(env:Env)(σ:aa)(R:Env->aa->Prop):Prop:=∀l,iO ops done l->l.Nodup->(∀i,i∈l↔i∈rest)->(∀i l',l=i::l'->i∉ex)->cP P m ops n Kp l env σ R
def jb(P:Program)(m:Mo)(ops:Array Oper)(n:Nat)(Kp:AV->aa->Prop)(p:ke)(env:Env)(σ:aa)(R:Env->aa->Prop):Prop:=∀ex done rest,eG ops p ex done rest=true->Pg P m ops n Kp ex done rest env σ R
theorem Gx{i:Nat}{l rest:List Nat}(hn:(i::l).Nodup)(hm:∀j,j∈i::l↔j∈rest)(j:Nat):j∈l↔j∈rest.filter (· !=i):=by
 have hil:i∉l:=(List.nodup_cons.1 hn).1;simp only[List.mem_filter,bne_iff_ne,ne_eq];constructor
 . intro hj
   exact⟨(hm j).1 (by simp[hj]),λe=>hil (e ▸ hj)⟩
 . intro⟨hj,hne⟩
   rcases List.mem_cons.1 ((hm j).2 hj)with e|e
   . exact absurd e hne
   . exact e
theorem cP.Gy{i:Nat}{l ex done rest:List Nat}{p:ke}{env:Env}{σ:aa}{R:Env->aa->Prop}(ha:iO ops done (i::l))(hn:(i::l).Nodup)(hm:∀j,j∈i::l↔j∈rest)
 (hc:eG ops p [] (i::done) (rest.filter (· !=i))=true) (h:iP P m ops n Kp i env σ (λenv σ=>jb P m ops n Kp p env σ R)):cP P m ops n Kp (i::l) env σ R:=by
 have next:∀env σ,jb P m ops n Kp p env σ R->cP P m ops n Kp l env σ R:=λenv σ h=>h [] _ _ hc l ha.2.2 (List.nodup_cons.1 hn).2 (Gx hn hm) (λ_ _ _ h=>by cases h)
 obtain⟨o,h1,h2,h3⟩:=h;exact⟨o,h1,h2,h3.imp (λh=>⟨h.1,h.2.mono λa σ'=>next _ _⟩) (λh=>⟨h.1,next _ _ h.2⟩)⟩
theorem jb.done{env:Env}{σ:aa}{R:Env->aa->Prop}(h:R env σ):jb P m ops n Kp .done env σ R:=λex done rest hc l _ _ hm _=>by
 simp only[eG,List.isEmpty_iff]at hc;subst hc;cases l with
 |nil=>exact h
 |cons i l=>exact absurd ((hm i).1 (by simp)) (by simp)
theorem jb.take(L:iE P)(mu:List Nat){S:List Nat}{lt:Bool}{p:ke}{env:Env}{σ:aa}{R:Env->aa->Prop}(h:ja L mu ops n lt σ S env (λenv1=>jb P m ops n Kp p env1 σ R)):jb P m ops n Kp (.take S lt p) env σ R:=by
 intro ex done rest hc;simp only[eG,Bool.and_eq_true]at hc;obtain⟨⟨⟨h0,h1⟩,h2⟩,h3⟩:=hc;have:=Any.take (m:=m) (Kp:=Kp) (R:=R) L mu S lt h1 (λe=>by rw[e]at h2;simpa using h2) (ja.mono L (λenv1 h=>λl a b c=>h [] _ _ h3 l a b c (λ_ _ _ h=>by cases h)) h);exact λl a b c _=>this l a b c
theorem jb.one{i:Nat}{p:ke}{env:Env}{σ:aa}{R:Env->aa->Prop}(h:iP P m ops n Kp i env σ (λenv σ=>jb P m ops n Kp p env σ R)):jb P m ops n Kp (.one i p) env σ R:=by
 intro ex done rest hc l ha hn hm hx;simp only[eG,Bool.and_eq_true,List.all_eq_true,Bool.or_eq_true,beq_iff_eq,List.any_eq_true]at hc;obtain⟨⟨⟨h1,hd⟩,h2⟩,h3⟩:=hc;have hir:i∈rest:=by simpa using h1
 cases l with
 |nil=>exact absurd ((hm i).2 hir) (by simp)
 | cons j l=>
   have hjr:j∈rest:=(hm j).1 (by simp)
   have hji:j=i:=by
    rcases h2 j hjr with(h|h)|⟨x,hx',h⟩
    . exact h
    . exact absurd (by simpa using h) (hx j l rfl)
    . have:=hd x hx'
      exact absurd (ha.1 x h) (by simpa using this)
   subst hji;exact cP.Gy (ex:=ex) ha hn hm h3 h
theorem jb.both{i:Nat}{p q:ke}{env:Env}{σ:aa}{R:Env->aa->Prop}(h:iP P m ops n Kp i env σ (λenv σ=>jb P m ops n Kp p env σ R))(h':jb P m ops n Kp q env σ R):jb P m ops n Kp (.both i p q) env σ R:=by
 intro ex done rest hc l ha hn hm hx;simp only[eG,Bool.and_eq_true]at hc;obtain⟨⟨h1,h2⟩,h3⟩:=hc;have hir:i∈rest:=by simpa using h1
 cases l with
 |nil=>exact absurd ((hm i).2 hir) (by simp)
 | cons j l=>
   by_cases hji:j=i
   . subst hji
     exact cP.Gy (ex:=ex) ha hn hm h2 h
   . exact h' _ _ _ h3 _ ha hn hm λx l' e=>by
      cases e;intro hm;rcases List.mem_cons.1 hm with e|e
      . exact hji e
      . exact hx _ _ rfl e
theorem po{id:Nat}:∀{k k':List Item},exitTo id k=some k'->∀x∈k',x∈k
 |[],k',h=>by simp[exitTo]at h
 | i::k,k',h=>by
   have again:exitTo id k=some k'->∀x∈k',x∈i::k:=λh x hx=>List.mem_cons_of_mem _ (po h x hx)
   cases i<;>simp only[exitTo]at h<;>first|exact again h|skip
   split at h
   . cases h;exact λx hx=>List.mem_cons_of_mem _ hx
   . exact again h
end
section
variable{P:Program}(L:iE P)
def oB(fn:Func)(k:Nat):Bool:=Nat.ble k fn.ntmps && fn.results.toList.all (ResultVar.ok fn.ntmps)
end
attribute [simp] List.find?
theorem jA{k:ag}{O:ah}{r:Nat}{c:Array Value}{e:TypeId}{x:Nat × Nat}(ho:O r=some (.obj (.cells c e x))):kK k O (k.dN r (e,c.size)) O:=λw h=>by
 have hw:=h.obj _ _ ho;have hsh:w.shape? r=some (e,c.size):=by simp[World.shape?,hw]
 refine⟨⟨h.apart,h.cell,λb s hb=>?_,h.obj,λb n hb=>?_,λb n hb=>?_⟩,⟨⟨λ_ _ _ h=>h,λb s hs=>?_⟩,Nat.le_refl _,λ_ _ _=>rfl,λ_ _ _ _ c _ h=>⟨c,h,rfl,λ_ _=>rfl⟩,λ_ _ _ _ c _ h=>⟨c,h,rfl,λ_ _=>rfl⟩,λ_ _=>rfl,λb x hx=>.inl ⟨x,hx,.refl x⟩,λb i v hv=>.inl hv,λb s hs=>?_,by simp,rfl,rfl,rfl,by simp,λ_ f h=>⟨f,h⟩⟩⟩
 . by_cases hbr:b=r
   . subst hbr;simp[ag.dN]at hb;subst hb;exact hsh
   . exact h.sh b s (by simpa[ag.dN,hbr]using hb)
 . obtain⟨c',e',h1,h2⟩:=h.tail b n hb
   refine⟨c',e',h1,?_⟩;have:b≠r:=λq=>by rw[q,ho]at hb;cases hb
   simpa[ag.dN,this]using h2
 . obtain⟨c',e',h1,h2⟩:=h.part b n hb
   refine⟨c',e',h1,?_⟩;have:b≠r:=λq=>by rw[q,ho]at hb;cases hb
   simpa[ag.dN,this]using h2
 . by_cases hbr:b=r
   . subst hbr
     have:=h.sh _ _ hs;rw[hsh]at this;cases this;simp[ag.dN]
   . simpa[ag.dN,hbr]using hs
 . by_cases hbr:b=r
   . subst hbr;exact .inr (.inl ⟨_,ho⟩)
   . exact .inl (by simpa[ag.dN,hbr]using hs)
section
variable{P:Program}{m:Mo}{Q:ag->ah->Goroutine->Prop}{k:ag}{O:ah}{g:Goroutine}
theorem T.freeze{r n:Nat}{c:Array Value}{e:TypeId}(ho:O r=some (.obj (.cells c e (0,0))))(hrun:g.status=.running)
 (h:∀k' O',k.Le k'->k'.sh r=some (e,c.size)->(∀j v,j<n->c[j]?=some v->k'.cell r j=some v)->O'=O.set r (.tail n)->T P m Q k' O' g):T P m Q k O g:=by
 by_cases hsat:∃w,Sat k O w
 . obtain⟨w,hw⟩:=hsat
   have hno:∀j,k.cell r j=none:=λj=>by
    cases q:k.cell r j with
    |none=>rfl
    |some v=>exact(hw.apart _ _ _ q (.inl ⟨_,ho⟩)).elim
   have h1:=(jA (k:=k) ho w hw).2.le;have hle:(k.dN r (e,c.size)).Le ((k.dN r (e,c.size)).ul r c n):=.ul hno;exact .ghost (jA ho) (.ghost (mN (n:=n) ho (by simp[ag.dN])) (h _ _ (h1.trans hle) (by simp[ag.ul,ag.dN]) (λj v hj hv=>by simp[ag.ul,hj,hv]) rfl))
 . exact .step (λ_ _ _=>False) hrun (λ_ _ _ h=>h.elim) λw hw=>absurd ⟨w,hw⟩ hsat
end
theorem du:∀{es:List AV},(∀e∈es,e.cells=[e])->flatten es=es
 |[],_=>rfl
 | e::es,h=>by
   have h1:=h e (by simp);have h2:=du (es:=es) λx hx=>h x (by simp[hx])
   simp only[flatten]at h2 ⊢;rw[List.flatMap_cons,h1,h2];rfl
theorem V.uC{k:ag}{v:Value}{kk:Nat}{es:List AV}{sp:cM}(h:V k v (.sl kk es sp)):(v=.slice none 0 0/\es=[]/\sp=.any)\/∃(b off cap N:Nat) (E:TypeId) (c:Nat->Value),v=.slice (some ⟨b,off,none⟩) es.length cap/\es.length<=cap/\k.sh b=some (E,N)/\off+cap*kk<=N/\(∀e∈es,e.cells.length=kk)/\
 (∀j,j<(flatten es).length->k.cell b (off+j)=some (c j)/\aN.flat (c j)=true)/\(∀(j:Nat) a,(flatten es)[j]?=some a->V k (c j) a)/\sp.fits b off es.length kk cap:=by
 cases h with
 |sl b off cap _ N E _ _ c h1 h2 h3 h4 h5 h6 h7=>exact .inr ⟨b,off,cap,N,E,c,rfl,h1,h2,h3,h4,h5,h6,h7⟩
 |slnil=>exact .inl ⟨rfl,rfl,rfl⟩
inductive Fz(b:Nat)(l:List AV):AV->AV->Prop
 |refl (a:AV):Fz b l a a
 | sl (off cap kk:Nat) (es:List AV) (sp:cM):es.length<=cap->off+cap*kk<=l.length->(∀e∈es,e.cells.length=kk)->(∀(j:Nat) a,(flatten es)[j]?=some a->l[off+j]?=some a)->(sp=.any\/(sp=.exact/\cap=es.length)) ->
    Fz b l (.fZ b off es.length cap) (.sl kk es sp)
 |fn (f:Fn) (a1 a2 c1 c2:List AV):a1.length=a2.length->c1.length=c2.length->(∀(i:Nat) a a',a1[i]?=some a->a2[i]?=some a'->Fz b l a a')->(∀(i:Nat) a a',c1[i]?=some a->c2[i]?=some a'->Fz b l a a')->Fz b l (.fn f a1 c1) (.fn f a2 c2)
 |rows (es es':List AV) (sp:cM):es.length=es'.length->(∀e∈es,e.cells=[e])->(∀e∈es',e.cells=[e])->(∀(i:Nat) a a',es[i]?=some a->es'[i]?=some a'->Fz b l a a')->Fz b l (.sl 1 es sp) (.sl 1 es' sp)
 |cp (base off:Nat) (v:AV):base+v.cells.length<=l.length->(∀(j:Nat) a,v.cells[j]?=some a->l[base+j]?=some a)->Fz b l (.ref b (base+off)) (.cp v off)
 |agg (l1 l2:List AV):l1.length=l2.length->(∀(i:Nat) a a',l1[i]?=some a->l2[i]?=some a'->Fz b l a a')->Fz b l (.agg l1) (.agg l2)
 |c9 (l1 l2:List AV):l1.length=l2.length->(∀(i:Nat) a a',l1[i]?=some a->l2[i]?=some a'->Fz b l a a')->Fz b l (.c9 l1) (.c9 l2)
def yq(k:ag)(b:Nat)(E:TypeId)(l:List AV):Prop:=k.sh b=some (E,l.length)/\∀(j:Nat) a,l[j]?=some a->∃u,k.cell b j=some u/\V k u a/\aN.flat u=true
theorem Fz.sound{k:ag}{b:Nat}{E:TypeId}{l:List AV}{a a':AV}(h:Fz b l a a')(hk:yq k b E l):∀{v:Value},V k v a->V k v a':=by
 induction h with
 |refl a=>exact λh=>h
 | sl off cap kk es sp h1 h2 h3 h4 h5=>
   intro v hv;cases hv
   exact V.ofRow h1 hk.1 h2 h3 (λj a ha=>hk.2 _ _ (h4 j a ha)) (by
    rcases h5 with rfl|⟨rfl,h5⟩
    . trivial
    . exact h5)
 | rows es es' sp h1 h2 h3 _ ih=>
   intro v hv;have f1:=du h2;have f2:=du h3
   rcases hv.uC with⟨rfl,rfl,rfl⟩|⟨b',off,cap,N,E',c,rfl,q1,q2,q3,q4,q5,q6,q7⟩
   . have:es'=[]:=List.length_eq_zero_iff.1 h1.symm
     subst this;exact .slnil 1
   . rw[f1]at q5 q6
     rw[h1];refine .sl b' off cap 1 N E' es' sp c (by omega) q2 q3 (λe he=>by rw[h3 e he];rfl) (λj hj=>q5 j (by rw[f2]at hj;omega)) (λj a ha=>?_) (by rw[<-h1];exact q7)
     rw[f2]at ha;have hj:j<es.length:=by have:=(List.getElem?_eq_some_iff.1 ha).1;omega
     exact ih j es[j] a (by simp[hj]) ha (q6 j _ (by simp[hj]))
 | cp base off x hlen h1=>
   intro v hv;cases hv;refine .cp b base off _ _ x (λj=>(k.cell b (base+j)).getD undef) hk.1 hlen (λj hj=>?_) (λj a ha=>?_)
   . obtain⟨u,h2,h3,h4⟩:=hk.2 _ _ (h1 j x.cells[j] (by simp[hj]))
     rw[h2];exact⟨rfl,h4⟩
   . obtain⟨u,h2,h3,h4⟩:=hk.2 _ _ (h1 j a ha)
     simp only[h2];exact h3
 | fn f a1 a2 c1 c2 h1 h2 _ _ ih1 ih2=>
   intro v hv;cases hv with
   | fn _ p1 p2 _ _ g1 g2 g3 g4=>
     refine .fn f p1 p2 a2 c2 (by omega) (λi u a' hu ha'=>?_) (by omega) (λi u a' hu ha'=>?_)
     . have hi:i<a1.length:=by rw[<-g1];exact(Array.getElem?_eq_some_iff.1 hu).1
       exact ih1 i a1[i] a' (by simp[hi]) ha' (g2 i u _ hu (by simp[hi]))
     . have hi:i<c1.length:=by rw[<-g3];exact(Array.getElem?_eq_some_iff.1 hu).1
       exact ih2 i c1[i] a' (by simp[hi]) ha' (g4 i u _ hu (by simp[hi]))
 | agg l1 l2 h1 _ ih=>
   intro v hv;cases hv with
   | agg c _ g1 g2=>
     refine .agg c l2 (by omega) λi u a' hu ha'=>?_
     have hi:i<l1.length:=by rw[<-g1];exact(Array.getElem?_eq_some_iff.1 hu).1
     exact ih i l1[i] a' (by simp[hi]) ha' (g2 i u _ hu (by simp[hi]))
 | c9 l1 l2 h1 _ ih=>
   intro v hv;cases hv with
   | c9 c _ g1 g2=>
     refine .c9 c l2 (by omega) λi u a' hu ha'=>?_
     have hi:i<l1.length:=by rw[<-g1];exact(Array.getElem?_eq_some_iff.1 hu).1
     exact ih i l1[i] a' (by simp[hi]) ha' (g2 i u _ hu (by simp[hi]))
def Gg(b:Nat)(l:List AV)(σ σ':aa):Prop:=∀c y,σ' c=some y->c≠b/\(σ c=some y\/∃l1 l2,σ c=some (.cells l1)/\y=.cells l2/\l1.length=l2.length/\∀(i:Nat) a a',l1[i]?=some a->l2[i]?=some a'->Fz b l a a')
theorem Gg.del(b:Nat)(l:List AV)(σ:aa):Gg b l σ (σ.del b):=λc y h=>by
 unfold aa.del at h;split at h
 . cases h
 . next hc=>exact⟨hc,.inl h⟩
theorem Gg.sound{k:ag}{O:ah}{b:Nat}{E:TypeId}{l:List AV}{σ σ':aa}(h:Gg b l σ σ')(hk:yq k b E l)(hr:Rel k O σ)(x:Own):Rel k (O.set b x) σ':=⟨λc y hy hn=>by
 obtain⟨hc,h⟩:=h c y hy
 rcases h with h|⟨l1,l2,h1,rfl,h2,h3⟩
 . obtain⟨z,hz,hzr⟩:=hr.1 c y h hn
   exact⟨z,by simp[ah.set,hc,hz],hzr⟩
 . obtain⟨z,hz,hzr⟩:=hr.1 c _ h1 (by simp)
   cases hzr with
   | cells cc e _ g1 g2 g3=>
     refine⟨_,by simp only[ah.set,hc,if_false];exact hz,.cells cc e l2 (by omega) (λi v a' hv ha'=>?_) g3⟩
     have hi:i<l1.length:=by rw[<-g1];exact(Array.getElem?_eq_some_iff.1 hv).1
     exact(h3 i l1[i] a' (by simp[hi]) ha').sound hk (g2 i v _ hv (by simp[hi])),λc hy=>by
 obtain⟨hc,h⟩:=h c _ hy
 rcases h with h|⟨l1,l2,_,h,_⟩
 . obtain⟨h1,h2⟩:=hr.2 c h
   exact⟨by simp[ah.set,hc,h1],h2⟩
 . cases h⟩
section
variable{P:Program}{m:Mo}
theorem T.yr{Q:ag->ah->Goroutine->Prop}{k:ag}{O:ah}{g:Goroutine}{σ:aa}{b:Nat}{l:List AV}(hr:Rel k O σ)(hb:σ b=some (.cells l))(hrun:g.status=.running)
 (h:∀k' O',k.Le k'->(∀v a a',V k v a->Fz b l a a'->V k' v a')->(∀σ',Gg b l σ σ'->Rel k' O' σ')->T P m Q k' O' g):T P m Q k O g:=by
 obtain⟨y,hO,hy⟩:=hr.1 b _ hb (by simp)
 cases hy with
 | cells c e _ g1 g2 g3=>
   refine T.freeze (n:=c.size) hO hrun λk' O' hle hsh hc hO'=>?_
   have hk:yq k' b e l:=⟨by rw[hsh,g1],λj a ha=>by
    have hj:j<c.size:=by rw[g1];exact(List.getElem?_eq_some_iff.1 ha).1
    exact⟨c[j],hc j _ hj (by simp[hj]),(g2 j _ a (by simp[hj]) ha).mono hle,g3 j _ (by simp[hj])⟩⟩
   refine h k' O' hle (λv a a' hv hf=>hf.sound hk (hv.mono hle)) λσ' hs=>?_
   rw[hO'];exact hs.sound hk (hr.mono hle) _
theorem Go.freeze{fid n:Nat}{ro:Option Nat}{todo:List Item}{K:Exit->St->Prop}{env env':Env}{σ σ':aa}{D:List kL}{rc:Rec}(b:Nat)(l:List AV)(hb:σ b=some (.cells l))(henv:∀t,Fz b l (env t) (env' t))(hs:Gg b l σ σ')
 (h:Go P m fid n ro todo ⟨env',σ',D,rc⟩ K):Go P m fid n ro todo ⟨env,σ,D,rc⟩ K:=by
 intro Q k O tmps defs kind cs h1 h2 h3;refine T.yr h2.rel hb rfl λk' O' hle hv hrel=>?_
 exact h Q k' O' tmps defs kind cs h1 ⟨h2.size,λt ht=>hv _ _ _ (h2.env t ht) (henv t),hrel σ' hs,h2.ds.mono hle,h2.rc.mono hle⟩ (h3.mono hle)
theorem Fz.upd{b:Nat}{l:List AV}{env:Env}{t:Nat}{a':AV}(h:Fz b l (env t) a')(u:Nat):Fz b l (env u) (env.upd t a' u):=by
 unfold Env.upd;split
 . next e=>rw[e];exact h
 . exact .refl _
inductive nB(KF:cL->aa->Prop):cL->aa->Prop
 |done {r:cL}{σ:aa}:KF r σ->nB KF r σ
 |freeze {a a':AV}{σ σ':aa}(b:Nat) (l:List AV):σ b=some (.cells l)->Fz b l a a'->Gg b l σ σ'->nB KF (.val a') σ'->nB KF (.val a) σ
 |nC {a a':AV}{σ:aa}:a.W a'->nB KF (.val a') σ->nB KF (.val a) σ
 |less {r:cL}{σ σ':aa}:σ'.Le σ->nB KF r σ'->nB KF r σ
theorem aA.thaw{f:FuncId}{args:List AV}{σ:aa}{KF:cL->aa->Prop}(h:aA P m f args σ (nB KF)):aA P m f args σ KF:=by
 intro Q k O cargs c rest kind h1 h2 h3 h4 h5
 have key:∀r σ',nB KF r σ'->∀k' O' cv,k.Le k'->Rel k' O' σ'->(match r with
  |.val a=>V k' cv a->T P m Q k' O' (jT kind c rest cv)
  |.panic a=>V k' cv a->T P m Q k' O' (G (c.raise [⟨cv,false,false⟩]) rest)):=by
  intro r σ' ht;induction ht with
  | @done r σ hk=>
    intro k' O' cv hle hr;cases r with
    |val a=>exact λhv=>h4 _ _ _ _ _ hle hv hr hk
    |panic a=>exact λhv=>h5 _ _ _ _ _ hle hv hr hk
  | freeze b l hb hf hs _ ih=>
    intro k' O' cv hle hr hv;refine T.yr hr hb (by cases kind<;>rfl) λk2 O2 hle2 hvv hrr=>?_
    exact ih k2 O2 cv (hle.trans hle2) (hrr _ hs) (hvv _ _ _ hv hf)
  |nC hw _ ih=>intro k' O' cv hle hr hv;exact ih k' O' cv hle hr (hw _ _ hv)
  |@less r σ σ' hs _ ih=>intro k' O' cv hle hr;exact ih k' O' cv hle (hr.le hs)
 exact h Q k O cargs c rest kind h1 h2 h3 (λk' O' cv av σ' a b c d=>key _ _ d k' O' cv a c b) (λk' O' cv av σ' a b c d=>key _ _ d k' O' cv a c b)
end
end Go.aN

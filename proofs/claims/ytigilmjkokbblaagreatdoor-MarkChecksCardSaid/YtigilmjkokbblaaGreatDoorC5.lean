/- Part 5 of the proof. -/
import Derived.Laws.Sem
import Derived.Test.YtigilmjkokbblaaGreatDoorC4
set_option linter.all false
namespace Go.bd
open Go.Conc
theorem zo(off:Nat):∀(l:List Value) (s:Nat) (c:Array Value),off+s+l.length<=c.size ->
 ((l.zipIdx s).foldl (λcs (x:Value × Nat)=>cs.setIfInBounds (off+x.2) x.1) c).size=c.size/\
 ∀j:Nat,((l.zipIdx s).foldl (λcs (x:Value × Nat)=>cs.setIfInBounds (off+x.2) x.1) c)[j]?=if off+s<=j/\j<off+s+l.length then l[j-(off+s)]? else c[j]?
 | [],s,c,_=>⟨rfl,λj=>by
   have:¬(off+s<=j/\j<off+s+([]:List Value).length):=by simp
   rw[if_neg this];rfl⟩
 | v ::l,s,c,h=>by
   simp only[List.length_cons]at h;obtain⟨e,f⟩:=zo off l (s+1) (c.setIfInBounds (off+s) v) (by simp;omega);simp only[List.zipIdx_cons,List.foldl_cons];refine⟨by rw[e];simp,λj=>?_⟩;rw[f j];by_cases b:j=off+s
   . subst b
     have a:off+s<c.size:=by omega
     rw[if_neg (by omega),if_pos (by simp)];simp[a]
   . rw[Array.getElem?_setIfInBounds_ne (Ne.symm b)]
     by_cases d:off+(s+1)<=j/\j<off+(s+1)+l.length
     . rw[if_pos d,if_pos (by simp;omega),show j-(off+s)=(j-(off+(s+1)))+1 by omega,List.getElem?_cons_succ]
     . rw[if_neg d,if_neg (by simp;omega)]
def mG(place:Nat->Option (Nat × Nat))(l:List AV):List (Nat × AV)->Option (List AV)
 |[]=>some l
 | (i,a)::rest=>match place i with
   |none=>none
   |some (off,size)=>if a.cells.length=size/\off+size<=l.length/\a.cells.all AV.flat=true then mG place (aG l off a.cells) rest else none
def px(k:ah)(c:Array Value)(l:List AV):Prop:=c.size=l.length/\(∀(i:Nat) v a,c[i]?=some v->l[i]?=some a->V k v a)/\∀(i:Nat) v,c[i]?=some v->bd.flat v=true
theorem vF{k:ah}{place:Nat->Option (Nat × Nat)}:∀(m:List (Nat × Value)) (n:List (Nat × AV)) (c:Array Value) (l o:List AV),m.length=n.length->(∀(i:Nat) p q,m[i]?=some p->n[i]?=some q->p.1=q.1/\V k p.2 q.2) ->
 px k c l->mG place l n=some o->∃c',Instr.fill place c m=some c'/\px k c' o
 |[],[],c,l,o,_,_,g,h=>by simp only[mG,Option.some.injEq]at h;subst h;exact⟨c,rfl,g⟩
 | (i, v) :: m,(F,a)::n,c,l,o,r,B,g,h=>by
   obtain⟨C,s⟩:=B 0 (i,v) (F,a) rfl rfl;simp only at C s;subst C;unfold mG at h;unfold Instr.fill;cases y:place i with
   |none=>rw[y]at h;cases h
   | some os=>
     obtain⟨off,size⟩:=os;rw[y]at h;simp only at h ⊢;split at h
     . next e=>
       obtain⟨D,G,H⟩:=e;obtain⟨z,I,J⟩:=s.cells H;have A:off+v.cells.size<=c.size:=by rw[z,D,g.1];exact G
       have t:¬((decide (v.cells.size≠size)||decide (off+v.cells.size>c.size))=true):=by simp;exact⟨by rw[z,D],by omega⟩
       rw[if_neg t];have b:=zo off v.cells.toList 0 c (by simpa using A)
       have f:(v.cells.zipIdx.foldl (λcs (x:Value × Nat)=>match x with|(c,j)=>cs.setIfInBounds (off+j) c) c)=((v.cells.toList.zipIdx 0).foldl (λcs (x:Value × Nat)=>cs.setIfInBounds (off+x.2) x.1) c):=by rw[<-Array.foldl_toList,Array.toList_zipIdx]
       rw[f];refine vF m n _ (aG l off a.cells) o (by simpa using r) (λj p q y K=>B (j+1) p q (by simpa using y) (by simpa using K)) ⟨?_,?_,?_⟩ h
       . rw[b.1,mZ (by omega)];exact g.1
       . intro j u x d w
         rw[b.2]at d;rw[vZ (by omega)]at w
         simp only[Nat.add_zero,Array.length_toList,z]at d
         by_cases E:off<=j/\j<off+a.cells.length
         . rw[if_pos E]at d w
           exact I _ u x (by simpa using d) w
         . rw[if_neg E]at d w
           exact g.2.1 j u x d w
       . intro j u d
         rw[b.2]at d;split at d
         . exact J _ u (by simpa using d)
         . exact g.2.2 j u d
     . cases h
 |[],_::_,_,_,_,r,_,_,_=>by simp at r
 |_::_,[],_,_,_,r,_,_,_=>by simp at r
theorem tA{k:ah}{ρ:Operand->Value}{env:Env}{parts:Array (Nat × Operand)}(h:∀p∈parts,V k (ρ p.2) (ar env p.2)):
 (parts.map λ(i,x)=>(i,ρ x)).toList.length=(parts.toList.map λp=>(p.1,ar env p.2)).length/\
 ∀(i:Nat) p q,(parts.map λ(i,x)=>(i,ρ x)).toList[i]?=some p->(parts.toList.map λp=>(p.1,ar env p.2))[i]?=some q->p.1=q.1/\V k p.2 q.2:=by
 refine⟨by simp,λi p q a b=>?_⟩;simp only[Array.getElem?_toList,Array.getElem?_map,List.getElem?_map]at a b;cases c:parts[i]? with
 |none=>rw[c]at a;cases a
 |some x=>rw[c]at a b;simp at a b;subst a;subst b;exact⟨rfl,h x (Array.mem_of_getElem? c)⟩
section
variable{P:Program}(L:iG P){o:Oper}{env:Env}{σ:aa}{K:AV->aa->Prop}{Kp:AV->aa->Prop}
theorem wi{k:ah}{O:ai}{Kp:Value->ah->ai->Prop}:∀(fs:List Field) (a:List (Nat × Nat × Nat)) (K:List (Nat × Nat)->ah->ai->Prop),
 (fs.map λf=>(f.offset,(P.info? f.type).map (·.size),f.type))=(a.map λx=>(x.1,some x.2.1,x.2.2))->K (a.map λx=>(x.1,x.2.1)) k O ->
 eh P (fs.mapM λf=>(do pure (f.offset,<-sizeOf f.type):Sem (Nat × Nat))) k O K Kp
 |[],[],K,_,b=>aj b
 |f::fs,x::a,K,h,b=>by simp only[List.map_cons,List.cons.injEq,Prod.mk.injEq]at h;obtain⟨⟨c,d,_⟩,e⟩:=h;obtain⟨info,g,i⟩:=Option.map_eq_some_iff.1 d;rw[List.mapM_cons];refine af (af (uF g (aj ?_)));refine af (wi fs a _ e (aj ?_));rw[c,i];exact b
 |[],_::_,_,h,_=>by simp at h
 |_::_,[],_,h,_=>by simp at h
theorem sa{i:TI}{d:TypeDesc}(h:dJ P i d=true)(a:i.kind=.struct):∃fs,d=.struct fs/\(fs.toList.map λf=>(f.offset,(P.info? f.type).map (·.size),f.type))=(i.jd.map λx=>(x.1,some x.2.1,x.2.2)):=by
 cases d with
 |struct fs=>simp only[dJ,Bool.and_eq_true,beq_iff_eq]at h;exact⟨fs,rfl,h.2⟩
 |_=>simp[dJ,a]at h
theorem wj{k:ah}{z:Value}(h:(jZ z).cells.all AV.flat=true):px k z.cells (jZ z).cells:=(V.jZ k z).cells h
theorem Cd{t:Nat}{parts:Array (Nat × Operand)}{i:TI}{l:List AV}(f:o.op=.build t parts)(g:L.tt t=some i)(h:i.kind=.struct)(m:(jZ i.zero).cells.all AV.flat=true)
 (n:mG (λj=>(i.jd[j]?).map λx=>(x.1,x.2.1)) (jZ i.zero).cells (parts.toList.map λp=>(p.1,ar env p.2))=some l) (q:K (.agg l) σ):aK P o env σ K Kp:=
 aK.val (s:=λρ=>Instr.build t (parts.map λ(i,x)=>(i,ρ x))) (λρ=>by simp[execOp,f]) λk O ρ r u=>by
  obtain⟨v,c⟩:=tA (k:=k) (ρ:=ρ) (env:=env) (parts:=parts) λp c=>r p.2 (by simp[f,Op.operands];exact⟨p.1,c⟩)
  obtain⟨y,w,b⟩:=vF _ _ i.zero.cells _ l v c (wj m) n;unfold Instr.build;refine af (cU L g (af (aD L g λd _ hd=>?_)))
  obtain⟨fs,rfl,e⟩:=sa hd h;dsimp only;refine af ?_;rw[Array.mapM_eq_mapM_toList,map_eq_pure_bind];refine af (wi fs.toList i.jd _ e (aj ?_))
  have a:(λj:Nat=>((i.jd.map λx=>(x.1,x.2.1)).toArray[j]?:Option (Nat × Nat)))=λj=>(i.jd[j]?).map λx=>(x.1,x.2.1):=by funext j;simp
  rw[a,w];exact aj (.here ⟨.refl k,.agg l,σ,.agg _ _ b.1 b.2.1,u,q⟩)
theorem yI{t len e:Nat}{parts:Array (Nat × Operand)}{it b:TI}{es:List AV}(X:o.op=.buildSlice t len parts)(ht:L.tt t=some it)(hk:it.kind=.slice e)(Y:L.tt e=some b)(H:len*b.size<=16777216)
 (hz:(jZ b.zero).cells.all AV.flat=true) (n:len*b.size=0\/(jZ b.zero).cells.length=b.size) (u:es.length=len/\∀e∈es,e.cells.length=b.size)
 (hf:mG (λj=>some (j*b.size,b.size)) ((List.range (len*b.size)).map λj=>(jZ b.zero).cells.getD (j % (jZ b.zero).cells.length) .bC) (parts.toList.map λp=>(p.1,ar env p.2))=some (flatten es)) (hK:K (.sl b.size es .exact) σ):aK P o env σ K Kp:=
 aK.val (s:=λρ=>Instr.buildSlice t len (parts.map λ(i,x)=>(i,ρ x))) (λρ=>by simp[execOp,X]) λk O ρ hv hr=>by
  obtain⟨hl,M⟩:=tA (k:=k) (ρ:=ρ) (env:=env) (parts:=parts) λp M=>hv p.2 (by simp[X,Op.operands];exact⟨p.1,M⟩)
  have l:=wj (k:=k) hz;unfold Instr.buildSlice;refine af (aD L ht λd _ hd=>?_)
  rw[bs hd hk];dsimp only;refine af (bQ L Y ?_);rw[if_neg (by omega)]
  have fin:∀(z:Array Value),(len*b.size=0\/z=b.zero.cells)->eh P (do
   let some cells:=Instr.fill (λi=>some (i*b.size,b.size)) ((Array.range (len*b.size)).map (z[· % z.size]!)) (parts.map λ(i,x)=>(i,ρ x)).toList|stuck  "buildSlice: a part of the wrong size"
   pure (.slice (some (<-newRow e cells)) len len):Sem Value) k O (λv C I=>lR C I λD N=>k.Le D/\∃a f,V D v a/\Rel D N f/\K a f) (λv C I=>k.Le C/\∃a f,V C v a/\Rel C I f/\Kp a f):=by
   intro z E
   have Q:px k ((Array.range (len*b.size)).map (z[· % z.size]!)) ((List.range (len*b.size)).map λj=>(jZ b.zero).cells.getD (j % (jZ b.zero).cells.length) .bC):=by
    refine⟨by simp,λj v a w Z=>?_,λj v w=>?_⟩
    . have m:j<len*b.size:=by simpa using(Array.getElem?_eq_some_iff.1 w).1
      rcases E with F|rfl
      . omega
      . have R:(jZ b.zero).cells.length≠0:=by
         rcases n with h|h
         . omega
         . rw[h];intro q;rw[q]at m;simp at m
        have y:j % (jZ b.zero).cells.length<(jZ b.zero).cells.length:=Nat.mod_lt _ (by omega)
        simp only[Array.getElem?_map,Array.getElem?_range,m,if_true,Option.map_some,Option.some.injEq,List.getElem?_map,List.getElem?_range]at w Z;have e1:=l.1;subst w;subst Z;refine l.2.1 (j % (jZ b.zero).cells.length) _ _ ?_ ?_
        . rw[<-e1];rw[<-e1]at y
          rw[getElem!_pos b.zero.cells _ y];simp[y]
        . simp[List.getD_eq_getElem?_getD,y]
    . have m:j<len*b.size:=by simpa using(Array.getElem?_eq_some_iff.1 w).1
      rcases E with F|rfl
      . omega
      . have R:(jZ b.zero).cells.length≠0:=by
         rcases n with h|h
         . omega
         . rw[h];intro q;rw[q]at m;simp at m
        have y:j % b.zero.cells.size<b.zero.cells.size:=by rw[l.1];exact Nat.mod_lt _ (by omega)
        simp only[Array.getElem?_map,Array.getElem?_range,m,if_true,Option.map_some,Option.some.injEq]at w;subst w;refine l.2.2 (j % b.zero.cells.size) _ ?_;rw[getElem!_pos b.zero.cells _ y];simp[y]
   obtain⟨J,hc,c⟩:=vF _ _ _ _ _ hl M Q hf;rw[hc];dsimp only;refine af (ns λr C I hn S=>aj ?_)
   obtain⟨D,N,g,G,A,T,U⟩:=S;refine⟨D,N,g,G,.sl b.size es .exact,σ,?_,U σ hr,hK⟩;have W:=aZ u.2;rw[show len=es.length from u.1.symm]
   refine V.ofRow (Nat.le_refl _) T (by rw[c.1,W];omega) u.2 (λj a ha=>?_) rfl
   have m:j<J.size:=by rw[c.1];exact(List.getElem?_eq_some_iff.1 ha).1
   have B:J[j]?=some J[j]:=by simp[m]
   exact⟨J[j],by rw[Nat.zero_add];exact A j _ B,(c.2.1 j _ a B ha).mono G,c.2.2 j _ B⟩
  by_cases F:len*b.size=0
  . rw[if_pos F]
    exact af (aj (fin #[] (.inl F)))
  . rw[if_neg F]
    exact af (cU L Y (af (aj (fin _ (.inr rfl)))))
end
inductive Md where
 |ret
 |PV (v:AV)
def wm(k:ah):FrameMode->Md->Prop
 |.returning,.ret=>True
 |.panicking c,.PV v=>∃a,c=[⟨a,false,false⟩]/\V k a v
 |_,_=>False
theorem wm.mono{k k':ah}(b:k.Le k'){fm:FrameMode}{a:Md}(h:wm k fm a):wm k' fm a:=by
 cases fm<;>cases a<;>simp only[wm]at h ⊢;obtain⟨c,d,e⟩:=h;exact⟨c,d,e.mono b⟩
def wo(P:Program)(m:Mo)(f:Fn)(cap args:List AV)(i:Md)(σ:aa)(j:Md->aa->Prop):Prop:=
 ∀ Q k O (fr:Frame) cs e g,fr.kind≠.early->wm k fr.mode i->Vs k e cap->Vs k g args->Rel k O σ ->
   (∀d h b c a,k.Le d->wm d a b->Rel d h c->j b c->T P m Q d h (G {fr with mode:=a} cs)) ->
   T P m Q k O (G {fr with defers:={target:=.fn f e.toArray,args:=g.toArray}::fr.defers} cs)
def AQ{P:Program}(L:iG P)(env:Env)(σ:aa):ResultVar->Option AV
 |.tmp t=>some (env t)
 |.cell a t=>match L.tt t with|some i=>oW i σ (env a)|none=>none
def eZ{P:Program}(L:iG P)(env:Env)(σ:aa):List ResultVar->Option (List AV)
 |[]=>some []
 |r::rs=>match AQ L env σ r,eZ L env σ rs with|some a,some l=>some (a::l)|_,_=>none
def oneOf:List AV->AV
 |[a]=>a
 |l=>.bG l
def ResultVar.ok(n:Nat):ResultVar->Bool
 |.tmp t=>t<n
 |.cell a _=>a<n
def Nm{P:Program}(L:iG P)(m:Mo)(rs:List ResultVar)(env:Env)(a:dV->aa->Prop):List lQ->Md->aa->Prop
 |[],.ret,σ=>∃l,eZ L env σ rs=some l/\a (.val (oneOf l)) σ
 |[],.PV v,σ=>a (.panic v) σ
 |.mark r::D,b,σ=>σ r=some (.raw (.deferred (some [])))/\Nm L m rs env a D b (σ.set r (.raw (.deferred none)))
 |.call f cap args::D,b,σ=>wo P m f cap args b σ λc d=>Nm L m rs env a D c d
section
variable{P:Program}(L:iG P){m:Mo}{f:FuncId}{fn:Func}
theorem Ce{α β:Type}{k:ah}{O:ai}{Kp:Value->ah->ai->Prop}(g:α->Sem β):∀(l:List α) (K:List β->ah->ai->Prop) (R:α->β->Prop),
 (∀x∈l,∀(f:β->ah->ai->Prop),(∀y,R x y->f y k O)->eh P (g x) k O f Kp)->(∀r:List β,r.length=l.length->(∀(i:Nat) x y,l[i]?=some x->r[i]?=some y->R x y)->K r k O)->eh P (l.mapM g) k O K Kp
 |[],K,R,_,h=>aj (h [] rfl (λi x y m=>by simp at m))
 | x::l,K,R,j,h=>by
   rw[List.mapM_cons];refine af (j x (by simp) _ λy n=>?_);refine af (Ce g l _ R (λz o=>j z (by simp[o])) λr c d=>?_);refine aj (h (y::r) (by simp[c]) λi a b e hb=>?_);cases i with
   |zero=>simp at e hb;subst e;subst hb;exact n
   |succ i=>exact d i a b (by simpa using e) (by simpa using hb)
theorem sc{env:Env}{σ:aa}:∀{rs:List ResultVar}{l:List AV},eZ L env σ rs=some l->l.length=rs.length/\∀(i:Nat) r a,rs[i]?=some r->l[i]?=some a->AQ L env σ r=some a
 |[],l,h=>by simp only[eZ,Option.some.injEq]at h;subst h;exact⟨rfl,λi r a h=>by simp at h⟩
 | r :: rs,l,h=>by
   unfold eZ at h;cases c:AQ L env σ r with
   |none=>rw[c]at h;cases h
   | some a=>
     cases d:eZ L env σ rs with
     |none=>rw[c,d]at h;cases h
     | some j=>
       rw[c,d]at h;simp only[Option.some.injEq]at h;subst h;obtain⟨f,g⟩:=sc d;refine⟨by simp[f],λi x b e hb=>?_⟩;cases i with
       |zero=>simp at e hb;subst e;subst hb;exact c
       |succ i=>exact g i x b (by simpa using e) (by simpa using hb)
theorem Cf{k:ah}{O:ai}{Kp:Value->ah->ai->Prop}{K:Value->ah->ai->Prop}{tmps:Array Value}{env:Env}{σ:aa}{l:List AV}(D:fH k tmps env)(E:fn.results.all (ResultVar.ok tmps.size)=true)(J:Rel k O σ)
 (M:eZ L env σ fn.results.toList=some l) (N:∀v,V k v (oneOf l)->K v k O):eh P (results fn tmps) k O K Kp:=by
 obtain⟨F,G⟩:=sc L M;unfold results;refine af ?_;rw[Array.mapM_eq_mapM_toList,map_eq_pure_bind]
 have y:∀r∈fn.results.toList,ResultVar.ok tmps.size r=true:=λr h=>by simp only[Array.all_eq_true_iff_forall_mem]at E;exact E r (by simpa using h)
 refine af (Ce _ fn.results.toList _ (λr v=>∀a,AQ L env σ r=some a->V k v a) (λr n Q o=>?_) λvs p z=>aj ?_)
 . have f:=y r n
   cases r with
   |tmp t=>exact aj (o _ λa g=>by simp only[AQ,Option.some.injEq]at g;subst g;exact D t (by simpa[ResultVar.ok]using f))
   | cell a t=>
     obtain⟨j,H,A⟩:=List.mem_iff_getElem.1 n;have B:j<l.length:=by rw[F];exact H
     have c:=G j _ l[j] (List.getElem?_eq_getElem H) (by simp[B])
     rw[A]at c;simp only[AQ]at c;cases x:L.tt t with
     |none=>rw[x]at c;cases c
     | some i=>
       rw[x]at c;simp only at c;have C:=D a (by simpa[ResultVar.ok]using f)
       obtain⟨S,e⟩:=C.JK (zk c);rw[e]at C;obtain⟨b,base,off,row,rfl,q,R⟩:=B6 J C c;show eh P (do loadVar t (<-asAddr (tmps.getD a undef))) k O Q Kp;rw[e];refine af (aj (mF L q x R λv m=>o v λT s=>?_))
       simp only[AQ,x,c,Option.some.injEq]at s;subst s;exact m
 . refine aj (N _ ?_)
   have d:∀(i:Nat) v a,vs[i]?=some v->l[i]?=some a->V k v a:=λi v a m g=>by
    have I:i<fn.results.toList.length:=by rw[<-p];exact(List.getElem?_eq_some_iff.1 m).1
    exact z i _ v (List.getElem?_eq_getElem I) m a (G i _ a (List.getElem?_eq_getElem I) g)
   have hlen:vs.length=l.length:=by rw[p,F]
   by_cases w:vs.toArray.size=1
   . rw[dif_pos w]
     match l,vs,hlen,d with
     |[a],[v],_,d=>exact d 0 v a rfl rfl
     |[],[],_,_=>simp at w
     |a::b::l,u::v::vs,_,_=>simp at w
   . rw[dif_neg w]
     match l,vs,hlen,d with
     |[],[],_,d=>exact .bG _ _ rfl (λi v a h=>by simp at h)
     |[a],[v],_,d=>simp at w
     |a::b::l,u::v::vs,hlen,d=>exact .bG _ _ (by simpa using hlen) (λi v a m g=>d i v a (by simpa using m) g)
theorem T.Cg{α:Type}{Q:ah->ai->Goroutine->Prop}{k:ah}{O:ai}{g:Goroutine}{s:Sem α}{fid:FuncId}(f:g.status=.running){K:α->ah->ai->Prop}{nxt:α->World->GStep}(b:∀a k' O' w',k.Le k'->Sat k' O' w'->K a k' O'->∃g',nxt a w'=.go g' w' #[]/\T P m Q k' O' g')
 (i:∀w a w',(s.runT P w #[]).1=.ok a w'->stepG P m.main g w=GStep.after (seen P fid (s.runT P w #[]).2) (nxt a w')) (h:eh P s k O K (λ_ _ _=>False)):T P m Q k O g:=
 .step (λk' O' x=>T P m Q k' O' x) f (λ_ _ _ h=>h) λw j=>by
  obtain⟨k',O',w',l,c,d,n,o⟩:=tz s #[] h j;rcases o with⟨a,p,q⟩|⟨v,_,r⟩
  . obtain⟨g',t,u⟩:=b a k' O' w' c.le d q
    refine⟨g',w',seen P fid (s.runT P w #[]).2,k',O',?_,c.sub (λe y=>?_),d,u⟩
    . rw[i w a w' p,t];simp[GStep.after]
    . have:=vX (by simpa using y:e∈seen P fid (s.runT P w #[]).2)
      rw[<-Array.mem_toList_iff,n]at this;simpa using this
  . exact r.elim
theorem Ch{Q:ah->ai->Goroutine->Prop}{R:dV->aa->Prop}{n:Nat}{kind:CallKind}{c:Frame}{rest:List Frame}(hf:P.funcs[f]?=some fn)(C:fn.results.all (ResultVar.ok n)=true)(b:kind≠.early){env:Env}:
 ∀ (D:List lQ) (j:Md) (σ:aa) (k:ah) (O:ai) (tmps:Array Value) (todo:List Item) (defs:List Deferred) (fm:FrameMode),tmps.size=n->fH k tmps env->Rel k O σ->zh k defs D->wm k fm j->Nm L m fn.results.toList env R D j σ ->
   (∀k' O' o E σ',k.Le k'->V k' o E->Rel k' O' σ'->R (.val E) σ'->T P m Q k' O' (kR kind c rest o)) ->
   (∀k' O' o E σ',k.Le k'->V k' o E->Rel k' O' σ'->R (.panic E) σ'->T P m Q k' O' (G (c.raise [⟨o,false,false⟩]) rest)) ->
   T P m Q k O (G ⟨f,tmps,todo,defs,fm,kind,none⟩ (c::rest)):=by
 intro D
 induction D with
 | nil =>
   intro j σ k O tmps todo defs fm p M u hd a F B N;cases defs with
   |cons _ _=>exact hd.elim
   | nil =>
     cases fm with
     |run=>cases j<;>exact a.elim
     | returning=>
       cases j with
       |PV v=>exact a.elim
       | ret=>
         obtain⟨l,hl,hK⟩:=F;refine T.Cg (fid:=f) (s:=results fn tmps) rfl (K:=λv k' O'=>k'=k/\O'=O/\V k v (oneOf l)) (nxt:=λv w=>doReturn P m.main ⟨f,tmps,todo,[],.returning,kind,none⟩ (c::rest) none v w) ?_ ?_ ?_
         . rintro v k' O' S _ _ ⟨rfl,rfl,U⟩
           have ht:=B k' O' v _ σ (.refl _) U u hK;cases kind<;>first|exact absurd rfl b|exact⟨_,rfl,ht⟩
         . intro w v S i
           simp only[G,stepG,unwind,hf];rw[show(results fn tmps).runT P w #[]=(((results fn tmps).runT P w #[]).1,((results fn tmps).runT P w #[]).2)from rfl,i]
         . exact Cf L M (by rw[p];exact C) u hl λv B=>⟨rfl,rfl,B⟩
     | panicking ch=>
       cases j with
       |ret=>exact a.elim
       | PV v=>
         obtain⟨o,rfl,W⟩:=a;refine T.dW (g':=G (c.raise [⟨o,false,false⟩]) rest) rfl (λw=>?_) (N k O o v σ (.refl _) W u F)
         have H:Frame.catches P ⟨f,tmps,todo,[],.panicking [⟨o,false,false⟩],kind,none⟩=false:=by simp[Frame.catches,hf]
         simp only[G,stepG,unwind,H];rfl
 | cons d D ih=>
   intro j σ k O tmps todo defs fm p M u hd a F B N;cases defs with
   |nil=>exact hd.elim
   | cons df defs=>
     obtain⟨q,I⟩:=hd;have y:fm≠.run:=λe=>by subst e;cases j<;>exact a.elim
     cases d with
     | mark r=>
       obtain⟨h1,h2⟩:=F;have q:df={target:=.collected r,args:=#[]}:=q;subst q;refine T.Cg (fid:=f) (s:=Instr.takeDeferred r) rfl (K:=λcalls k' O'=>calls=[]/\k'=k/\Rel k O' (σ.set r (.raw (.deferred none)))) (nxt:=λcalls w=>.go (G ⟨f,tmps,todo,calls++defs,fm,kind,none⟩ (c::rest)) w) ?_ ?_ ?_
       . rintro calls k' O' S _ _ ⟨rfl,rfl,z⟩
         exact⟨_,rfl,ih j _ k' O' tmps todo defs fm p M z I a h2 B N⟩
       . intro w v S i
         cases fm with
         |run=>exact absurd rfl y
         |_=>simp only[G,stepG,unwind];rw[show(Instr.takeDeferred r).runT P w #[]=(((Instr.takeDeferred r).runT P w #[]).1,((Instr.takeDeferred r).runT P w #[]).2)from rfl,i]
       . obtain⟨x,hx,X⟩:=u.1 r _ h1 (by simp)
         cases X with
         |raw _ hc=>unfold Instr.takeDeferred;refine af (s:=getObj r) ⟨_,hx,rfl,?_⟩;refine af (s:=setObj r _) ⟨⟨_,hx,rfl⟩,rfl,aj ⟨rfl,rfl,?_⟩⟩;exact u.set (.raw _ rfl)
     | call g cap args=>
       obtain⟨cc,ca,rfl,Y,Z⟩:=q
       have:=F Q k O ⟨f,tmps,todo,defs,fm,kind,none⟩ (c::rest) cc.toList ca.toList b a Y Z u λk' O' a7 σ' A t J z a8=>ih a7 σ' k' O' tmps todo defs A p (M.mono t) z (I.mono t) J a8 (λ_ _ _ _ _ h=>B _ _ _ _ _ (t.trans h)) (λ_ _ _ _ _ h=>N _ _ _ _ _ (t.trans h))
       simpa using this
def dD(args:List AV):Env:=λt=>args.getD t .bC
theorem tB{k:ah}{cargs:List Value}{args:List AV}(h:Vs k cargs args)(n:Nat):fH k (cargs.toArray++Array.replicate n undef) (dD args):=λt d=>by
 by_cases a:t<cargs.length
 . have b:t<args.length:=by rw[<-h.1];exact a
   have:(cargs.toArray++Array.replicate n undef).getD t undef=cargs[t]:=by
    simp only[Array.getD_eq_getD_getElem?];rw[Array.getElem?_append_left (by simpa using a)];simp[a]
   rw[this];have c:dD args t=args[t]:=by simp[dD,List.getD_eq_getElem?_getD,b]
   rw[c];exact h.2 t _ _ (by simp[a]) (by simp[b])
 . have:dD args t=.bC:=by
    unfold dD;rw[List.getD_eq_getElem?_getD,List.getElem?_eq_none (by rw[<-h.1];omega)];rfl
   rw[this];exact .bC _
def QZ{P:Program}(L:iG P)(m:Mo)(rs:List ResultVar)(a:dV->aa->Prop):Exit->St->Prop
 |.leave none,s=>s.rc=.no/\Nm L m rs s.env a s.D .ret s.σ
 |.leave (some .ret),s=>s.rc=.no/\Nm L m rs s.env a s.D .ret s.σ
 |.leave _,_=>False
 |.panic v,s=>s.rc=.no/\Nm L m rs s.env a s.D (.PV v) s.σ
theorem Nv{Q:ah->ai->Goroutine->Prop}{j:dV->aa->Prop}{n:Nat}{kind:CallKind}{c:Frame}{rest:List Frame}(hf:P.funcs[f]?=some fn)(b:fn.results.all (ResultVar.ok n)=true)(a:kind≠.early){k:ah}
 (q:∀k' O' e g σ',k.Le k'->V k' e g->Rel k' O' σ'->j (.val g) σ'->T P m Q k' O' (kR kind c rest e))
 (r:∀k' O' e g σ',k.Le k'->V k' e g->Rel k' O' σ'->j (.panic g) σ'->T P m Q k' O' (G (c.raise [⟨e,false,false⟩]) rest)):
 AL P m Q f n none kind (c::rest) (QZ L m fn.results.toList j) k where
 leave k' O' tmps defs s todo d hle hs t i:=by
  have key:s.rc=.no/\Nm L m fn.results.toList s.env j s.D .ret s.σ/\(d=none\/d=some .ret):=by
   rcases t with⟨_,rfl⟩|⟨_,_,rfl⟩|⟨_,_,_,_,rfl⟩
   . exact⟨i.1,i.2,.inl rfl⟩
   . exact⟨i.1,i.2,.inr rfl⟩
   . exact i.elim
  obtain⟨l,o,u⟩:=key;rw[l];refine T.dW (g':=G ⟨f,tmps,todo,defs,.returning,kind,none⟩ (c::rest)) rfl (λw=>?_) ?_
  . rcases t with⟨rfl,rfl⟩|⟨v,rfl,rfl⟩|⟨_,_,_,_,rfl⟩
    . simp[G,stepG,stepG.exec,gf]
    . simp[G,stepG,stepG.exec,gf]
    . simp at u
  . exact Ch L hf b a s.D .ret s.σ k' O' tmps todo defs .returning hs.size hs.env hs.rel hs.ds trivial o (λ_ _ _ _ _ h=>q _ _ _ _ _ (hle.trans h)) (λ_ _ _ _ _ h=>r _ _ _ _ _ (hle.trans h))
 panic k' O' tmps defs s todo e g hle hs p i:=by obtain⟨l,o⟩:=i;rw[l];exact Ch L hf b a s.D (.PV g) s.σ k' O' tmps todo defs _ hs.size hs.env hs.rel hs.ds ⟨e,rfl,p⟩ o (λ_ _ _ _ _ h=>q _ _ _ _ _ (hle.trans h)) (λ_ _ _ _ _ h=>r _ _ _ _ _ (hle.trans h))
theorem aB.intro{args:List AV}{σ:aa}{j:dV->aa->Prop}{body:Code}(l:P.funcs[f]?=some fn)(hb:fn.body=some body)(q:args.length<=fn.ntmps)(g:fn.results.all (ResultVar.ok fn.ntmps)=true)
 (h:Go P m f fn.ntmps none [.code body] ⟨dD args,σ,[],.no⟩ (QZ L m fn.results.toList j)):aB P m f args σ j:=λQ k O a c rest kind b d n o p=>by
 have i:(a.toArray++Array.replicate (fn.ntmps-a.length) undef).size=fn.ntmps:=by simp;rw[d.1];omega
 have e:Frame.enter P f a.toArray kind=⟨f,a.toArray++Array.replicate (fn.ntmps-a.length) undef,[.code body],[],.run,kind,none⟩:=by simp[Frame.enter,l,hb]
 rw[e];exact h Q k O _ [] kind (c::rest) b ⟨i,tB d _,n,trivial,trivial⟩ (Nv L l g b o p)
def Ws:List AV->List AV->Prop
 |[],[]=>True
 |a::l,b::r=>a.W b/\Ws l r
 |_,_=>False
theorem Ws.vs{k:ah}:∀{c:List Value}{l e:List AV},Ws l e->Vs k c l->Vs k c e
 |[],[],[],_,_=>.nil
 |v::c,a::l,b::r,h,d=>.cons (h.1 k v (d.2 0 v a rfl rfl)) (Ws.vs h.2 ⟨by simpa using d.1,λi x y f g=>d.2 (i+1) x y (by simpa using f) (by simpa using g)⟩)
 |_,[],_::_,h,_=>h.elim
 |_,_::_,[],h,_=>h.elim
 |[],_::_,_,_,d=>by simp[Vs]at d
 |_::_,[],_,_,d=>by simp[Vs]at d
theorem cN.func{first cap args:List AV}{σ:aa}{w:dV->aa->Prop}(x:P.funcs[f]?=some fn)(hb:fn.body.isSome=true)(p:(fn.name==  "runtime.NumGoroutine")=false)(h:aB P m f (first++args++cap) σ w):
 cN P m (.fn (.func f) first cap) args σ w:=λQ k O cf b fr cs q d y r s g j z=>by
 cases q with
 | fn _ n o E F A B C D=>
   refine dQ ?_;simp only[Deferred.ofValue];refine af (aj ?_);simp only[invoke,callFunc];refine af (bN ?_);rw[x];have t:fn.body.isNone=false:=by cases G:fn.body<;>simp_all
   simp only[p,t,Bool.false_eq_true,if_false];refine aj λ_=>⟨g,?_⟩
   have e:n++b.toArray++o=(n.toList++b++o.toList).toArray:=by simp
   rw[e];exact h Q k O (n.toList++b++o.toList) fr cs .normal (by simp) (Vs.append (Vs.append (c:=n.toList) (l:=first) ⟨by simpa using A,λi v a j u=>B i v a (by simpa using j) u⟩ d) (c':=o.toList) ⟨by simpa using C,λi v a j u=>D i v a (by simpa using j) u⟩) y j z
theorem cN.mono{g:AV}{args:List AV}{σ:aa}{i f:dV->aa->Prop}(h:cN P m g args σ i)(j:∀r σ,i r σ->f r σ):cN P m g args σ f:=λQ k O cf e fr cs l n o p q s t u=>h Q k O cf e fr cs l n o p q s (λ_ _ _ _ _ a b c d=>t _ _ _ _ _ a b c (j _ _ d)) (λ_ _ _ _ _ a b c d=>u _ _ _ _ _ a b c (j _ _ d))
theorem cN.weaken{b:AV}{args args':List AV}{σ:aa}{c:dV->aa->Prop}(h:cN P m b args' σ c)(d:Ws args args'):cN P m b args σ c:=λQ k O cf a fr cs e f g i j l n o=>h Q k O cf a fr cs e (d.vs f) g i j l n o
end
section
variable{P:Program}{m:Mo}{fid n:Nat}{ro:Option Nat}{s:St}{K:Exit->St->Prop}{k:List Item}
theorem Go.call{ops:Array Oper}{i:Nat}{rest:List Nat}{o:Oper}{fo:Operand}{args:Array Operand}{B:Array TypeId}(G:ops[i]?=some o)(g:o.op=.call ⟨.value fo,args,B⟩)(M:cu ops n s.env o)(y:Oper.ok n o=true)
 (h:cN P m (ar s.env fo) (args.toList.map (ar s.env)) s.σ (λr σ'=>match r with
   |.val a=>Go P m fid n ro (.inRegion ops rest::k) {s with env:=bo s.env o.dst a,σ:=σ'} K
   |.panic v=>K (.panic v) {s with σ:=σ'})):
 Go P m fid n ro (.inRegion ops (i::rest)::k) s K:=λQ kk O tmps defs kind cs H f I=>by
 refine T.nZ (λw=>dS G (gO f.size f.env M) (.inr λc e=>by rw[g]at e;cases e) w) ?_
 have p:∀x∈o.op.operands,V kk (Frame.eval ⟨fid,tmps,.inRegion ops (i::rest)::k,defs,.run,kind,ro⟩ x) (ar s.env x):=λx z=>by refine V.eval f.env f.size x ?_;simp only[Oper.ok,Bool.and_eq_true,Array.all_eq_true_iff_forall_mem]at y;exact y.1 x z
 have e:execOp (Frame.eval ⟨fid,tmps,.inRegion ops (i::rest)::k,defs,.run,kind,ro⟩) o=(do let d <-Deferred.ofValue (Frame.eval ⟨fid,tmps,.inRegion ops (i::rest)::k,defs,.run,kind,ro⟩ fo) ((args.toList.map (Frame.eval ⟨fid,tmps,.inRegion ops (i::rest)::k,defs,.run,kind,ro⟩)).toArray);invoke d.target d.args):=by
  have N:(args.toList.map (Frame.eval ⟨fid,tmps,.inRegion ops (i::rest)::k,defs,.run,kind,ro⟩)).toArray=args.map (Frame.eval ⟨fid,tmps,.inRegion ops (i::rest)::k,defs,.run,kind,ro⟩):=by apply Array.ext';simp
  rw[N];simp only[execOp,g,resolve]
 rw[e];refine h Q kk O _ _ _ _ (p fo (by simp[g,Op.operands,Call.operands])) ⟨by simp,λj v a u A=>?_⟩ f.rel rfl H (λd w r s l=>by simp) (λC D J L σ' b q E F=>?_) (λC D J L σ' b q E F=>?_)
 . simp only[List.getElem?_map]at u A
   cases z:args.toList[j]? with
   |none=>rw[z]at u;cases u
   |some x=>rw[z]at u A;simp only[Option.map_some,Option.some.injEq]at u A;subst u;subst A;exact p x (by simp only[g,Op.operands,Call.operands];exact Array.mem_append.2 (.inr (by simpa using List.mem_of_getElem? z)))
 . obtain⟨t,R,S⟩:=f.put (fid:=fid) (ro:=ro) (rest:=rest) (kk:=k) b G q E
   rw[R];exact F Q C D t defs kind cs H S (I.mono b)
 . exact I.panic C D tmps defs {s with σ:=σ'} _ J L b ⟨f.size,f.env.mono b,E,f.ds.mono b,f.rc.mono b⟩ q F
theorem Go.defer{ops:Array Oper}{i:Nat}{rest:List Nat}{o:Oper}{fo:Operand}{args:Array Operand}{u:Array TypeId}{f:Fn}{first cap:List AV}(y:ro=none)(C:ops[i]?=some o)(g:o.op=.defer ⟨.value fo,args,u⟩)(F:cu ops n s.env o)(p:Oper.ok n o=true)
 (z:ar s.env fo=.fn f first cap) (h:Go P m fid n ro (.inRegion ops rest::k) {s with env:=bo s.env o.dst .bC,D:=.call f cap (first++args.toList.map (ar s.env))::s.D} K):
 Go P m fid n ro (.inRegion ops (i::rest)::k) s K:=λQ kk O tmps defs kind cs H l I=>by
 refine T.nZ (λw=>dS C (gO l.size l.env F) (.inl y) w) (dQ ?_)
 have d:∀x∈o.op.operands,V kk (Frame.eval ⟨fid,tmps,.inRegion ops (i::rest)::k,defs,.run,kind,ro⟩ x) (ar s.env x):=λx q=>by refine V.eval l.env l.size x ?_;simp only[Oper.ok,Bool.and_eq_true,Array.all_eq_true_iff_forall_mem]at p;exact p.1 x q
 have A:=d fo (by simp[g,Op.operands,Call.operands])
 rw[z]at A;generalize J:Frame.eval _ fo=cf at A;cases A with
 | fn _ t B U W L M N R=>
   simp only[execOp,g,resolve,J,Deferred.ofValue];refine af (aj (aj λ_=>?_))
   obtain⟨b,E,r⟩:=l.put (fid:=fid) (ro:=ro) (rest:=rest) (kk:=k) (v:=undef) (a:=.bC) (.refl _) C (.bC _) l.rel
   have S:Frame.finish ⟨fid,tmps,.inRegion ops (i::rest)::k,{target:=.fn f B,args:=t++args.map (Frame.eval ⟨fid,tmps,.inRegion ops (i::rest)::k,defs,.run,kind,ro⟩)}::defs,.run,kind,ro⟩ undef=
    ⟨fid,b,.inRegion ops rest::k,{target:=.fn f B,args:=t++args.map (Frame.eval ⟨fid,tmps,.inRegion ops (i::rest)::k,defs,.run,kind,ro⟩)}::defs,.run,kind,ro⟩:=by
    simp only[Frame.finish,Frame.mk.injEq]at E ⊢;simp[E.2.1]
   show T P m Q kk O (G _ _);rw[S];refine h Q kk O b _ kind cs H ⟨r.size,r.env,r.rel,⟨⟨B,_,rfl,⟨by simpa using N,λi v a c e=>R i v a (by simpa using c) e⟩,?_⟩,r.ds⟩,r.rc⟩ I
   have:(t++args.map (Frame.eval ⟨fid,tmps,.inRegion ops (i::rest)::k,defs,.run,kind,ro⟩)).toList=t.toList++args.toList.map (Frame.eval ⟨fid,tmps,.inRegion ops (i::rest)::k,defs,.run,kind,ro⟩):=by simp
   rw[this];refine Vs.append ⟨by simpa using L,λi v a c e=>M i v a (by simpa using c) e⟩ ⟨by simp,λj v a c e=>?_⟩
   simp only[List.getElem?_map]at c e;cases q:args.toList[j]? with
   |none=>rw[q]at c;cases c
   |some x=>rw[q]at c e;simp only[Option.map_some,Option.some.injEq]at c e;subst c;subst e;exact d x (by simp only[g,Op.operands,Call.operands];exact Array.mem_append.2 (.inr (by simpa using List.mem_of_getElem? q)))
end
def gg (env:Env):List Tmp->List AV->Env
 | t :: b,a :: as=>gg (env.upd t a) b as
 | _,_=>env
theorem wq {k:ah}:∀ (ts:List Tmp) (vs:List Value) (as:List AV) (tmps:Array Value) (env:Env),Vs k vs as->fH k tmps env ->
 ((ts.zip vs).foldl (fun tmps (x:Tmp × Value)=>tmps.setIfInBounds x.1 x.2) tmps).size=tmps.size∧fH k ((ts.zip vs).foldl (fun tmps (x:Tmp × Value)=>tmps.setIfInBounds x.1 x.2) tmps) (gg env ts as)
 | [],vs,as,tmps,env,_,c=>by cases as <;> exact⟨rfl,c⟩
 | t :: ts,[],as,tmps,env,b,c=>by
   have:as=[]:=by have:=b.1;simp at this;exact List.eq_nil_of_length_eq_zero this.symm
   subst this;exact⟨rfl,c⟩
 | t :: ts,v :: vs,[],tmps,env,b,c=>by simp[Vs] at b
 | t :: ts,v :: vs,a :: as,tmps,env,b,c=>by
   have d:V k v a:=b.2 0 v a rfl rfl;have e:Vs k vs as:=⟨by simpa using b.1,fun i x y f g=>b.2 (i+1) x y (by simpa using f) (by simpa using g)⟩
   obtain⟨h,j⟩:=wq ts vs as (tmps.setIfInBounds t v) (env.upd t a) e (c.upd d);exact⟨by simp only[List.zip_cons_cons,List.foldl_cons];rw[h];simp,by simpa only [List.zip_cons_cons,List.foldl_cons,gg] using j⟩
section
variable{P:Program}{m:Mo}{fid n:Nat}{s:St}{K:Exit->St->Prop}{k:List Item}
theorem mH{kk:ah}{O:ai}{Kp:Value->ah->ai->Prop}{σ:aa}{l:Nat}{a:mE}{R:Loop->ah->ai->Prop}(c:Rel kk O σ)(d:σ l=some (.loop a))(e:∀tmps,tmps.size=a.n->fH kk tmps a.env->R ⟨a.state,a.pending,a.fn,tmps,a.params,a.assign,a.body,a.defers⟩ kk O):
 eh P (Instr.getLoop l) kk O R Kp:=by
 obtain⟨x,f,b⟩:=c.1 l _ d (by simp);cases b with
 |loop _ tmps g h=>unfold Instr.getLoop;exact af (s:=getObj l) ⟨_,f,rfl,aj (e tmps g h)⟩
theorem Go.rangeFunc{f:Operand}{params:Array Tmp}{assign body:Code}(hf:Operand.ok n f=true)
 (h:∀ r l,s.σ r=none->s.σ l=none->r≠l->cN P m (ar s.env f) [.fn (.yield l) [] []] ((s.σ.set r (.raw (.deferred (some [])))).set l (.loop ⟨.ready,none,fid,n,s.env,params,assign,body,r⟩))
   (fun res σ'=>match res with
     |.val _=>∃a,σ' l=some (.loop a)/\a.state≠.busy/\Go P m fid n none ((a.pending.map Item.code).toList++k) {s with σ:=σ'.del l,D:=.mark r::s.D} K
     |.panic v=>K (.panic v) {s with σ:=σ',D:=.mark r::s.D})):Go P m fid n none (.code (.rangeFunc f params assign body)::k) s K:=
 λQ kk O tmps defs kind cs h1 g h3=>by
 refine .step (λt u x=>T P m Q t u x) rfl (λ_ _ _ h=>h) λw hw=>?_
 have z:eh P (Instr.enterLoop fid tmps params assign body none) kk O (λx I L=>∃r l,x=(l,[{target:=.collected r,args:=#[]}])/\s.σ r=none/\s.σ l=none/\r≠l/\kk.Le I/\
  Rel I L ((s.σ.set r (.raw (.deferred (some [])))).set l (.loop ⟨.ready,none,fid,n,s.env,params,assign,body,r⟩))) (λ_ _ _=>False):=by
  unfold Instr.enterLoop;refine af (af (s:=newObj _) ⟨rfl,λr hr=>aj (aj ?_)⟩)
  refine af (s:=newObj _) ⟨rfl,λl M=>aj (aj ⟨r,l,rfl,g.rel.isNone hr.1 hr.2.2,?_,?_,.refl _,?_⟩)⟩
  . have:=M.1
    by_cases e:l=r
    . subst e;simp[ai.set]at this
    . simp only[ai.set,e,if_false]at this
      have A:=M.2.2;simp only[ah.made]at A;exact g.rel.isNone this A
  . intro e
    subst e;have:=M.1;simp[ai.set]at this
  . exact(g.rel.set (.raw _ rfl)).set (.loop ⟨.ready,none,fid,n,s.env,params,assign,body,r⟩ tmps g.size g.env)
 obtain⟨I,L,w1,l1,e1,s1,N,c1⟩:=tz _ #[] z hw
 rcases c1 with⟨x,hx,r,l,rfl,B,C,R,c,E⟩|⟨_,_,hF⟩
 . have hv:=V.eval (fr:=⟨fid,tmps,.inRangeFunc l::k,{target:=.collected r,args:=#[]}::defs,.run,kind,none⟩) (g.env.mono c) g.size f hf
   have y:=h r l B C R Q I L _ [.func (.yield l) #[] #[]] ⟨fid,tmps,.inRangeFunc l::k,{target:=.collected r,args:=#[]}::defs,.run,kind,none⟩ (gf s.rc cs) hv (.cons (.fn _ _ _ _ _ rfl (λi v a S=>by simp at S) rfl (λi v a S=>by simp at S)) .nil) E rfl h1 (λd w r s l=>by simp)
    (λt u cv av σ' b F p U=>?_) (λt u cv av σ' b F p U=>?_) w1 s1
   . obtain⟨g',W,es,t,u,a1,a2,a3,a4⟩:=y
     refine⟨g',W,seen P fid ((Instr.enterLoop fid tmps params assign body none).runT P w #[]).2++es,t,u,?_,?_,a3,a4⟩
     . simp only[G,stepG,stepG.exec]
       rw[show(Instr.enterLoop fid tmps params assign body none).runT P w #[]=(((Instr.enterLoop fid tmps params assign body none).runT P w #[]).1,((Instr.enterLoop fid tmps params assign body none).runT P w #[]).2)from rfl,hx]
       simp only
       have X:stepG.apply P true ⟨fid,tmps,.inRangeFunc l::k,[{target:=.collected r,args:=#[]}]++defs,.run,kind,none⟩ (gf s.rc cs) none (do let d <-resolve (Frame.eval ⟨fid,tmps,.inRangeFunc l::k,[{target:=.collected r,args:=#[]}]++defs,.run,kind,none⟩) {callee:=.value f,args:=#[.const (.func (.yield l) #[] #[])],argTypes:=#[]} 0;invoke d.target d.args) w1=.go g' W es:=by rw[<-a1];simp[resolve,Frame.eval]
       rw[X];rfl
     . refine (Eff.trans e1 a2).sub λe he=>?_
       rw[Array.toList_append]at he
       rcases List.mem_append.1 he with he|he
       . have:=vX (by simpa using he:e∈seen P fid ((Instr.enterLoop fid tmps params assign body none).runT P w #[]).2)
         rw[<-Array.mem_toList_iff,N]at this;exact List.mem_append.2 (.inl (by simpa using this))
       . exact List.mem_append.2 (.inr he)
   ·
    obtain⟨a,ha,hb,Y⟩:=U
    have Z:∀w,stepG P m.main (G ⟨fid,tmps,.endRangeFunc l::k,{target:=.collected r,args:=#[]}::defs,.run,kind,none⟩ (gf s.rc cs)) w=GStep.after (seen P fid ((Instr.endLoop l).runT P w #[]).2) (match ((Instr.endLoop l).runT P w #[]).1 with
     |.ok q w=>.go (G ⟨fid,tmps,(q.map Item.code).toList++k,{target:=.collected r,args:=#[]}::defs,.run,kind,none⟩ (gf s.rc cs)) w
     |.halt (.panic v) w=>.go (G (Frame.raise ⟨fid,tmps,.endRangeFunc l::k,{target:=.collected r,args:=#[]}::defs,.run,kind,none⟩ [{v,recovered:=false}]) (gf s.rc cs)) w
     |.halt _ w=>.ended (.stuck  "range over a function: no such loop" (Frame.pos P ⟨fid,tmps,.endRangeFunc l::k,{target:=.collected r,args:=#[]}::defs,.run,kind,none⟩)) w):=λw=>by
     simp only[G,stepG,stepG.exec];rfl
    show T P m Q t u (G ⟨fid,tmps,.endRangeFunc l::k,{target:=.collected r,args:=#[]}::defs,.run,kind,none⟩ (gf s.rc cs));refine T.Cg (fid:=fid) (s:=Instr.endLoop l) rfl (K:=λj J O2=>j=a.pending/\J=t/\Rel J O2 (σ'.del l)) (nxt:=λq w=>.go (G ⟨fid,tmps,(q.map Item.code).toList++k,{target:=.collected r,args:=#[]}::defs,.run,kind,none⟩ (gf s.rc cs)) w) ?_ ?_ ?_
    . rintro j J O2 w2 _ _ ⟨rfl,rfl,a7⟩
      exact⟨_,rfl,Y Q J O2 tmps ({target:=.collected r,args:=#[]}::defs) kind cs h1 ⟨g.size,g.env.mono (c.trans b),a7,⟨rfl,g.ds.mono (c.trans b)⟩,g.rc.mono (c.trans b)⟩ (h3.mono (c.trans b))⟩
    . intro w j W H
      rw[Z,H]
    . unfold Instr.endLoop
      refine af (mH p ha λa8 _ _=>?_)
      have a9:(a.state==LoopState.busy)=false:=by simpa using hb
      simp only[a9,Bool.false_eq_true,if_false];obtain⟨x,ad,al⟩:=p.1 l _ ha (by simp)
      have ax:∃o,x=.obj o/\iB o=false:=by
       cases al with
       |loop _ _ _ _=>exact⟨_,rfl,rfl⟩
      obtain⟨o,rfl,ho⟩:=ax;refine af (s:=setObj l _) ⟨⟨o,ad,ho⟩,rfl,aj ⟨rfl,rfl,?_⟩⟩;exact p.drop l _
   . exact h3.panic t u tmps ({target:=.collected r,args:=#[]}::defs) {s with σ:=σ',D:=.mark r::s.D} _ cv av (c.trans b) ⟨g.size,g.env.mono (c.trans b),p,⟨rfl,g.ds.mono (c.trans b)⟩,g.rc.mono (c.trans b)⟩ F U
 . exact hF.elim
def JQ(l:Nat)(c:dV->aa->Prop):Exit->St->Prop
 |.leave b,s=>s.D=[]/\s.rc=.no/\∃a,s.σ l=some (.loop a)/\c (.val (.lit (.bool b.isNone))) (s.σ.set l (.loop {a with state:=if b.isNone then .ready else .done,pending:=b}))
 |.panic v,s=>s.D=[]/\s.rc=.no/\c (.panic v) s.σ
theorem cN.yield{l:Nat}{args:List AV}{σ:aa}{Y:dV->aa->Prop}{a:mE}{fn:Func}(hf:P.funcs[a.fn]?=some fn)(hl:σ l=some (.loop a))(hn:args.length=a.params.size)
 (h:Go P m a.fn a.n (some l) [.code a.assign,.beginRound,.code a.body] ⟨gg a.env a.params.toList args,σ,[],.no⟩ (JQ l Y)):cN P m (.fn (.yield l) [] []) args σ Y:=λQ Z O cf c fr cs z f hr A B C hv hp=>by
 cases z with
 | fn _ c1 c2 l1 l2 g1 g2 g3 g4=>
   have e1:c1=#[]:=by simpa using g1
   have e2:c2=#[]:=by simpa using g3
   subst e1 e2;refine dQ ?_;simp only[Deferred.ofValue];refine af (aj ?_);simp only[invoke,Instr.yield];refine af (mH hr hl λtmps hs he=>?_)
   have D:¬(#[]++c.toArray).size≠a.params.size:=by simp;rw[f.1,hn]
   simp only[if_neg D];refine aj λ_=>?_
   obtain⟨q1,q2⟩:=wq a.params.toList c args tmps a.env f he
   have E:(a.params.zip (#[]++c.toArray)).foldl (λtmps (x:Tmp × Value)=>match x with|(t,a)=>tmps.setIfInBounds t a) tmps=(a.params.toList.zip c).foldl (λtmps (x:Tmp × Value)=>tmps.setIfInBounds x.1 x.2) tmps:=by rw[<-Array.foldl_toList];simp[Array.toList_zip]
   show T P m Q Z O (G (Frame.round l a.fn _ a.assign a.body .normal) (fr::cs));rw[E];refine h Q Z O _ [] .normal (fr::cs) (by simp) ⟨by rw[q1,hs],q2,hr,trivial,trivial⟩ ⟨λu F d defs s' todo b i e H I=>?_,λu F d defs s' todo J av i e L I=>?_⟩
   . obtain⟨hD,j,a',q,k⟩:=I
     rw[j];show T P m Q u F (G ⟨a.fn,d,todo,defs,.run,.normal,some l⟩ (fr::cs))
     refine T.Cg (fid:=a.fn) (s:=Instr.endRound l b) rfl (K:=λv y M=>v=.bool b.isNone/\y=u/\Rel y M (s'.σ.set l (.loop {a' with state:=if b.isNone then .ready else .done,pending:=b})))
      (nxt:=λv w=>.go (G (fr.finish v) cs) w) ?_ ?_ ?_
     . rintro v y M w2 _ _ ⟨rfl,rfl,N⟩
       exact⟨_,rfl,hv y M _ _ _ i (.lit _) N k⟩
     . intro w v w' g
       rcases H with⟨rfl,rfl⟩|⟨R,rfl,rfl⟩|⟨id,R,rfl,hex,rfl⟩
       . simp only[G,stepG,stepG.exec]
         rw[show(Instr.endRound l none).runT P w #[]=(((Instr.endRound l none).runT P w #[]).1,((Instr.endRound l none).runT P w #[]).2)from rfl,g]
         rfl
       . simp only[G,stepG,stepG.exec]
         rw[show(Instr.endRound l (some .ret)).runT P w #[]=(((Instr.endRound l (some .ret)).runT P w #[]).1,((Instr.endRound l (some .ret)).runT P w #[]).2)from rfl,g]
         rfl
       . simp only[G,stepG,stepG.exec,hex,Option.elim]
         rw[show(Instr.endRound l (some (.exit id))).runT P w #[]=(((Instr.endRound l (some (.exit id))).runT P w #[]).1,((Instr.endRound l (some (.exit id))).runT P w #[]).2)from rfl,g]
         rfl
     . unfold Instr.endRound
       refine af (mH e.rel q λp S U=>?_)
       obtain⟨x,V,W⟩:=e.rel.1 l _ q (by simp)
       have X:∃o,x=.obj o/\iB o=false:=by
        cases W with
        |loop _ _ _ _=>exact⟨_,rfl,rfl⟩
       obtain⟨o,rfl,ho⟩:=X;exact af (s:=setObj l _) ⟨⟨o,V,ho⟩,rfl,aj ⟨rfl,rfl,e.rel.set (.loop {a' with state:=if b.isNone then .ready else .done,pending:=b} p S U)⟩⟩
   . obtain⟨hD,j,k⟩:=I
     rw[j]
     have hd:defs=[]:=by
      have:=e.ds;rw[hD]at this;cases defs with
      |nil=>rfl
      |cons _ _=>exact this.elim
     subst hd;refine T.dW (g':=G (fr.raise [⟨J,false,false⟩]) cs) rfl (λw=>?_) (hp u F J av _ i L e.rel k)
     have r:Frame.catches P ⟨a.fn,d,todo,[],.panicking [⟨J,false,false⟩],.normal,some l⟩=false:=by simp[Frame.catches,hf]
     simp only[G,stepG,unwind,r,gf];rfl
theorem Go.beginRound{l:Nat}{a:mE}(j:s.σ l=some (.loop a))(p:a.state=.ready)(h:Go P m fid n (some l) k {s with σ:=s.σ.set l (.loop {a with state:=.busy})} K):Go P m fid n (some l) (.beginRound::k) s K:=
 λQ q O tmps defs kind cs r b t=>by
 refine T.nZ (s:=(do (Option.elim (some l) (stuck  "beginRound: no round") Instr.beginRound);pure .skip)) (λw=>by simp only[G,stepG,stepG.exec]) (dQ ?_)
 simp only[Option.elim];refine af ?_;unfold Instr.beginRound;refine af (mH b.rel j λc d e=>?_);obtain⟨x,f,g⟩:=b.rel.1 l _ j (by simp)
 have i:∃o,x=.obj o/\iB o=false:=by
  cases g with
  |loop _ _ _ _=>exact⟨_,rfl,rfl⟩
 obtain⟨o,rfl,u⟩:=i;refine af (s:=setObj l _) ⟨⟨o,f,u⟩,rfl,?_⟩;simp only[p];refine aj (aj (aj λ_=>?_));exact h Q q _ tmps defs kind cs r ⟨b.size,b.env,b.rel.set (.loop {a with state:=.busy} c d e),b.ds,b.rc⟩ t
theorem jf{α:Type}{g:Program->Sem α}{w:World}{es:Array Event}:(program >>=g).runT P w es=(g P).runT P w es:=rfl
theorem wo.func{f:FuncId}{fn:Func}{cap args:List AV}{l:Md}{σ:aa}{B:Md->aa->Prop}(D:P.funcs[f]?=some fn)(hb:fn.body.isSome=true)(q:(fn.name==  "runtime.NumGoroutine")=false)
 (h:aB P m f (args++cap) σ (λr σ'=>match r with|.val _=>B l σ'|.panic _=>False)):wo P m (.func f) cap args l σ B:=λQ k O fr cs i j s a t u E F=>by
 refine .step (λn o x=>T P m Q n o x) rfl (λ_ _ _ h=>h) λw H=>?_
 have y:fn.body.isNone=false:=by cases N:fn.body<;>simp_all
 have hinv:(invoke (.fn (.func f) i.toArray) j.toArray).runT P w #[]=(.ok (.enter f (j++i).toArray) w,#[]):=by show Sem.runT P (callFunc f (j.toArray++i.toArray)) w #[]=_;unfold callFunc;rw[jf,D];simp only[q,y,Bool.false_eq_true,if_false];simp
 have b:∀C,stepG P m.main (G {fr with defers:={target:=.fn (.func f) i.toArray,args:=j.toArray}::fr.defers} cs) w=.go (G (Frame.enter P f (j++i).toArray .deferred) (fr::cs)) w #[]\/C:=λC=>by
  left;have I:fr.mode≠.run:=λe=>by rw[e]at a;cases l<;>exact a.elim
  obtain⟨J,tmps,todo,defs,mode,kind,ro⟩:=fr;cases mode with
  |run=>exact absurd rfl I
  |_=>simp only[G,stepG,unwind,callDeferred,hinv];simp;rfl
 refine⟨_,w,#[],k,O,(b False).resolve_right (λx=>x),.refl ..,H,?_⟩
 refine h Q k O (j++i) fr cs .deferred (by simp) (u.append t) E (λn o K L σ' c z p d=>?_) (λn o K L σ' c z p d=>d.elim)
 have g:lE fr=fr:=by
  unfold lE;cases A:fr.mode with
  | panicking ch=>
    rw[A]at a;cases l with
    |ret=>exact a.elim
    |PV v=>obtain⟨M,rfl,_⟩:=a;rfl
  |_=>rfl
 show T P m Q n o (G (lE fr) cs);rw[g];have:=F n o l σ' fr.mode c (a.mono c) p d;simpa using this
end
end Go.bd

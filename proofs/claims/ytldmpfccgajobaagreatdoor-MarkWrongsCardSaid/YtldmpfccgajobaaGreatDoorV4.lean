import Derived.Laws.Sem
import Derived.Test.YtldmpfccgajobaaGreatDoorV3
set_option linter.all false
namespace Go.bG
open Go.Conc
theorem v2(off:Nat):∀(l:List Value) (s:Nat) (c:Array Value),off+s+l.length<=c.size ->
 ((l.zipIdx s).foldl (λcs (x:Value × Nat)=>cs.setIfInBounds (off+x.2) x.1) c).size=c.size/\
 ∀j:Nat,((l.zipIdx s).foldl (λcs (x:Value × Nat)=>cs.setIfInBounds (off+x.2) x.1) c)[j]?=if off+s<=j/\j<off+s+l.length then l[j-(off+s)]? else c[j]?
 | [],s,c,_=>⟨rfl,λj=>by
   have:¬(off+s<=j/\j<off+s+([]:List Value).length):=by simp
   rw[if_neg this];rfl⟩
 | v ::l,s,c,h=>by
   simp only[List.length_cons]at h;obtain⟨e,f⟩:=v2 off l (s+1) (c.setIfInBounds (off+s) v) (by simp;omega);simp only[List.zipIdx_cons,List.foldl_cons];refine⟨by rw[e];simp,λj=>?_⟩;rw[f j];by_cases b:j=off+s
   . subst b
     have a:off+s<c.size:=by omega
     rw[if_neg (by omega),if_pos (by simp)];simp[a]
   . rw[Array.getElem?_setIfInBounds_ne (Ne.symm b)]
     by_cases d:off+(s+1)<=j/\j<off+(s+1)+l.length
     . rw[if_pos d,if_pos (by simp;omega),show j-(off+s)=(j-(off+(s+1)))+1 by omega,List.getElem?_cons_succ]
     . rw[if_neg d,if_neg (by simp;omega)]
def lq(place:Nat->Option (Nat × Nat))(l:List AV):List (Nat × AV)->Option (List AV)
 |[]=>some l
 | (i,a)::rest=>match place i with
   |none=>none
   |some (off,size)=>if a.cells.length=size/\off+size<=l.length/\a.cells.all AV.flat=true then lq place (aJ l off a.cells) rest else none
def pq(k:ag)(c:Array Value)(l:List AV):Prop:=c.size=l.length/\(∀(i:Nat) v a,c[i]?=some v->l[i]?=some a->V k v a)/\∀(i:Nat) v,c[i]?=some v->bG.flat v=true
theorem xw{k:ag}{place:Nat->Option (Nat × Nat)}:∀(m:List (Nat × Value)) (n:List (Nat × AV)) (c:Array Value) (l o:List AV),m.length=n.length->(∀(i:Nat) p q,m[i]?=some p->n[i]?=some q->p.1=q.1/\V k p.2 q.2) ->
 pq k c l->lq place l n=some o->∃c',Instr.fill place c m=some c'/\pq k c' o
 |[],[],c,l,o,_,_,g,h=>by simp only[lq,Option.some.injEq]at h;subst h;exact⟨c,rfl,g⟩
 | (i, v) :: m,(F,a)::n,c,l,o,r,B,g,h=>by
   obtain⟨C,s⟩:=B 0 (i,v) (F,a) rfl rfl;simp only at C s;subst C;unfold lq at h;unfold Instr.fill;cases y:place i with
   |none=>rw[y]at h;cases h
   | some os=>
     obtain⟨off,size⟩:=os;rw[y]at h;simp only at h ⊢;split at h
     . next e=>
       obtain⟨D,G,H⟩:=e;obtain⟨z,I,J⟩:=s.cells H;have A:off+v.cells.size<=c.size:=by rw[z,D,g.1];exact G
       have t:¬((decide (v.cells.size≠size)||decide (off+v.cells.size>c.size))=true):=by simp;exact⟨by rw[z,D],by omega⟩
       rw[if_neg t];have b:=v2 off v.cells.toList 0 c (by simpa using A)
       have f:(v.cells.zipIdx.foldl (λcs (x:Value × Nat)=>match x with|(c,j)=>cs.setIfInBounds (off+j) c) c)=((v.cells.toList.zipIdx 0).foldl (λcs (x:Value × Nat)=>cs.setIfInBounds (off+x.2) x.1) c):=by rw[<-Array.foldl_toList,Array.toList_zipIdx]
       rw[f];refine xw m n _ (aJ l off a.cells) o (by simpa using r) (λj p q y K=>B (j+1) p q (by simpa using y) (by simpa using K)) ⟨?_,?_,?_⟩ h
       . rw[b.1,kM (by omega)];exact g.1
       . intro j u x d w
         rw[b.2]at d;rw[ti (by omega)]at w
         simp only[Nat.add_zero,Array.length_toList,z]at d
         by_cases E:off<=j/\j<off+a.cells.length
         . rw[if_pos E]at d w
           exact I _ u x (by simpa using d) w
         . rw[if_neg E]at d w
           exact g.2.1 j u x d w
       . intro j u d
         rw[b.2]at d;split at d
         . exact J _ u (by simpa using d)
         . exact g.2.2 j u d
     . cases h
 |[],_::_,_,_,_,r,_,_,_=>by simp at r
 |_::_,[],_,_,_,r,_,_,_=>by simp at r
theorem v3{k:ag}{ρ:Operand->Value}{env:Env}{parts:Array (Nat × Operand)}(h:∀p∈parts,V k (ρ p.2) (am env p.2)):
 (parts.map λ(i,x)=>(i,ρ x)).toList.length=(parts.toList.map λp=>(p.1,am env p.2)).length/\
 ∀(i:Nat) p q,(parts.map λ(i,x)=>(i,ρ x)).toList[i]?=some p->(parts.toList.map λp=>(p.1,am env p.2))[i]?=some q->p.1=q.1/\V k p.2 q.2:=by
 refine⟨by simp,λi p q a b=>?_⟩;simp only[Array.getElem?_toList,Array.getElem?_map,List.getElem?_map]at a b;cases c:parts[i]? with
 |none=>rw[c]at a;cases a
 |some x=>rw[c]at a b;simp at a b;subst a;subst b;exact⟨rfl,h x (Array.mem_of_getElem? c)⟩
section
variable{P:Program}(L:jg P){o:Oper}{env:Env}{σ:aa}{K:AV->aa->Prop}{Kp:AV->aa->Prop}
theorem tv{k:ag}{O:ah}{Kp:Value->ag->ah->Prop}:∀(fs:List Field) (a:List (Nat × Nat × Nat)) (K:List (Nat × Nat)->ag->ah->Prop),
 (fs.map λf=>(f.offset,(P.info? f.type).map (·.size),f.type))=(a.map λx=>(x.1,some x.2.1,x.2.2))->K (a.map λx=>(x.1,x.2.1)) k O ->
 dM P (fs.mapM λf=>(do pure (f.offset,<-sizeOf f.type):Sem (Nat × Nat))) k O K Kp
 |[],[],K,_,b=>ai b
 |f::fs,x::a,K,h,b=>by simp only[List.map_cons,List.cons.injEq,Prod.mk.injEq]at h;obtain⟨⟨c,d,_⟩,e⟩:=h;obtain⟨info,g,i⟩:=Option.map_eq_some_iff.1 d;rw[List.mapM_cons];refine af (af (rp g (ai ?_)));refine af (tv fs a _ e (ai ?_));rw[c,i];exact b
 |[],_::_,_,h,_=>by simp at h
 |_::_,[],_,h,_=>by simp at h
theorem pr{i:TI}{d:TypeDesc}(h:cO P i d=true)(a:i.kind=.struct):∃fs,d=.struct fs/\(fs.toList.map λf=>(f.offset,(P.info? f.type).map (·.size),f.type))=(i.gQ.map λx=>(x.1,some x.2.1,x.2.2)):=by
 cases d with
 |struct fs=>simp only[cO,Bool.and_eq_true,beq_iff_eq]at h;exact⟨fs,rfl,h.2⟩
 |_=>simp[cO,a]at h
theorem xx{k:ag}{z:Value}(h:(kN z).cells.all AV.flat=true):pq k z.cells (kN z).cells:=(V.kN k z).cells h
theorem yP{t:Nat}{parts:Array (Nat × Operand)}{i:TI}{l:List AV}(f:o.op=.build t parts)(g:L.tt t=some i)(h:i.kind=.struct)(m:(kN i.zero).cells.all AV.flat=true)
 (n:lq (λj=>(i.gQ[j]?).map λx=>(x.1,x.2.1)) (kN i.zero).cells (parts.toList.map λp=>(p.1,am env p.2))=some l) (q:K (.agg l) σ):aE P o env σ K Kp:=
 aE.val (s:=λρ=>Instr.build t (parts.map λ(i,x)=>(i,ρ x))) (λρ=>by simp[execOp,f]) λk O ρ r u=>by
  obtain⟨v,c⟩:=v3 (k:=k) (ρ:=ρ) (env:=env) (parts:=parts) λp c=>r p.2 (by simp[f,Op.operands];exact⟨p.1,c⟩)
  obtain⟨y,w,b⟩:=xw _ _ i.zero.cells _ l v c (xx m) n;unfold Instr.build;refine af (cB L g (af (az L g λd _ hd=>?_)))
  obtain⟨fs,rfl,e⟩:=pr hd h;dsimp only;refine af ?_;rw[Array.mapM_eq_mapM_toList,map_eq_pure_bind];refine af (tv fs.toList i.gQ _ e (ai ?_))
  have a:(λj:Nat=>((i.gQ.map λx=>(x.1,x.2.1)).toArray[j]?:Option (Nat × Nat)))=λj=>(i.gQ[j]?).map λx=>(x.1,x.2.1):=by funext j;simp
  rw[a,w];exact ai (.here ⟨.refl k,.agg l,σ,.agg _ _ b.1 b.2.1,u,q⟩)
theorem vy{t len e:Nat}{parts:Array (Nat × Operand)}{it b:TI}{es:List AV}(X:o.op=.buildSlice t len parts)(ht:L.tt t=some it)(hk:it.kind=.slice e)(Y:L.tt e=some b)(H:len*b.size<=16777216)
 (hz:(kN b.zero).cells.all AV.flat=true) (n:len*b.size=0\/(kN b.zero).cells.length=b.size) (u:es.length=len/\∀e∈es,e.cells.length=b.size)
 (hf:lq (λj=>some (j*b.size,b.size)) ((List.range (len*b.size)).map λj=>(kN b.zero).cells.getD (j % (kN b.zero).cells.length) .bz) (parts.toList.map λp=>(p.1,am env p.2))=some (flatten es)) (hK:K (.sl b.size es .exact) σ):aE P o env σ K Kp:=
 aE.val (s:=λρ=>Instr.buildSlice t len (parts.map λ(i,x)=>(i,ρ x))) (λρ=>by simp[execOp,X]) λk O ρ hv hr=>by
  obtain⟨hl,M⟩:=v3 (k:=k) (ρ:=ρ) (env:=env) (parts:=parts) λp M=>hv p.2 (by simp[X,Op.operands];exact⟨p.1,M⟩)
  have l:=xx (k:=k) hz;unfold Instr.buildSlice;refine af (az L ht λd _ hd=>?_)
  rw[bv hd hk];dsimp only;refine af (bH L Y ?_);rw[if_neg (by omega)]
  have fin:∀(z:Array Value),(len*b.size=0\/z=b.zero.cells)->dM P (do
   let some cells:=Instr.fill (λi=>some (i*b.size,b.size)) ((Array.range (len*b.size)).map (z[· % z.size]!)) (parts.map λ(i,x)=>(i,ρ x)).toList|stuck  "buildSlice: a part of the wrong size"
   pure (.slice (some (<-newRow e cells)) len len):Sem Value) k O (λv C I=>lh C I λD N=>k.Le D/\∃a f,V D v a/\Rel D N f/\K a f) (λv C I=>k.Le C/\∃a f,V C v a/\Rel C I f/\Kp a f):=by
   intro z E
   have Q:pq k ((Array.range (len*b.size)).map (z[· % z.size]!)) ((List.range (len*b.size)).map λj=>(kN b.zero).cells.getD (j % (kN b.zero).cells.length) .bz):=by
    refine⟨by simp,λj v a w Z=>?_,λj v w=>?_⟩
    . have m:j<len*b.size:=by simpa using(Array.getElem?_eq_some_iff.1 w).1
      rcases E with F|rfl
      . omega
      . have R:(kN b.zero).cells.length≠0:=by
         rcases n with h|h
         . omega
         . rw[h];intro q;rw[q]at m;simp at m
        have y:j % (kN b.zero).cells.length<(kN b.zero).cells.length:=Nat.mod_lt _ (by omega)
        simp only[Array.getElem?_map,Array.getElem?_range,m,if_true,Option.map_some,Option.some.injEq,List.getElem?_map,List.getElem?_range]at w Z;have e1:=l.1;subst w;subst Z;refine l.2.1 (j % (kN b.zero).cells.length) _ _ ?_ ?_
        . rw[<-e1];rw[<-e1]at y
          rw[getElem!_pos b.zero.cells _ y];simp[y]
        . simp[List.getD_eq_getElem?_getD,y]
    . have m:j<len*b.size:=by simpa using(Array.getElem?_eq_some_iff.1 w).1
      rcases E with F|rfl
      . omega
      . have R:(kN b.zero).cells.length≠0:=by
         rcases n with h|h
         . omega
         . rw[h];intro q;rw[q]at m;simp at m
        have y:j % b.zero.cells.size<b.zero.cells.size:=by rw[l.1];exact Nat.mod_lt _ (by omega)
        simp only[Array.getElem?_map,Array.getElem?_range,m,if_true,Option.map_some,Option.some.injEq]at w;subst w;refine l.2.2 (j % b.zero.cells.size) _ ?_;rw[getElem!_pos b.zero.cells _ y];simp[y]
   obtain⟨J,hc,c⟩:=xw _ _ _ _ _ hl M Q hf;rw[hc];dsimp only;refine af (ll λr C I hn S=>ai ?_)
   obtain⟨D,N,g,G,A,T,U⟩:=S;refine⟨D,N,g,G,.sl b.size es .exact,σ,?_,U σ hr,hK⟩;have W:=ba u.2;rw[show len=es.length from u.1.symm]
   refine V.ofRow (Nat.le_refl _) T (by rw[c.1,W];omega) u.2 (λj a ha=>?_) rfl
   have m:j<J.size:=by rw[c.1];exact(List.getElem?_eq_some_iff.1 ha).1
   have B:J[j]?=some J[j]:=by simp[m]
   exact⟨J[j],by rw[Nat.zero_add];exact A j _ B,(c.2.1 j _ a B ha).mono G,c.2.2 j _ B⟩
  by_cases F:len*b.size=0
  . rw[if_pos F]
    exact af (ai (fin #[] (.inl F)))
  . rw[if_neg F]
    exact af (cB L Y (af (ai (fin _ (.inr rfl)))))
end
inductive Md where
 |ret
 |Lq (v:AV)
def tw(k:ag):FrameMode->Md->Prop
 |.returning,.ret=>True
 |.panicking c,.Lq v=>∃a,c=[⟨a,false,false⟩]/\V k a v
 |_,_=>False
theorem tw.mono{k k':ag}(b:k.Le k'){fm:FrameMode}{a:Md}(h:tw k fm a):tw k' fm a:=by
 cases fm<;>cases a<;>simp only[tw]at h ⊢;obtain⟨c,d,e⟩:=h;exact⟨c,d,e.mono b⟩
def tx(P:Program)(m:Mo)(f:Fn)(cap args:List AV)(i:Md)(σ:aa)(j:Md->aa->Prop):Prop:=
 ∀ Q k O (fr:Frame) cs e g,fr.kind≠.early->tw k fr.mode i->Vs k e cap->Vs k g args->Rel k O σ ->
   (∀d h b c a,k.Le d->tw d a b->Rel d h c->j b c->T P m Q d h (G {fr with mode:=a} cs)) ->
   T P m Q k O (G {fr with defers:={target:=.fn f e.toArray,args:=g.toArray}::fr.defers} cs)
def xy{P:Program}(L:jg P)(env:Env)(σ:aa):ResultVar->Option AV
 |.tmp t=>some (env t)
 |.cell a t=>match L.tt t with|some i=>mH i σ (env a)|none=>none
def dN{P:Program}(L:jg P)(env:Env)(σ:aa):List ResultVar->Option (List AV)
 |[]=>some []
 |r::rs=>match xy L env σ r,dN L env σ rs with|some a,some l=>some (a::l)|_,_=>none
def oneOf:List AV->AV
 |[a]=>a
 |l=>.cq l
def ResultVar.ok(n:Nat):ResultVar->Bool
 |.tmp t=>t<n
 |.cell a _=>a<n
def I9{P:Program}(L:jg P)(m:Mo)(rs:List ResultVar)(env:Env)(a:eI->aa->Prop):List kL->Md->aa->Prop
 |[],.ret,σ=>∃l,dN L env σ rs=some l/\a (.val (oneOf l)) σ
 |[],.Lq v,σ=>a (.panic v) σ
 |.mark r::D,b,σ=>σ r=some (.raw (.deferred (some [])))/\I9 L m rs env a D b (σ.set r (.raw (.deferred none)))
 |.call f cap args::D,b,σ=>tx P m f cap args b σ λc d=>I9 L m rs env a D c d
section
variable{P:Program}(L:jg P){m:Mo}{f:FuncId}{fn:Func}
theorem yQ{α β:Type}{k:ag}{O:ah}{Kp:Value->ag->ah->Prop}(g:α->Sem β):∀(l:List α) (K:List β->ag->ah->Prop) (R:α->β->Prop),
 (∀x∈l,∀(f:β->ag->ah->Prop),(∀y,R x y->f y k O)->dM P (g x) k O f Kp)->(∀r:List β,r.length=l.length->(∀(i:Nat) x y,l[i]?=some x->r[i]?=some y->R x y)->K r k O)->dM P (l.mapM g) k O K Kp
 |[],K,R,_,h=>ai (h [] rfl (λi x y m=>by simp at m))
 | x::l,K,R,j,h=>by
   rw[List.mapM_cons];refine af (j x (by simp) _ λy n=>?_);refine af (yQ g l _ R (λz o=>j z (by simp[o])) λr c d=>?_);refine ai (h (y::r) (by simp[c]) λi a b e hb=>?_);cases i with
   |zero=>simp at e hb;subst e;subst hb;exact n
   |succ i=>exact d i a b (by simpa using e) (by simpa using hb)
theorem pu{env:Env}{σ:aa}:∀{rs:List ResultVar}{l:List AV},dN L env σ rs=some l->l.length=rs.length/\∀(i:Nat) r a,rs[i]?=some r->l[i]?=some a->xy L env σ r=some a
 |[],l,h=>by simp only[dN,Option.some.injEq]at h;subst h;exact⟨rfl,λi r a h=>by simp at h⟩
 | r :: rs,l,h=>by
   unfold dN at h;cases c:xy L env σ r with
   |none=>rw[c]at h;cases h
   | some a=>
     cases d:dN L env σ rs with
     |none=>rw[c,d]at h;cases h
     | some j=>
       rw[c,d]at h;simp only[Option.some.injEq]at h;subst h;obtain⟨f,g⟩:=pu d;refine⟨by simp[f],λi x b e hb=>?_⟩;cases i with
       |zero=>simp at e hb;subst e;subst hb;exact c
       |succ i=>exact g i x b (by simpa using e) (by simpa using hb)
theorem yR{k:ag}{O:ah}{Kp:Value->ag->ah->Prop}{K:Value->ag->ah->Prop}{tmps:Array Value}{env:Env}{σ:aa}{l:List AV}(D:dY k tmps env)(E:fn.results.all (ResultVar.ok tmps.size)=true)(J:Rel k O σ)
 (M:dN L env σ fn.results.toList=some l) (N:∀v,V k v (oneOf l)->K v k O):dM P (results fn tmps) k O K Kp:=by
 obtain⟨F,G⟩:=pu L M;unfold results;refine af ?_;rw[Array.mapM_eq_mapM_toList,map_eq_pure_bind]
 have y:∀r∈fn.results.toList,ResultVar.ok tmps.size r=true:=λr h=>by simp only[Array.all_eq_true_iff_forall_mem]at E;exact E r (by simpa using h)
 refine af (yQ _ fn.results.toList _ (λr v=>∀a,xy L env σ r=some a->V k v a) (λr n Q o=>?_) λvs p z=>ai ?_)
 . have f:=y r n
   cases r with
   |tmp t=>exact ai (o _ λa g=>by simp only[xy,Option.some.injEq]at g;subst g;exact D t (by simpa[ResultVar.ok]using f))
   | cell a t=>
     obtain⟨j,H,A⟩:=List.mem_iff_getElem.1 n;have B:j<l.length:=by rw[F];exact H
     have c:=G j _ l[j] (List.getElem?_eq_getElem H) (by simp[B])
     rw[A]at c;simp only[xy]at c;cases x:L.tt t with
     |none=>rw[x]at c;cases c
     | some i=>
       rw[x]at c;simp only at c;have C:=D a (by simpa[ResultVar.ok]using f)
       obtain⟨S,e⟩:=C.FQ (vY c);rw[e]at C;obtain⟨b,base,off,row,rfl,q,R⟩:=yI J C c;show dM P (do loadVar t (<-asAddr (tmps.getD a undef))) k O Q Kp;rw[e];refine af (ai (rm L q x R λv m=>o v λT s=>?_))
       simp only[xy,x,c,Option.some.injEq]at s;subst s;exact m
 . refine ai (N _ ?_)
   have d:∀(i:Nat) v a,vs[i]?=some v->l[i]?=some a->V k v a:=λi v a m g=>by
    have I:i<fn.results.toList.length:=by rw[<-p];exact(List.getElem?_eq_some_iff.1 m).1
    exact z i _ v (List.getElem?_eq_getElem I) m a (G i _ a (List.getElem?_eq_getElem I) g)
   have hlen:vs.length=l.length:=by rw[p,F]
   by_cases w:vs.toArray.size=1
   . rw[dif_pos w]
     match l,vs,hlen,d with
     |[a],[v],_,d=>exact d 0 v a rfl rfl
     |[],[],_,_=>simp at w
     |a::b::l,u::v::vs,_,_=>simp at w
   . rw[dif_neg w]
     match l,vs,hlen,d with
     |[],[],_,d=>exact .cq _ _ rfl (λi v a h=>by simp at h)
     |[a],[v],_,d=>simp at w
     |a::b::l,u::v::vs,hlen,d=>exact .cq _ _ (by simpa using hlen) (λi v a m g=>d i v a (by simpa using m) g)
theorem T.yS{α:Type}{Q:ag->ah->Goroutine->Prop}{k:ag}{O:ah}{g:Goroutine}{s:Sem α}{fid:FuncId}(f:g.status=.running){K:α->ag->ah->Prop}{nxt:α->World->GStep}(b:∀a k' O' w',k.Le k'->Sat k' O' w'->K a k' O'->∃g',nxt a w'=.go g' w' #[]/\T P m Q k' O' g')
 (i:∀w a w',(s.runT P w #[]).1=.ok a w'->stepG P m.main g w=GStep.after (seen P fid (s.runT P w #[]).2) (nxt a w')) (h:dM P s k O K (λ_ _ _=>False)):T P m Q k O g:=
 .step (λk' O' x=>T P m Q k' O' x) f (λ_ _ _ h=>h) λw j=>by
  obtain⟨k',O',w',l,c,d,n,o⟩:=qA s #[] h j;rcases o with⟨a,p,q⟩|⟨v,_,r⟩
  . obtain⟨g',t,u⟩:=b a k' O' w' c.le d q
    refine⟨g',w',seen P fid (s.runT P w #[]).2,k',O',?_,c.sub (λe y=>?_),d,u⟩
    . rw[i w a w' p,t];simp[GStep.after]
    . have:=tg (by simpa using y:e∈seen P fid (s.runT P w #[]).2)
      rw[<-Array.mem_toList_iff,n]at this;simpa using this
  . exact r.elim
theorem yT{Q:ag->ah->Goroutine->Prop}{R:eI->aa->Prop}{n:Nat}{kind:CallKind}{c:Frame}{rest:List Frame}(hf:P.funcs[f]?=some fn)(C:fn.results.all (ResultVar.ok n)=true)(b:kind≠.early){env:Env}:
 ∀ (D:List kL) (j:Md) (σ:aa) (k:ag) (O:ah) (tmps:Array Value) (todo:List Item) (defs:List Deferred) (fm:FrameMode),tmps.size=n->dY k tmps env->Rel k O σ->vW k defs D->tw k fm j->I9 L m fn.results.toList env R D j σ ->
   (∀k' O' o E σ',k.Le k'->V k' o E->Rel k' O' σ'->R (.val E) σ'->T P m Q k' O' (jj kind c rest o)) ->
   (∀k' O' o E σ',k.Le k'->V k' o E->Rel k' O' σ'->R (.panic E) σ'->T P m Q k' O' (G (c.raise [⟨o,false,false⟩]) rest)) ->
   T P m Q k O (G ⟨f,tmps,todo,defs,fm,kind,none⟩ (c::rest)):=by
 intro D
 induction D with
 | nil =>
   intro j σ k O tmps todo defs fm p M u hd a F B N;cases defs with
   |cons _ _=>exact hd.elim
   | nil =>
     cases fm with
     |run=>cases j<;>exact a.elim
     | returning=>
       cases j with
       |Lq v=>exact a.elim
       | ret=>
         obtain⟨l,hl,hK⟩:=F;refine T.yS (fid:=f) (s:=results fn tmps) rfl (K:=λv k' O'=>k'=k/\O'=O/\V k v (oneOf l)) (nxt:=λv w=>doReturn P m.main ⟨f,tmps,todo,[],.returning,kind,none⟩ (c::rest) none v w) ?_ ?_ ?_
         . rintro v k' O' S _ _ ⟨rfl,rfl,U⟩
           have ht:=B k' O' v _ σ (.refl _) U u hK;cases kind<;>first|exact absurd rfl b|exact⟨_,rfl,ht⟩
         . intro w v S i
           simp only[G,stepG,unwind,hf];rw[show(results fn tmps).runT P w #[]=(((results fn tmps).runT P w #[]).1,((results fn tmps).runT P w #[]).2)from rfl,i]
         . exact yR L M (by rw[p];exact C) u hl λv B=>⟨rfl,rfl,B⟩
     | panicking ch=>
       cases j with
       |ret=>exact a.elim
       | Lq v=>
         obtain⟨o,rfl,W⟩:=a;refine T.dc (g':=G (c.raise [⟨o,false,false⟩]) rest) rfl (λw=>?_) (N k O o v σ (.refl _) W u F)
         have H:Frame.catches P ⟨f,tmps,todo,[],.panicking [⟨o,false,false⟩],kind,none⟩=false:=by simp[Frame.catches,hf]
         simp only[G,stepG,unwind,H];rfl
 | cons d D ih=>
   intro j σ k O tmps todo defs fm p M u hd a F B N;cases defs with
   |nil=>exact hd.elim
   | cons df defs=>
     obtain⟨q,I⟩:=hd;have y:fm≠.run:=λe=>by subst e;cases j<;>exact a.elim
     cases d with
     | mark r=>
       obtain⟨h1,h2⟩:=F;have q:df={target:=.collected r,args:=#[]}:=q;subst q;refine T.yS (fid:=f) (s:=Instr.takeDeferred r) rfl (K:=λcalls k' O'=>calls=[]/\k'=k/\Rel k O' (σ.set r (.raw (.deferred none)))) (nxt:=λcalls w=>.go (G ⟨f,tmps,todo,calls++defs,fm,kind,none⟩ (c::rest)) w) ?_ ?_ ?_
       . rintro calls k' O' S _ _ ⟨rfl,rfl,z⟩
         exact⟨_,rfl,ih j _ k' O' tmps todo defs fm p M z I a h2 B N⟩
       . intro w v S i
         cases fm with
         |run=>exact absurd rfl y
         |_=>simp only[G,stepG,unwind];rw[show(Instr.takeDeferred r).runT P w #[]=(((Instr.takeDeferred r).runT P w #[]).1,((Instr.takeDeferred r).runT P w #[]).2)from rfl,i]
       . obtain⟨x,hx,X⟩:=u.1 r _ h1 (by simp)
         cases X with
         |raw _ hc=>unfold Instr.takeDeferred;refine af (s:=getObj r) ⟨_,hx,rfl,?_⟩;refine af (s:=setObj r _) ⟨⟨_,hx,rfl⟩,rfl,ai ⟨rfl,rfl,?_⟩⟩;exact u.set (.raw _ rfl)
     | call g cap args=>
       obtain⟨cc,ca,rfl,Y,Z⟩:=q
       have:=F Q k O ⟨f,tmps,todo,defs,fm,kind,none⟩ (c::rest) cc.toList ca.toList b a Y Z u λk' O' a7 σ' A t J z a8=>ih a7 σ' k' O' tmps todo defs A p (M.mono t) z (I.mono t) J a8 (λ_ _ _ _ _ h=>B _ _ _ _ _ (t.trans h)) (λ_ _ _ _ _ h=>N _ _ _ _ _ (t.trans h))
       simpa using this
def cX(args:List AV):Env:=λt=>args.getD t .bz
theorem qB{k:ag}{cargs:List Value}{args:List AV}(h:Vs k cargs args)(n:Nat):dY k (cargs.toArray++Array.replicate n undef) (cX args):=λt d=>by
 by_cases a:t<cargs.length
 . have b:t<args.length:=by rw[<-h.1];exact a
   have:(cargs.toArray++Array.replicate n undef).getD t undef=cargs[t]:=by
    simp only[Array.getD_eq_getD_getElem?];rw[Array.getElem?_append_left (by simpa using a)];simp[a]
   rw[this];have c:cX args t=args[t]:=by simp[cX,List.getD_eq_getElem?_getD,b]
   rw[c];exact h.2 t _ _ (by simp[a]) (by simp[b])
 . have:cX args t=.bz:=by
    unfold cX;rw[List.getD_eq_getElem?_getD,List.getElem?_eq_none (by rw[<-h.1];omega)];rfl
   rw[this];exact .bz _
def Mr{P:Program}(L:jg P)(m:Mo)(rs:List ResultVar)(a:eI->aa->Prop):Exit->St->Prop
 |.leave none,s=>s.rc=.no/\I9 L m rs s.env a s.D .ret s.σ
 |.leave (some .ret),s=>s.rc=.no/\I9 L m rs s.env a s.D .ret s.σ
 |.leave _,_=>False
 |.panic v,s=>s.rc=.no/\I9 L m rs s.env a s.D (.Lq v) s.σ
theorem Jj{Q:ag->ah->Goroutine->Prop}{j:eI->aa->Prop}{n:Nat}{kind:CallKind}{c:Frame}{rest:List Frame}(hf:P.funcs[f]?=some fn)(b:fn.results.all (ResultVar.ok n)=true)(a:kind≠.early){k:ag}
 (q:∀k' O' e g σ',k.Le k'->V k' e g->Rel k' O' σ'->j (.val g) σ'->T P m Q k' O' (jj kind c rest e))
 (r:∀k' O' e g σ',k.Le k'->V k' e g->Rel k' O' σ'->j (.panic g) σ'->T P m Q k' O' (G (c.raise [⟨e,false,false⟩]) rest)):
 xn P m Q f n none kind (c::rest) (Mr L m fn.results.toList j) k where
 leave k' O' tmps defs s todo d hle hs t i:=by
  have key:s.rc=.no/\I9 L m fn.results.toList s.env j s.D .ret s.σ/\(d=none\/d=some .ret):=by
   rcases t with⟨_,rfl⟩|⟨_,_,rfl⟩|⟨_,_,_,_,rfl⟩
   . exact⟨i.1,i.2,.inl rfl⟩
   . exact⟨i.1,i.2,.inr rfl⟩
   . exact i.elim
  obtain⟨l,o,u⟩:=key;rw[l];refine T.dc (g':=G ⟨f,tmps,todo,defs,.returning,kind,none⟩ (c::rest)) rfl (λw=>?_) ?_
  . rcases t with⟨rfl,rfl⟩|⟨v,rfl,rfl⟩|⟨_,_,_,_,rfl⟩
    . simp[G,stepG,stepG.exec,eX]
    . simp[G,stepG,stepG.exec,eX]
    . simp at u
  . exact yT L hf b a s.D .ret s.σ k' O' tmps todo defs .returning hs.size hs.env hs.rel hs.ds trivial o (λ_ _ _ _ _ h=>q _ _ _ _ _ (hle.trans h)) (λ_ _ _ _ _ h=>r _ _ _ _ _ (hle.trans h))
 panic k' O' tmps defs s todo e g hle hs p i:=by obtain⟨l,o⟩:=i;rw[l];exact yT L hf b a s.D (.Lq g) s.σ k' O' tmps todo defs _ hs.size hs.env hs.rel hs.ds ⟨e,rfl,p⟩ o (λ_ _ _ _ _ h=>q _ _ _ _ _ (hle.trans h)) (λ_ _ _ _ _ h=>r _ _ _ _ _ (hle.trans h))
theorem ar.intro{args:List AV}{σ:aa}{j:eI->aa->Prop}{body:Code}(l:P.funcs[f]?=some fn)(hb:fn.body=some body)(q:args.length<=fn.ntmps)(g:fn.results.all (ResultVar.ok fn.ntmps)=true)
 (h:Go P m f fn.ntmps none [.code body] ⟨cX args,σ,[],.no⟩ (Mr L m fn.results.toList j)):ar P m f args σ j:=λQ k O a c rest kind b d n o p=>by
 have i:(a.toArray++Array.replicate (fn.ntmps-a.length) undef).size=fn.ntmps:=by simp;rw[d.1];omega
 have e:Frame.enter P f a.toArray kind=⟨f,a.toArray++Array.replicate (fn.ntmps-a.length) undef,[.code body],[],.run,kind,none⟩:=by simp[Frame.enter,l,hb]
 rw[e];exact h Q k O _ [] kind (c::rest) b ⟨i,qB d _,n,trivial,trivial⟩ (Jj L l g b o p)
def Ws:List AV->List AV->Prop
 |[],[]=>True
 |a::l,b::r=>a.W b/\Ws l r
 |_,_=>False
theorem Ws.vs{k:ag}:∀{c:List Value}{l e:List AV},Ws l e->Vs k c l->Vs k c e
 |[],[],[],_,_=>.nil
 |v::c,a::l,b::r,h,d=>.cons (h.1 k v (d.2 0 v a rfl rfl)) (Ws.vs h.2 ⟨by simpa using d.1,λi x y f g=>d.2 (i+1) x y (by simpa using f) (by simpa using g)⟩)
 |_,[],_::_,h,_=>h.elim
 |_,_::_,[],h,_=>h.elim
 |[],_::_,_,_,d=>by simp[Vs]at d
 |_::_,[],_,_,d=>by simp[Vs]at d
theorem dl.func{first cap args:List AV}{σ:aa}{w:eI->aa->Prop}(x:P.funcs[f]?=some fn)(hb:fn.body.isSome=true)(p:(fn.name==  "runtime.NumGoroutine")=false)(h:ar P m f (first++args++cap) σ w):
 dl P m (.fn (.func f) first cap) args σ w:=λQ k O cf b fr cs q d y r s g j z=>by
 cases q with
 | fn _ n o E F A B C D=>
   refine dZ ?_;simp only[Deferred.ofValue];refine af (ai ?_);simp only[invoke,callFunc];refine af (bI ?_);rw[x];have t:fn.body.isNone=false:=by cases G:fn.body<;>simp_all
   simp only[p,t,Bool.false_eq_true,if_false];refine ai λ_=>⟨g,?_⟩
   have e:n++b.toArray++o=(n.toList++b++o.toList).toArray:=by simp
   rw[e];exact h Q k O (n.toList++b++o.toList) fr cs .normal (by simp) (Vs.append (Vs.append (c:=n.toList) (l:=first) ⟨by simpa using A,λi v a j u=>B i v a (by simpa using j) u⟩ d) (c':=o.toList) ⟨by simpa using C,λi v a j u=>D i v a (by simpa using j) u⟩) y j z
theorem dl.mono{g:AV}{args:List AV}{σ:aa}{i f:eI->aa->Prop}(h:dl P m g args σ i)(j:∀r σ,i r σ->f r σ):dl P m g args σ f:=λQ k O cf e fr cs l n o p q s t u=>h Q k O cf e fr cs l n o p q s (λ_ _ _ _ _ a b c d=>t _ _ _ _ _ a b c (j _ _ d)) (λ_ _ _ _ _ a b c d=>u _ _ _ _ _ a b c (j _ _ d))
theorem dl.weaken{b:AV}{args args':List AV}{σ:aa}{c:eI->aa->Prop}(h:dl P m b args' σ c)(d:Ws args args'):dl P m b args σ c:=λQ k O cf a fr cs e f g i j l n o=>h Q k O cf a fr cs e (d.vs f) g i j l n o
end
section
variable{P:Program}{m:Mo}{fid n:Nat}{ro:Option Nat}{s:St}{K:Exit->St->Prop}{k:List Item}
theorem Go.call{ops:Array Oper}{i:Nat}{rest:List Nat}{o:Oper}{fo:Operand}{args:Array Operand}{B:Array TypeId}(G:ops[i]?=some o)(g:o.op=.call ⟨.value fo,args,B⟩)(M:bK ops n s.env o)(y:Oper.ok n o=true)
 (h:dl P m (am s.env fo) (args.toList.map (am s.env)) s.σ (λr σ'=>match r with
   |.val a=>Go P m fid n ro (.inRegion ops rest::k) {s with env:=aV s.env o.dst a,σ:=σ'} K
   |.panic v=>K (.panic v) {s with σ:=σ'})):
 Go P m fid n ro (.inRegion ops (i::rest)::k) s K:=λQ kk O tmps defs kind cs H f I=>by
 refine T.nC (λw=>dw G (gk f.size f.env M) (.inr λc e=>by rw[g]at e;cases e) w) ?_
 have p:∀x∈o.op.operands,V kk (Frame.eval ⟨fid,tmps,.inRegion ops (i::rest)::k,defs,.run,kind,ro⟩ x) (am s.env x):=λx z=>by refine V.eval f.env f.size x ?_;simp only[Oper.ok,Bool.and_eq_true,Array.all_eq_true_iff_forall_mem]at y;exact y.1 x z
 have e:execOp (Frame.eval ⟨fid,tmps,.inRegion ops (i::rest)::k,defs,.run,kind,ro⟩) o=(do let d <-Deferred.ofValue (Frame.eval ⟨fid,tmps,.inRegion ops (i::rest)::k,defs,.run,kind,ro⟩ fo) ((args.toList.map (Frame.eval ⟨fid,tmps,.inRegion ops (i::rest)::k,defs,.run,kind,ro⟩)).toArray);invoke d.target d.args):=by
  have N:(args.toList.map (Frame.eval ⟨fid,tmps,.inRegion ops (i::rest)::k,defs,.run,kind,ro⟩)).toArray=args.map (Frame.eval ⟨fid,tmps,.inRegion ops (i::rest)::k,defs,.run,kind,ro⟩):=by apply Array.ext';simp
  rw[N];simp only[execOp,g,resolve]
 rw[e];refine h Q kk O _ _ _ _ (p fo (by simp[g,Op.operands,Call.operands])) ⟨by simp,λj v a u A=>?_⟩ f.rel rfl H (λd w r s l=>by simp) (λC D J L σ' b q E F=>?_) (λC D J L σ' b q E F=>?_)
 . simp only[List.getElem?_map]at u A
   cases z:args.toList[j]? with
   |none=>rw[z]at u;cases u
   |some x=>rw[z]at u A;simp only[Option.map_some,Option.some.injEq]at u A;subst u;subst A;exact p x (by simp only[g,Op.operands,Call.operands];exact Array.mem_append.2 (.inr (by simpa using List.mem_of_getElem? z)))
 . obtain⟨t,R,S⟩:=f.put (fid:=fid) (ro:=ro) (rest:=rest) (kk:=k) b G q E
   rw[R];exact F Q C D t defs kind cs H S (I.mono b)
 . exact I.panic C D tmps defs {s with σ:=σ'} _ J L b ⟨f.size,f.env.mono b,E,f.ds.mono b,f.rc.mono b⟩ q F
theorem Go.defer{ops:Array Oper}{i:Nat}{rest:List Nat}{o:Oper}{fo:Operand}{args:Array Operand}{u:Array TypeId}{f:Fn}{first cap:List AV}(y:ro=none)(C:ops[i]?=some o)(g:o.op=.defer ⟨.value fo,args,u⟩)(F:bK ops n s.env o)(p:Oper.ok n o=true)
 (z:am s.env fo=.fn f first cap) (h:Go P m fid n ro (.inRegion ops rest::k) {s with env:=aV s.env o.dst .bz,D:=.call f cap (first++args.toList.map (am s.env))::s.D} K):
 Go P m fid n ro (.inRegion ops (i::rest)::k) s K:=λQ kk O tmps defs kind cs H l I=>by
 refine T.nC (λw=>dw C (gk l.size l.env F) (.inl y) w) (dZ ?_)
 have d:∀x∈o.op.operands,V kk (Frame.eval ⟨fid,tmps,.inRegion ops (i::rest)::k,defs,.run,kind,ro⟩ x) (am s.env x):=λx q=>by refine V.eval l.env l.size x ?_;simp only[Oper.ok,Bool.and_eq_true,Array.all_eq_true_iff_forall_mem]at p;exact p.1 x q
 have A:=d fo (by simp[g,Op.operands,Call.operands])
 rw[z]at A;generalize J:Frame.eval _ fo=cf at A;cases A with
 | fn _ t B U W L M N R=>
   simp only[execOp,g,resolve,J,Deferred.ofValue];refine af (ai (ai λ_=>?_))
   obtain⟨b,E,r⟩:=l.put (fid:=fid) (ro:=ro) (rest:=rest) (kk:=k) (v:=undef) (a:=.bz) (.refl _) C (.bz _) l.rel
   have S:Frame.finish ⟨fid,tmps,.inRegion ops (i::rest)::k,{target:=.fn f B,args:=t++args.map (Frame.eval ⟨fid,tmps,.inRegion ops (i::rest)::k,defs,.run,kind,ro⟩)}::defs,.run,kind,ro⟩ undef=
    ⟨fid,b,.inRegion ops rest::k,{target:=.fn f B,args:=t++args.map (Frame.eval ⟨fid,tmps,.inRegion ops (i::rest)::k,defs,.run,kind,ro⟩)}::defs,.run,kind,ro⟩:=by
    simp only[Frame.finish,Frame.mk.injEq]at E ⊢;simp[E.2.1]
   show T P m Q kk O (G _ _);rw[S];refine h Q kk O b _ kind cs H ⟨r.size,r.env,r.rel,⟨⟨B,_,rfl,⟨by simpa using N,λi v a c e=>R i v a (by simpa using c) e⟩,?_⟩,r.ds⟩,r.rc⟩ I
   have:(t++args.map (Frame.eval ⟨fid,tmps,.inRegion ops (i::rest)::k,defs,.run,kind,ro⟩)).toList=t.toList++args.toList.map (Frame.eval ⟨fid,tmps,.inRegion ops (i::rest)::k,defs,.run,kind,ro⟩):=by simp
   rw[this];refine Vs.append ⟨by simpa using L,λi v a c e=>M i v a (by simpa using c) e⟩ ⟨by simp,λj v a c e=>?_⟩
   simp only[List.getElem?_map]at c e;cases q:args.toList[j]? with
   |none=>rw[q]at c;cases c
   |some x=>rw[q]at c e;simp only[Option.map_some,Option.some.injEq]at c e;subst c;subst e;exact d x (by simp only[g,Op.operands,Call.operands];exact Array.mem_append.2 (.inr (by simpa using List.mem_of_getElem? q)))
end
def lX (env:Env):List Tmp->List AV->Env
 | t :: b,a :: as=>lX (env.upd t a) b as
 | _,_=>env
theorem tz {k:ag}:∀ (ts:List Tmp) (vs:List Value) (as:List AV) (tmps:Array Value) (env:Env),Vs k vs as->dY k tmps env ->
 ((ts.zip vs).foldl (fun tmps (x:Tmp × Value)=>tmps.setIfInBounds x.1 x.2) tmps).size=tmps.size∧dY k ((ts.zip vs).foldl (fun tmps (x:Tmp × Value)=>tmps.setIfInBounds x.1 x.2) tmps) (lX env ts as)
 | [],vs,as,tmps,env,_,c=>by cases as <;> exact⟨rfl,c⟩
 | t :: ts,[],as,tmps,env,b,c=>by
   have:as=[]:=by have:=b.1;simp at this;exact List.eq_nil_of_length_eq_zero this.symm
   subst this;exact⟨rfl,c⟩
 | t :: ts,v :: vs,[],tmps,env,b,c=>by simp[Vs] at b
 | t :: ts,v :: vs,a :: as,tmps,env,b,c=>by
   have d:V k v a:=b.2 0 v a rfl rfl;have e:Vs k vs as:=⟨by simpa using b.1,fun i x y f g=>b.2 (i+1) x y (by simpa using f) (by simpa using g)⟩
   obtain⟨h,j⟩:=tz ts vs as (tmps.setIfInBounds t v) (env.upd t a) e (c.upd d);exact⟨by simp only[List.zip_cons_cons,List.foldl_cons];rw[h];simp,by simpa only [List.zip_cons_cons,List.foldl_cons,lX] using j⟩
section
variable{P:Program}{m:Mo}{fid n:Nat}{s:St}{K:Exit->St->Prop}{k:List Item}
theorem kr{kk:ag}{O:ah}{Kp:Value->ag->ah->Prop}{σ:aa}{l:Nat}{a:mT}{R:Loop->ag->ah->Prop}(c:Rel kk O σ)(d:σ l=some (.loop a))(e:∀tmps,tmps.size=a.n->dY kk tmps a.env->R ⟨a.state,a.pending,a.fn,tmps,a.params,a.assign,a.body,a.defers⟩ kk O):
 dM P (Instr.getLoop l) kk O R Kp:=by
 obtain⟨x,f,b⟩:=c.1 l _ d (by simp);cases b with
 |loop _ tmps g h=>unfold Instr.getLoop;exact af (s:=getObj l) ⟨_,f,rfl,ai (e tmps g h)⟩
theorem Go.rangeFunc{f:Operand}{params:Array Tmp}{assign body:Code}(hf:Operand.ok n f=true)
 (h:∀ r l,s.σ r=none->s.σ l=none->r≠l->dl P m (am s.env f) [.fn (.yield l) [] []] ((s.σ.set r (.raw (.deferred (some [])))).set l (.loop ⟨.ready,none,fid,n,s.env,params,assign,body,r⟩))
   (fun res σ'=>match res with
     |.val _=>∃a,σ' l=some (.loop a)/\a.state≠.busy/\Go P m fid n none ((a.pending.map Item.code).toList++k) {s with σ:=σ'.del l,D:=.mark r::s.D} K
     |.panic v=>K (.panic v) {s with σ:=σ',D:=.mark r::s.D})):Go P m fid n none (.code (.rangeFunc f params assign body)::k) s K:=
 λQ kk O tmps defs kind cs h1 g h3=>by
 refine .step (λt u x=>T P m Q t u x) rfl (λ_ _ _ h=>h) λw hw=>?_
 have z:dM P (Instr.enterLoop fid tmps params assign body none) kk O (λx I L=>∃r l,x=(l,[{target:=.collected r,args:=#[]}])/\s.σ r=none/\s.σ l=none/\r≠l/\kk.Le I/\
  Rel I L ((s.σ.set r (.raw (.deferred (some [])))).set l (.loop ⟨.ready,none,fid,n,s.env,params,assign,body,r⟩))) (λ_ _ _=>False):=by
  unfold Instr.enterLoop;refine af (af (s:=newObj _) ⟨rfl,λr hr=>ai (ai ?_)⟩)
  refine af (s:=newObj _) ⟨rfl,λl M=>ai (ai ⟨r,l,rfl,g.rel.isNone hr.1 hr.2.2,?_,?_,.refl _,?_⟩)⟩
  . have:=M.1
    by_cases e:l=r
    . subst e;simp[ah.set]at this
    . simp only[ah.set,e,if_false]at this
      have A:=M.2.2;simp only[ag.made]at A;exact g.rel.isNone this A
  . intro e
    subst e;have:=M.1;simp[ah.set]at this
  . exact(g.rel.set (.raw _ rfl)).set (.loop ⟨.ready,none,fid,n,s.env,params,assign,body,r⟩ tmps g.size g.env)
 obtain⟨I,L,w1,l1,e1,s1,N,c1⟩:=qA _ #[] z hw
 rcases c1 with⟨x,hx,r,l,rfl,B,C,R,c,E⟩|⟨_,_,hF⟩
 . have hv:=V.eval (fr:=⟨fid,tmps,.inRangeFunc l::k,{target:=.collected r,args:=#[]}::defs,.run,kind,none⟩) (g.env.mono c) g.size f hf
   have y:=h r l B C R Q I L _ [.func (.yield l) #[] #[]] ⟨fid,tmps,.inRangeFunc l::k,{target:=.collected r,args:=#[]}::defs,.run,kind,none⟩ (eX s.rc cs) hv (.cons (.fn _ _ _ _ _ rfl (λi v a S=>by simp at S) rfl (λi v a S=>by simp at S)) .nil) E rfl h1 (λd w r s l=>by simp)
    (λt u cv av σ' b F p U=>?_) (λt u cv av σ' b F p U=>?_) w1 s1
   . obtain⟨g',W,es,t,u,a1,a2,a3,a4⟩:=y
     refine⟨g',W,seen P fid ((Instr.enterLoop fid tmps params assign body none).runT P w #[]).2++es,t,u,?_,?_,a3,a4⟩
     . simp only[G,stepG,stepG.exec]
       rw[show(Instr.enterLoop fid tmps params assign body none).runT P w #[]=(((Instr.enterLoop fid tmps params assign body none).runT P w #[]).1,((Instr.enterLoop fid tmps params assign body none).runT P w #[]).2)from rfl,hx]
       simp only
       have X:stepG.apply P true ⟨fid,tmps,.inRangeFunc l::k,[{target:=.collected r,args:=#[]}]++defs,.run,kind,none⟩ (eX s.rc cs) none (do let d <-resolve (Frame.eval ⟨fid,tmps,.inRangeFunc l::k,[{target:=.collected r,args:=#[]}]++defs,.run,kind,none⟩) {callee:=.value f,args:=#[.const (.func (.yield l) #[] #[])],argTypes:=#[]} 0;invoke d.target d.args) w1=.go g' W es:=by rw[<-a1];simp[resolve,Frame.eval]
       rw[X];rfl
     . refine (Eff.trans e1 a2).sub λe he=>?_
       rw[Array.toList_append]at he
       rcases List.mem_append.1 he with he|he
       . have:=tg (by simpa using he:e∈seen P fid ((Instr.enterLoop fid tmps params assign body none).runT P w #[]).2)
         rw[<-Array.mem_toList_iff,N]at this;exact List.mem_append.2 (.inl (by simpa using this))
       . exact List.mem_append.2 (.inr he)
   ·
    obtain⟨a,ha,hb,Y⟩:=U
    have Z:∀w,stepG P m.main (G ⟨fid,tmps,.endRangeFunc l::k,{target:=.collected r,args:=#[]}::defs,.run,kind,none⟩ (eX s.rc cs)) w=GStep.after (seen P fid ((Instr.endLoop l).runT P w #[]).2) (match ((Instr.endLoop l).runT P w #[]).1 with
     |.ok q w=>.go (G ⟨fid,tmps,(q.map Item.code).toList++k,{target:=.collected r,args:=#[]}::defs,.run,kind,none⟩ (eX s.rc cs)) w
     |.halt (.panic v) w=>.go (G (Frame.raise ⟨fid,tmps,.endRangeFunc l::k,{target:=.collected r,args:=#[]}::defs,.run,kind,none⟩ [{v,recovered:=false}]) (eX s.rc cs)) w
     |.halt _ w=>.ended (.stuck  "range over a function: no such loop" (Frame.pos P ⟨fid,tmps,.endRangeFunc l::k,{target:=.collected r,args:=#[]}::defs,.run,kind,none⟩)) w):=λw=>by
     simp only[G,stepG,stepG.exec];rfl
    show T P m Q t u (G ⟨fid,tmps,.endRangeFunc l::k,{target:=.collected r,args:=#[]}::defs,.run,kind,none⟩ (eX s.rc cs));refine T.yS (fid:=fid) (s:=Instr.endLoop l) rfl (K:=λj J O2=>j=a.pending/\J=t/\Rel J O2 (σ'.del l)) (nxt:=λq w=>.go (G ⟨fid,tmps,(q.map Item.code).toList++k,{target:=.collected r,args:=#[]}::defs,.run,kind,none⟩ (eX s.rc cs)) w) ?_ ?_ ?_
    . rintro j J O2 w2 _ _ ⟨rfl,rfl,a7⟩
      exact⟨_,rfl,Y Q J O2 tmps ({target:=.collected r,args:=#[]}::defs) kind cs h1 ⟨g.size,g.env.mono (c.trans b),a7,⟨rfl,g.ds.mono (c.trans b)⟩,g.rc.mono (c.trans b)⟩ (h3.mono (c.trans b))⟩
    . intro w j W H
      rw[Z,H]
    . unfold Instr.endLoop
      refine af (kr p ha λa8 _ _=>?_)
      have a9:(a.state==LoopState.busy)=false:=by simpa using hb
      simp only[a9,Bool.false_eq_true,if_false];obtain⟨x,ad,al⟩:=p.1 l _ ha (by simp)
      have ax:∃o,x=.obj o/\fU o=false:=by
       cases al with
       |loop _ _ _ _=>exact⟨_,rfl,rfl⟩
      obtain⟨o,rfl,ho⟩:=ax;refine af (s:=setObj l _) ⟨⟨o,ad,ho⟩,rfl,ai ⟨rfl,rfl,?_⟩⟩;exact p.drop l _
   . exact h3.panic t u tmps ({target:=.collected r,args:=#[]}::defs) {s with σ:=σ',D:=.mark r::s.D} _ cv av (c.trans b) ⟨g.size,g.env.mono (c.trans b),p,⟨rfl,g.ds.mono (c.trans b)⟩,g.rc.mono (c.trans b)⟩ F U
 . exact hF.elim
def FY(l:Nat)(c:eI->aa->Prop):Exit->St->Prop
 |.leave b,s=>s.D=[]/\s.rc=.no/\∃a,s.σ l=some (.loop a)/\c (.val (.lit (.bool b.isNone))) (s.σ.set l (.loop {a with state:=if b.isNone then .ready else .done,pending:=b}))
 |.panic v,s=>s.D=[]/\s.rc=.no/\c (.panic v) s.σ
theorem dl.yield{l:Nat}{args:List AV}{σ:aa}{Y:eI->aa->Prop}{a:mT}{fn:Func}(hf:P.funcs[a.fn]?=some fn)(hl:σ l=some (.loop a))(hn:args.length=a.params.size)
 (h:Go P m a.fn a.n (some l) [.code a.assign,.beginRound,.code a.body] ⟨lX a.env a.params.toList args,σ,[],.no⟩ (FY l Y)):dl P m (.fn (.yield l) [] []) args σ Y:=λQ Z O cf c fr cs z f hr A B C hv hp=>by
 cases z with
 | fn _ c1 c2 l1 l2 g1 g2 g3 g4=>
   have e1:c1=#[]:=by simpa using g1
   have e2:c2=#[]:=by simpa using g3
   subst e1 e2;refine dZ ?_;simp only[Deferred.ofValue];refine af (ai ?_);simp only[invoke,Instr.yield];refine af (kr hr hl λtmps hs he=>?_)
   have D:¬(#[]++c.toArray).size≠a.params.size:=by simp;rw[f.1,hn]
   simp only[if_neg D];refine ai λ_=>?_
   obtain⟨q1,q2⟩:=tz a.params.toList c args tmps a.env f he
   have E:(a.params.zip (#[]++c.toArray)).foldl (λtmps (x:Tmp × Value)=>match x with|(t,a)=>tmps.setIfInBounds t a) tmps=(a.params.toList.zip c).foldl (λtmps (x:Tmp × Value)=>tmps.setIfInBounds x.1 x.2) tmps:=by rw[<-Array.foldl_toList];simp[Array.toList_zip]
   show T P m Q Z O (G (Frame.round l a.fn _ a.assign a.body .normal) (fr::cs));rw[E];refine h Q Z O _ [] .normal (fr::cs) (by simp) ⟨by rw[q1,hs],q2,hr,trivial,trivial⟩ ⟨λu F d defs s' todo b i e H I=>?_,λu F d defs s' todo J av i e L I=>?_⟩
   . obtain⟨hD,j,a',q,k⟩:=I
     rw[j];show T P m Q u F (G ⟨a.fn,d,todo,defs,.run,.normal,some l⟩ (fr::cs))
     refine T.yS (fid:=a.fn) (s:=Instr.endRound l b) rfl (K:=λv y M=>v=.bool b.isNone/\y=u/\Rel y M (s'.σ.set l (.loop {a' with state:=if b.isNone then .ready else .done,pending:=b})))
      (nxt:=λv w=>.go (G (fr.finish v) cs) w) ?_ ?_ ?_
     . rintro v y M w2 _ _ ⟨rfl,rfl,N⟩
       exact⟨_,rfl,hv y M _ _ _ i (.lit _) N k⟩
     . intro w v w' g
       rcases H with⟨rfl,rfl⟩|⟨R,rfl,rfl⟩|⟨id,R,rfl,hex,rfl⟩
       . simp only[G,stepG,stepG.exec]
         rw[show(Instr.endRound l none).runT P w #[]=(((Instr.endRound l none).runT P w #[]).1,((Instr.endRound l none).runT P w #[]).2)from rfl,g]
         rfl
       . simp only[G,stepG,stepG.exec]
         rw[show(Instr.endRound l (some .ret)).runT P w #[]=(((Instr.endRound l (some .ret)).runT P w #[]).1,((Instr.endRound l (some .ret)).runT P w #[]).2)from rfl,g]
         rfl
       . simp only[G,stepG,stepG.exec,hex,Option.elim]
         rw[show(Instr.endRound l (some (.exit id))).runT P w #[]=(((Instr.endRound l (some (.exit id))).runT P w #[]).1,((Instr.endRound l (some (.exit id))).runT P w #[]).2)from rfl,g]
         rfl
     . unfold Instr.endRound
       refine af (kr e.rel q λp S U=>?_)
       obtain⟨x,V,W⟩:=e.rel.1 l _ q (by simp)
       have X:∃o,x=.obj o/\fU o=false:=by
        cases W with
        |loop _ _ _ _=>exact⟨_,rfl,rfl⟩
       obtain⟨o,rfl,ho⟩:=X;exact af (s:=setObj l _) ⟨⟨o,V,ho⟩,rfl,ai ⟨rfl,rfl,e.rel.set (.loop {a' with state:=if b.isNone then .ready else .done,pending:=b} p S U)⟩⟩
   . obtain⟨hD,j,k⟩:=I
     rw[j]
     have hd:defs=[]:=by
      have:=e.ds;rw[hD]at this;cases defs with
      |nil=>rfl
      |cons _ _=>exact this.elim
     subst hd;refine T.dc (g':=G (fr.raise [⟨J,false,false⟩]) cs) rfl (λw=>?_) (hp u F J av _ i L e.rel k)
     have r:Frame.catches P ⟨a.fn,d,todo,[],.panicking [⟨J,false,false⟩],.normal,some l⟩=false:=by simp[Frame.catches,hf]
     simp only[G,stepG,unwind,r,eX];rfl
theorem Go.beginRound{l:Nat}{a:mT}(j:s.σ l=some (.loop a))(p:a.state=.ready)(h:Go P m fid n (some l) k {s with σ:=s.σ.set l (.loop {a with state:=.busy})} K):Go P m fid n (some l) (.beginRound::k) s K:=
 λQ q O tmps defs kind cs r b t=>by
 refine T.nC (s:=(do (Option.elim (some l) (stuck  "beginRound: no round") Instr.beginRound);pure .skip)) (λw=>by simp only[G,stepG,stepG.exec]) (dZ ?_)
 simp only[Option.elim];refine af ?_;unfold Instr.beginRound;refine af (kr b.rel j λc d e=>?_);obtain⟨x,f,g⟩:=b.rel.1 l _ j (by simp)
 have i:∃o,x=.obj o/\fU o=false:=by
  cases g with
  |loop _ _ _ _=>exact⟨_,rfl,rfl⟩
 obtain⟨o,rfl,u⟩:=i;refine af (s:=setObj l _) ⟨⟨o,f,u⟩,rfl,?_⟩;simp only[p];refine ai (ai (ai λ_=>?_));exact h Q q _ tmps defs kind cs r ⟨b.size,b.env,b.rel.set (.loop {a with state:=.busy} c d e),b.ds,b.rc⟩ t
theorem gV{α:Type}{g:Program->Sem α}{w:World}{es:Array Event}:(program >>=g).runT P w es=(g P).runT P w es:=rfl
theorem tx.func{f:FuncId}{fn:Func}{cap args:List AV}{l:Md}{σ:aa}{B:Md->aa->Prop}(D:P.funcs[f]?=some fn)(hb:fn.body.isSome=true)(q:(fn.name==  "runtime.NumGoroutine")=false)
 (h:ar P m f (args++cap) σ (λr σ'=>match r with|.val _=>B l σ'|.panic _=>False)):tx P m (.func f) cap args l σ B:=λQ k O fr cs i j s a t u E F=>by
 refine .step (λn o x=>T P m Q n o x) rfl (λ_ _ _ h=>h) λw H=>?_
 have y:fn.body.isNone=false:=by cases N:fn.body<;>simp_all
 have hinv:(invoke (.fn (.func f) i.toArray) j.toArray).runT P w #[]=(.ok (.enter f (j++i).toArray) w,#[]):=by show Sem.runT P (callFunc f (j.toArray++i.toArray)) w #[]=_;unfold callFunc;rw[gV,D];simp only[q,y,Bool.false_eq_true,if_false];simp
 have b:∀C,stepG P m.main (G {fr with defers:={target:=.fn (.func f) i.toArray,args:=j.toArray}::fr.defers} cs) w=.go (G (Frame.enter P f (j++i).toArray .deferred) (fr::cs)) w #[]\/C:=λC=>by
  left;have I:fr.mode≠.run:=λe=>by rw[e]at a;cases l<;>exact a.elim
  obtain⟨J,tmps,todo,defs,mode,kind,ro⟩:=fr;cases mode with
  |run=>exact absurd rfl I
  |_=>simp only[G,stepG,unwind,callDeferred,hinv];simp;rfl
 refine⟨_,w,#[],k,O,(b False).resolve_right (λx=>x),.refl ..,H,?_⟩
 refine h Q k O (j++i) fr cs .deferred (by simp) (u.append t) E (λn o K L σ' c z p d=>?_) (λn o K L σ' c z p d=>d.elim)
 have g:jD fr=fr:=by
  unfold jD;cases A:fr.mode with
  | panicking ch=>
    rw[A]at a;cases l with
    |ret=>exact a.elim
    |Lq v=>obtain⟨M,rfl,_⟩:=a;rfl
  |_=>rfl
 show T P m Q n o (G (jD fr) cs);rw[g];have:=F n o l σ' fr.mode c (a.mono c) p d;simpa using this
end
def fits(n:Int):Prop:=-9223372036854775808<=n/\n<=9223372036854775807
def oD(op:BinOp)(kd:IntKind)(a b:Int)(R:Value->Prop):Prop:=
 match op,kd with
 |.add,.i64=>fits (a+b)/\R (.int .i64 (a+b))
 |.sub,.i64=>fits (a-b)/\R (.int .i64 (a-b))
 |.mul,.i64=>fits (a*b)/\R (.int .i64 (a*b))
 |.eql,_=>R (.bool (a==b))
 |.neq,_=>R (.bool (a !=b))
 |.lss,_=>R (.bool (decide (a<b)))
 |.leq,_=>R (.bool (decide (a<=b)))
 |.gtr,_=>R (.bool (decide (a>b)))
 |.geq,_=>R (.bool (decide (a>=b)))
 |.shl,_=>0<=b/\R (.int kd (kd.wrap (a*2 ^ (min b.toNat kd.bits))))
 |.shr,_=>0<=b/\R (.int kd (a.fdiv (2 ^ (min b.toNat kd.bits))))
 |op,kd=>∃v,n8 op kd a b=some v/\R v
section
variable{P:Program}(L:jg P)
def og(o:Oper):Bool:=
 match o.op with
 |.move _|.assign _|.pick _ _ _|.alloc _|.box _ _|.load _ _|.store _ _ _|.makeInterface _ _|.makeFunc _ _ _|.extract _ _|.field _ _ _|.fieldAddr _ _ _|.nilCheck _|.panic _|.unOp .not _ _|.build _ _=>true
 |.indexAddr t _ _=>match L.tt t with|some ⟨.slice _,_,_,_,_⟩=>true|some ⟨.array _ _,_,_,_,_⟩=>true|_=>false
 |.index t _ _=>match L.tt t with|some ⟨.array _ _,_,_,_,_⟩=>true|_=>false
 |.binOp _ t _ _ _=>match L.tt t with|some ⟨.int _,_,_,_,_⟩=>true|_=>false
 |.convert s t _=>match L.tt s,L.tt t with|some ⟨.int _,_,_,_,_⟩,some ⟨.int _,_,_,_,_⟩=>true|_,_=>false
 |.typeAssert _ _ t true=>match L.tt t with|some ⟨.iface,_,_,_,_⟩=>false|some _=>true|none=>false
 | .call c=>match c.callee,c.args.toList with
   |.builtin .len,[_]=>(match c.argTypes[0]? with|some t=>(match L.tt t with|some ⟨.slice _,_,_,_,_⟩=>true|_=>false)|none=>false)
   |.builtin .min,[_,_]=>true
   |.builtin .max,[_,_]=>true
   |_,_=>false
 |_=>false
def Nh(mu:List Nat)(o:Oper)(env:Env)(σ:aa)(K Kp:AV->aa->Prop):Prop:=
 match o.op with
 |.move x|.assign x=>K (am env x) σ
 | .pick c a b=>match am env c with
   |.lit (.bool x)=>K (if x then am env a else am env b) σ
   |_=>False
 | .alloc t=>match L.tt t with
   |some i=>(kN i.zero).cells.all AV.flat=true/\∀b,σ b=none->K (.ref b 0) (σ.set b (.cells (kN i.zero).cells))
   |none=>False
 |.box _ x=>(am env x).cells.all AV.flat=true/\(if(match o.dst with|some d=>mu.contains d|none=>false)then ∀b,σ b=none->K (.ref b 0) (σ.set b (.cells (am env x).cells))else K (.cp (am env x) 0) σ)
 | .load t p=>match L.tt t with
   |some i=>∃a,mH i σ (am env p)=some a/\K a σ
   |none=>False
 | .store t p x=>match L.tt t with
   |some i=>∃m,oA i σ (am env p) (am env x)=some m/\K (.lit undef) m
   |none=>False
 | .fieldAddr s x j=>match L.tt s with
   | some ⟨.struct,_,_,_,gQ⟩=>(match gQ[j]? with
     |some f=>f.2.1≠0/\∃a,pj (am env x) f.1=some a/\K a σ
     |none=>False)
   |_=>False
 | .field s x j=>match L.tt s,am env x with
   | some ⟨.struct,_,_,_,gQ⟩,.agg l=>(match gQ[j]? with
     |some f=>(match L.tt f.2.2 with|some q=>∃a,bX l f.1 q.size q.agg=some a/\K a σ|none=>False)
     |none=>False)
   |_,_=>False
 | .indexAddr t x n=>match L.tt t with
   | some ⟨.slice e,_,_,_,_⟩=>(match L.tt e,am env x,am env n with
     |some h,.sl r es _,.lit (.int _ z)=>r=h.size/\0<=z/\∃a,es[z.toNat]?=some a/\K (.cp a 0) σ
     |some h,.eu b off len _,.lit (.int _ z)=>(0<=z/\z<len)/\K (.ref b (off+z.toNat*h.size)) σ
     |_,_,_=>False)
   | some ⟨.array k e,_,_,_,_⟩=>(match L.tt e,am env n with
     |some h,.lit (.int _ z)=>(0<=z/\z<k)/\∃a,pj (am env x) (z.toNat*h.size)=some a/\K a σ
     |_,_=>False)
   |_=>False
 | .index t x n=>match L.tt t with
   | some ⟨.array k e,_,_,_,_⟩=>(match L.tt e,am env x,am env n with
     |some h,.agg l,.lit (.int _ z)=>(0<=z/\z<k)/\∃a,bX l (z.toNat*h.size) h.size h.agg=some a/\K a σ
     |_,_,_=>False)
   |_=>False
 | .binOp op _ x y _=>match am env x,am env y with
   |.lit (.int kd a),.lit (.int g b)=>(kd=g\/op=.shl\/op=.shr)/\oD op kd a b λv=>K (.lit v) σ
   |_,_=>False
 | .unOp .not _ x=>match am env x with
   |.lit (.bool b)=>K (.lit (.bool !b)) σ
   |_=>False
 | .convert _ t x=>match L.tt t,am env x with
   |some ⟨.int kd,_,_,_,_⟩,.lit (.int _ a)=>K (.lit (.int kd (kd.wrap a))) σ
   |_,_=>False
 | .makeInterface t x=>match L.tt t with
   |some i=>i.kind≠.iface/\K (.mS t (am env x)) σ
   |none=>False
 |.makeFunc f fs cs=>K (.fn f (fs.toList.map (am env)) (cs.toList.map (am env))) σ
 | .extract x j=>match am env x with
   |.cq l=>∃a,l[j]?=some a/\K a σ
   |_=>False
 | .typeAssert x _ t true=>match L.tt t,am env x with
   |some i,.mS d y=>i.kind≠.iface/\K (if d=t then .cq [y,.lit (.bool true)]else .cq [kN i.zero,.lit (.bool false)]) σ
   |_,_=>False
 |.nilCheck x=>(match am env x with|.cp _ _=>True|.ref _ _=>True|.kp _ _ _ _=>True|.fn (.func _) _ _=>True|_=>False)/\K (am env x) σ
 | .panic x=>match am env x with
   |.mS t y=>Kp (.mS t y) σ
   |_=>False
 | .build t parts=>match L.tt t with
   |some i=>i.kind=.struct/\(kN i.zero).cells.all AV.flat=true/\∃l,lq (λj=>(i.gQ[j]?).map λx=>(x.1,x.2.1)) (kN i.zero).cells (parts.toList.map λp=>(p.1,am env p.2))=some l/\K (.agg l) σ
   |none=>False
 | .call c=>match c.callee,c.args.toList with
   | .builtin .len,[x]=>(match am env x with
     |.sl _ es _=>K (.lit (.int .i64 es.length)) σ
     |.lit (.slice none 0 0)=>K (.lit (.int .i64 0)) σ
     |.eu _ _ len _=>K (.lit (.int .i64 len)) σ
     |_=>False)
   | .builtin .min,[x,y]=>(match am env x,am env y with
     |.lit (.int kd a),.lit (.int g b)=>kd=g/\K (.lit (.int kd (if b<a then b else a))) σ
     |_,_=>False)
   | .builtin .max,[x,y]=>(match am env x,am env y with
     |.lit (.int kd a),.lit (.int g b)=>kd=g/\K (.lit (.int kd (if b>a then b else a))) σ
     |_,_=>False)
   |_,_=>False
 |_=>False
theorem aE.mono{P:Program}{o:Oper}{env:Env}{σ:aa}{K d Kp:AV->aa->Prop}(h:aE P o env σ K Kp)(e:∀a σ,K a σ->d a σ):aE P o env σ d Kp:=λk O f i j=>lg _ (h k O f i j) (λ_ _ _ ⟨v,l,m,n,g,b,a,c,x,y,z⟩=>⟨v,l,m,n,g,b,a,c,x,y,e _ _ z⟩) (λ_ _ _ h=>h)
theorem jE{c:Call}{b:Builtin}{l:List Operand}(a:c.callee=.builtin b)(d:c.args.toList=l):c=⟨.builtin b,l.toArray,c.argTypes⟩:=by obtain⟨ce,args,e⟩:=c;simp only at a d;subst a;subst d;simp
theorem Dy{mu:List Nat}{o:Oper}{env:Env}{σ:aa}{K Kp:AV->aa->Prop}(C:og L o=true)(h:Nh L mu o env σ K Kp):aE P o env σ K Kp:=by
 unfold Nh at h;unfold og at C;split at h
 . next x g=>exact sJ (.inl g) h
 . next x g=>exact sJ (.inr g) h
 . next c a b g=>
   split at h
   . next x m=>exact Cz g m h
   . exact h.elim
 . next t g=>
   split at h
   . next i B=>exact yK L g B h.1 h.2
   . exact h.elim
 . next t x g=>
   obtain⟨A,u⟩:=h;generalize (match o.dst with|some d=>mu.contains d|none=>false)=q at u;cases q
   . simp only[Bool.false_eq_true,if_false]at u
     exact FT g A u
   . simp only[if_true]at u
     exact tj g A u
 . next t p g=>
   split at h
   . next i B=>obtain⟨a,A,u⟩:=h;exact xu L g B A u
   . exact h.elim
 . next t p x g=>
   split at h
   . next i B=>obtain⟨a,A,u⟩:=h;exact yJ L g B A u
   . exact h.elim
 . next s x j g=>
   split at h
   . next H I J gQ B=>
     split at h
     . next f S=>obtain⟨A,a,u,Q⟩:=h;exact pn L g B rfl S A u Q
     . exact h.elim
   . exact h.elim
 . next s x j g=>
   split at h
   . next H I J gQ l B m=>
     split at h
     . next f S=>
       split at h
       . next fi T=>obtain⟨a,A,u⟩:=h;exact yL L g B rfl S T m A u
       . exact h.elim
     . exact h.elim
   . exact h.elim
 . next t x Z g=>
   split at h
   . next e H I J R B=>
     split at h
     . next U kk es sp kd z G m D=>obtain⟨rfl,E,a,A,u⟩:=h;exact tk L g B rfl G m D E A u
     . next U b off len cap kd z G m D=>exact ru L g B rfl G m D h.1 h.2
     . exact h.elim
   . next k e H I J R B=>
     split at h
     . next U kd z G D=>obtain⟨E,a,A,u⟩:=h;exact rt L g B rfl G D E A u
     . exact h.elim
   . exact h.elim
 . next t x Z g=>
   split at h
   . next k e H I J R B=>
     split at h
     . next U l kd z G m D=>obtain⟨E,a,A,u⟩:=h;exact yM L g B rfl G m D E A u
     . exact h.elim
   . exact h.elim
 . next op t x y t2 g=>
   split at h
   . next kd a F b m w=>
     obtain⟨V,h⟩:=h
     have n:(op≠.shl/\op≠.shr)->F=kd:=λX=>by
      rcases V with h|h|h
      . exact h.symm
      . exact absurd h X.1
      . exact absurd h X.2
     unfold oD at h;split at h
     . rw[n (by simp)]at w;exact ln g m w (.inl ⟨rfl,rfl⟩) h.1 h.2
     . rw[n (by simp)]at w;exact ln g m w (.inr (.inl ⟨rfl,rfl⟩)) h.1 h.2
     . rw[n (by simp)]at w;exact ln g m w (.inr (.inr ⟨rfl,rfl⟩)) h.1 h.2
     . rw[n (by simp)]at w;exact bZ g m w rfl h
     . rw[n (by simp)]at w;exact bZ g m w rfl h
     . rw[n (by simp)]at w;exact bZ g m w rfl h
     . rw[n (by simp)]at w;exact bZ g m w rfl h
     . rw[n (by simp)]at w;exact bZ g m w rfl h
     . rw[n (by simp)]at w;exact bZ g m w rfl h
     . exact po g m w h.1 (.inl ⟨rfl,rfl⟩) h.2
     . exact po g m w h.1 (.inr ⟨rfl,rfl⟩) h.2
     . next A u Q Y h5 h6 h7 h8 h9 a7 a8=>
       obtain⟨v,hv,hK⟩:=h;rw[n ⟨λe=>by subst e;simp_all,λe=>by subst e;simp_all⟩]at w;exact bZ g m w hv hK
   . exact h.elim
 . next t x g=>
   split at h
   . next b m=>exact FW g m h
   . exact h.elim
 . next s t x g=>
   simp only[g]at C;split at h
   . next kd H I J R F a M m=>
     split at C
     . next ks b1 b2 b3 b4 kt c1 c2 c3 c4 hs W=>rw[M]at W;exact tp L g hs M rfl rfl m h
     . cases C
   . exact h.elim
 . next t x g=>
   split at h
   . next i B=>exact lp L g B h.1 h.2
   . exact h.elim
 . next f fs cs g=>exact rv g h
 . next x j g=>
   split at h
   . next l m=>obtain⟨a,A,u⟩:=h;exact tu g m A u
   . exact h.elim
 . next x xt t g=>
   split at h
   . next i d y B m=>exact oe L g B h.1 m h.2
   . exact h.elim
 . next x g=>
   obtain⟨A,u⟩:=h;split at A
   . next v off m=>exact dS g (.inl ⟨_,_,m⟩) u
   . next b off m=>exact dS g (.inr (.inl ⟨_,_,m⟩)) u
   . next b l hole off m=>exact dS g (.inr (.inr (.inr ⟨_,_,_,_,m⟩))) u
   . next f l r m=>exact dS g (.inr (.inr (.inl ⟨_,_,_,m⟩))) u
   . exact A.elim
 . next x g=>
   split at h
   . next t y m=>exact yN g m h
   . exact h.elim
 . next t parts g=>
   split at h
   . next i B=>obtain⟨A,u,l,Q,Y⟩:=h;exact yP L g B A u Q Y
   . exact h.elim
 . next c g=>
   simp only[g]at C;split at h
   . next x N O=>
     simp only[N,O]at C;have e:=jE N O;split at C
     . next t E=>
       split at C
       . next e' H I J R M=>
         rw[e]at g;split at h
         . next kk es sp m=>exact xv L g E M rfl (.inl m) h
         . next m=>exact xv L (kk:=0) (sp:=.any) (es:=[]) g E M rfl (.inr ⟨m,rfl⟩) h
         . next b off len cap m=>exact vZ L g E M rfl m h
         . exact h.elim
       . cases C
     . cases C
   . next x y N O=>
     rw[jE N O]at g;split at h
     . next kd a F b m w=>obtain⟨rfl,h⟩:=h;exact nE g m w (.inl ⟨rfl,rfl⟩) h
     . exact h.elim
   . next x y N O=>
     rw[jE N O]at g;split at h
     . next kd a F b m w=>obtain⟨rfl,h⟩:=h;exact nE g m w (.inr ⟨rfl,rfl⟩) h
     . exact h.elim
   . exact h.elim
 . exact h.elim
def oE(ops:Array Oper)(n:Nat)(env:Env)(o:Oper)(go no:Prop):Prop:=
 match o.guard with
 |none=>go
 | some (j,b)=>match (ops[j]?).bind (·.dst)with
   | some d=>d<n/\(match env d with
     |.lit (.bool x)=>(x=b->go)/\(x≠b->no)
     |.lit (.tuple _)=>no
     |_=>False)
   |none=>False
theorem pv{ops:Array Oper}{n:Nat}{env:Env}{o:Oper}{go no:Prop}(h:oE ops n env o go no):
 (bK ops n env o/\go)\/∃j b x d f,o.guard=some (j,b)/\ops[j]?=some f/\f.dst=some d/\d<n/\env d=.lit x/\Nf x b/\no:=by
 unfold oE at h;split at h
 . next g=>exact .inl ⟨by unfold bK;rw[g];trivial,h⟩
 . next j b g=>
   split at h
   . next d hd=>
     obtain⟨f,k,c⟩:=Option.bind_eq_some_iff.1 hd;obtain⟨e,h⟩:=h;split at h
     . next x i=>
       by_cases a:x=b
       . exact .inl ⟨by unfold bK;rw[g];exact⟨f,d,k,c,e,by rw[i,a]⟩,h.1 a⟩
       . exact .inr ⟨j,b,_,d,f,g,k,c,e,i,a,h.2 a⟩
     . next x i=>exact .inr ⟨j,b,_,d,f,g,k,c,e,i,trivial,h⟩
     . exact h.elim
   . exact h.elim
end
@[simp] theorem AV.Ms(v:Value):(AV.lit v).cells=[AV.lit v]:=rfl
@[simp] theorem AV.flat_lit(v:Value):(AV.lit v).flat=bG.flat v:=rfl
@[simp] theorem AV.Lr :(AV.bz).cells=[AV.bz]:=rfl
@[simp] theorem AV.Mt :(AV.bz).flat=false:=rfl
@[simp] theorem AV.Mw(l:List AV):(AV.agg l).cells=l:=rfl
@[simp] theorem AV.flat_agg(l:List AV):(AV.agg l).flat=false:=rfl
@[simp] theorem AV.Mx(l:List AV):(AV.cq l).cells=[AV.cq l]:=rfl
@[simp] theorem AV.Ni(l:List AV):(AV.cq l).flat=false:=rfl
@[simp] theorem AV.Nj(k:Nat)(es:List AV)(sp:bV):(AV.sl k es sp).cells=[AV.sl k es sp]:=rfl
@[simp] theorem AV.O9(k:Nat)(es:List AV)(sp:bV):(AV.sl k es sp).flat=true:=rfl
@[simp] theorem AV.Nk(v:AV)(off:Nat):(AV.cp v off).cells=[AV.cp v off]:=rfl
@[simp] theorem AV.Nl(b:Nat)(l:List AV)(hole:List Nat)(off:Nat):(AV.kp b l hole off).cells=[AV.kp b l hole off]:=rfl
@[simp] theorem AV.Pa(b:Nat)(l:List AV)(hole:List Nat)(off:Nat):(AV.kp b l hole off).flat=true:=rfl
@[simp] theorem AV.Pb(v:AV)(off:Nat):(AV.cp v off).flat=true:=rfl
@[simp] theorem AV.My(b off:Nat):(AV.ref b off).cells=[AV.ref b off]:=rfl
@[simp] theorem AV.Nm(b off:Nat):(AV.ref b off).flat=true:=rfl
@[simp] theorem AV.Mz(b off len cap:Nat):(AV.eu b off len cap).cells=[AV.eu b off len cap]:=rfl
@[simp] theorem AV.Nn(b off len cap:Nat):(AV.eu b off len cap).flat=true:=rfl
@[simp] theorem AV.No(f:Fn)(x y:List AV):(AV.fn f x y).cells=[AV.fn f x y]:=rfl
@[simp] theorem AV.Pd(f:Fn)(x y:List AV):(AV.fn f x y).flat=true:=rfl
@[simp] theorem AV.MB(t:TypeId)(v:AV):(AV.mS t v).cells=[AV.mS t v]:=rfl
@[simp] theorem AV.Np(t:TypeId)(v:AV):(AV.mS t v).flat=true:=rfl
@[simp] theorem AV.MC(b:Nat):(AV.map b).cells=[AV.map b]:=rfl
@[simp] theorem AV.Nq(b:Nat):(AV.map b).flat=true:=rfl
@[simp] theorem AV.Ls(b:Nat):(AV.chan b).cells=[AV.chan b]:=rfl
@[simp] theorem AV.MD(b:Nat):(AV.chan b).flat=true:=rfl
attribute [simp] cX am oE og Nh List.range List.range.loop Oper.ok Operand.ok Op.operands Call.operands oD aV Env.upd Mr I9 dN xy oneOf exitTo mH oA pj bX flat TI.agg kN lq fits
end Go.bG

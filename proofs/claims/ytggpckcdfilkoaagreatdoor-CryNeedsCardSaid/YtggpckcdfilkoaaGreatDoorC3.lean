import Derived.Laws.Sem
import Derived.Test.YtggpckcdfilkoaaGreatDoorC2
set_option linter.all false
namespace Go.bu
open Go.Conc
abbrev MC:=Nat->TypeId->AV->Prop
abbrev FT:=List (Int × AV)
abbrev Ci:=Exit->St->Prop
abbrev FI:=Env->af->Prop
abbrev YC:=fQ->af->Prop
abbrev CU:=AV->af->Prop
abbrev IM:=Option AV
abbrev FC:=af->Prop
abbrev We:=List AV
def F0  off :∀(l:EI)  s  (c:E7),off+s+l.length<=c.size ->
 ((l.zipIdx s).foldl (λcs  x=>cs.setIfInBounds (off+x.2) x.1) c).size=c.size/\
 ∀j ,((l.zipIdx s).foldl (λcs  x=>cs.setIfInBounds (off+x.2) x.1) c)[j]?=if off+s<=j/\j<off+s+l.length then l[j-(off+s)]? else c[j]?
 |[],s,c,_=>⟨rfl,(by simp_all [wN])⟩
 | v::l,s,c,h=>by
   obtain⟨a,b⟩:=F0 off l (s+1) (c.setIfInBounds (off+s) v) am;simp  [List.zipIdx_cons];refine⟨am,λj=>?_⟩;by_cases d:j=off+s
   . grind
   grind
def qt(place:Nat->Option (Nat × Nat))(l:We):List (Nat × AV)->Option We
 |[]=>some l
 | (i,a)::μ=>match place i with
   |none=>none
   |some (off,size)=>if a.cells.length=size/\off+size<=l.length/\a.cells.all AV.flat=true then qt place (aI l off a.cells) μ else none
def yO(k:az)(c:E7)(l:We):Prop:=c.size=l.length/\(∀(i:Nat) v a,c[i]?=some v->l[i]?=some a->V k v a)/\∀(i:Nat) v,c[i]?=some v->bu.flat v=true
def Cz{k place}:∀  m   n   c   l o ,m.length=n.length->(∀(i:Nat) p q,m[i]?=some p->n[i]?=some q->p.1=q.1/\V k p.2 q.2) ->
 yO k c l->qt place l n=some o->∃c',Instr.fill place c m=some c'/\yO k c' o
 |[],[],c,l,o,_,_,g,h=>by simp only[qt,td]at h;subst h;exact⟨c,rfl,g⟩
 | (i, v) :: m,(C,a)::n,c,l,o,w,y,g,h=>by
   obtain⟨z,r⟩:=y 0 (i,v) (C,a) rfl rfl;simp only at z r;subst z;unfold qt at h;unfold Instr.fill;cases A:place i with
   |none=>grind
   | some os=>
     obtain⟨off,size⟩:=os;rw[A]at h;simp only at h ⊢;split at h
     . next e=>
       obtain⟨D,H,E⟩:=e;obtain⟨B,I,J⟩:=r.cells E;have F:off+v.cells.size<=c.size:=by rw[B,D,g.1];omega
       have s:¬((decide (v.cells.size≠size)||decide (off+v.cells.size>c.size))=true):=am
       rw[wN s];have b:=F0 off v.cells.toList 0 c ac
       have f:(v.cells.zipIdx.foldl (λcs (x:Value × Nat)=>match x with|(c,j)=>cs.setIfInBounds (off+j) c) c)=((v.cells.toList.zipIdx 0).foldl (λcs (x:Value × Nat)=>cs.setIfInBounds (off+x.2) x.1) c):=by rw[<-Array.foldl_toList,Array.toList_zipIdx]
       rw[f];refine Cz m n _ (aI l off a.cells) o am (λj p q A K=>y (j+1) p q am am) ⟨?_,?_,?_⟩ h
       . rw[b.1,tu ac];exact g.1
       . intro j u x d t
         rw[b.2]at d;rw[C1 ac]at t
         simp only[Nat.add_zero,Array.length_toList,B]at d
         by_cases G:off<=j/\j<off+a.cells.length
         . grind
         . rw[wN G]at d t
           exact g.2.1 j u x d t
       . intro j u d
         rw[b.2]at d;split at d
         . grind
         . exact g.2.2 j u d
     grind
 |[],_::_,_,_,_,w,_,_,_=>am
 |_::_,[],_,_,_,w,_,_,_=>am
def AH{k}{ρ:I8->Value}{ε}{parts:Array (Nat × I8)}(h:∀p∈parts,V k (ρ p.2) (aA ε p.2)):
 (parts.map λ(i,x)=>(i,ρ x)).toList.length=(parts.toList.map λp=>(p.1,aA ε p.2)).length/\
 ∀(i:Nat) p q,(parts.map λ(i,x)=>(i,ρ x)).toList[i]?=some p->(parts.toList.map λp=>(p.1,aA ε p.2))[i]?=some q->p.1=q.1/\V k p.2 q.2:=by
 grind
section
variable{P:Rg}(L:lz P){o:Oper}{ε:Env}{σ:af}{K:CU}{Kp:CU}
def C6{k O Kp}:∀(fs:List Field) (a:List (Nat × Nat × Nat))  K ,
 (fs.map λf=>(f.offset,(P.info? f.type).map (·.size),f.type))=(a.map λx=>(x.1,some x.2.1,x.2.2))->K (a.map λx=>(x.1,x.2.1)) k O ->
 jm P (fs.mapM λf=>(do pure (f.offset,<-sizeOf f.type):Sem (Nat × Nat))) k O K Kp
 |[],[],K,_,b=>an b
 | f::fs,x::a,K,h,b=>by
   simp only[LM,List.cons.injEq,zG]at h;obtain⟨⟨g,c,_⟩,d⟩:=h;obtain⟨info,e,i⟩:=Fh.1 c;rw[List.mapM_cons];refine ag (ag (BD e (an ?_)));refine ag (C6 fs a _ d (an ?_))
   grind
 |[],_::_,_,h,_=>am
 |_::_,[],_,h,_=>am
def yP{i d}(h:iA P i d=true)(a:i.kind=.struct):∃fs,d=.struct fs/\(fs.toList.map λf=>(f.offset,(P.info? f.type).map (·.size),f.type))=(i.o6.map λx=>(x.1,some x.2.1,x.2.2)):=by
 cases d with
 | struct fs=>
   simp  [iA,vc]at h
   grind
 |_=>simp[iA,a]at h
def C7{k z}(h:(qZ z).cells.all AV.flat=true):yO k z.cells (qZ z).cells:=(V.qZ k z).cells h
def I2{t:Nat}{parts i l}(h:o.op=.build t parts)(f:L.tt t=some i)(m:i.kind=.struct)(n:(qZ i.zero).cells.all AV.flat=true)
 (q:qt (λj=>(i.o6[j]?).map λx=>(x.1,x.2.1)) (qZ i.zero).cells (parts.toList.map λp=>(p.1,aA ε p.2))=some l) (r:K (.agg l) σ):bt P o ε σ K Kp:=
 bt.val (s:=λc=>Instr.build t (parts.map λ(i,x)=>(i,c x))) (λc=>by simp[execOp,h]) λk O c u v=>by
  obtain⟨w,g⟩:=AH    (parts:=parts) λp g=>u p.2 (by simp[Op.operands];grind)
  obtain⟨z,y,b⟩:=Cz _ _ i.zero.cells _ l w g (C7 n) q;refine ag (fA L f (ag (aY L f λd _ hd=>?_)));obtain⟨fs,rfl,e⟩:=yP hd m;refine ag ?_;rw[Array.mapM_eq_mapM_toList,map_eq_pure_bind];refine ag (C6 fs.toList i.o6 _ e (an ?_));have a:(λj:Nat=>((i.o6.map λx=>(x.1,x.2.1)).toArray[j]?:Option _))=λj=>(i.o6[j]?).map λx=>(x.1,x.2.1):=am
  rw[a,y];exact an (.here ⟨.refl k,.agg l,σ,.agg _ _ b.1 b.2.1,v,r⟩)
def abk{t len e:Nat}{parts it b es}(R:o.op=.buildSlice t len parts)(X:L.tt t=some it)(Y:it.kind=.slice e)(S:L.tt e=some b)(B:len*b.size<=16777216)
 (Z:(qZ b.zero).cells.all AV.flat=true) (T:len*b.size=0\/(qZ b.zero).cells.length=b.size) (l:es.length=len/\∀e∈es,e.cells.length=b.size)
 (hf:qt (λj=>some (j*b.size,b.size)) ((List.range (len*b.size)).map λj=>(qZ b.zero).cells.getD (j % (qZ b.zero).cells.length) .eT) (parts.toList.map λp=>(p.1,aA ε p.2))=some (RP es)) (hK:K (.sl b.size es .exact) σ):bt P o ε σ K Kp:=
 bt.val (s:=λρ=>Instr.buildSlice t len (parts.map λ(i,x)=>(i,ρ x))) (λρ=>by simp[execOp,R]) λk O ρ hv hr=>by
  obtain⟨hl,U⟩:=AH (k:=k) (ρ:=ρ) (ε:=ε) (parts:=parts) λp U=>hv p.2 (by simp[R,Op.operands];grind)
  have h:=C7 (k:=k) Z;unfold Instr.buildSlice;refine ag (aY L X λd _ hd=>?_)
  rw[dD hd Y];dsimp only;refine ag (de L S ?_);rw[wN ac]
  have fin:∀(z:E7),(len*b.size=0\/z=b.zero.cells)->jm P (do
   let some cells:=Instr.fill (λi=>some (i*b.size,b.size)) ((Array.range (len*b.size)).map (z[· % z.size]!)) (parts.map λ(i,x)=>(i,ρ x)).toList|stuck  "buildSlice: a part of the wrong size"
   pure (.slice (some (<-newRow e cells)) len len):Sem Value) k O (λv m C=>sF m C λn F=>k.Le n/\∃a f,V n v a/\Rel n F f/\K a f) (λv m C=>k.Le m/\∃a f,V m v a/\Rel m C f/\Kp a f):=by
   intro z q
   have G:yO k ((Array.range (len*b.size)).map (z[· % z.size]!)) ((List.range (len*b.size)).map λj=>(qZ b.zero).cells.getD (j % (qZ b.zero).cells.length) .eT):=by
    refine⟨ap,λj v a u W=>?_,λj v u=>?_⟩
    . have D:j<len*b.size:=am
      rcases q with w|rfl
      . omega
      . have H:(qZ b.zero).cells.length≠0:=by
         grind
        have hm:j % (qZ b.zero).cells.length<(qZ b.zero).cells.length:=JP _ ac
        simp only[Kv,Array.getElem?_range,D,ZC,IP,td,Hi,List.getElem?_range]at u W;have e1:=h.1;subst u;subst W;refine h.2.1 (j % (qZ b.zero).cells.length) _ _ ?_ ?_
        . grind
        grind
    . have D:j<len*b.size:=am
      rcases q with w|rfl
      . omega
      . have H:(qZ b.zero).cells.length≠0:=by
         grind
        have hm:j % b.zero.cells.size<b.zero.cells.size:=by rw[h.1];exact JP _ ac
        simp only[Kv,Array.getElem?_range,D,ZC,IP,td]at u;subst u;refine h.2.2 (j % b.zero.cells.size) _ ?_
        grind
   obtain⟨E,hc,c⟩:=Cz _ _ _ _ _ hl U G hf;rw[hc];dsimp only;refine ag (tK λr m C hn I=>an ?_)
   obtain⟨n,F,g,y,J,M,N⟩:=I;refine⟨n,F,g,y,.sl b.size es .exact,σ,?_,N σ hr,hK⟩;have Q:=bL l.2;rw[show len=es.length from l.1.symm]
   refine V.ofRow (AK _) M (by rw[c.1,Q];omega) l.2 (λj a ha=>?_) rfl
   have D:j<E.size:=by rw[c.1];grind
   have A:E[j]?=some E[j]:=am
   exact⟨E[j],am,(c.2.1 j _ a A ha).mono y,c.2.2 j _ A⟩
  by_cases w:len*b.size=0
  . rw[wS w]
    exact ag (an (fin #[] (.inl w)))
  . rw[wN w]
    exact ag (fA L S (ag (an (fin _ (.inr rfl)))))
end
inductive Md where
 |ret
 |Zs (v:AV)
def C8(k:az):FrameMode->Md->Prop
 |.returning,.ret=>True
 |.panicking c,.Zs v=>∃a,c=[⟨a,false,false⟩]/\V k a v
 |_,_=>False
def C8.mono{k k'}(b:k.Le k'){fm a}(h:C8 k fm a):C8 k' fm a:=by
 cases fm<;>cases a<;>simp  [C8]at h ⊢;obtain⟨c,d,e⟩:=h;exact⟨c,d,e.mono b⟩
def xT(P:Rg)(m:Mo)(f:Fn)(cap args:We)(i:Md)(σ:af)(j:Md->FC):Prop:=
 ∀ Q k O (fr:Frame) cs e g,fr.kind≠.early->C8 k fr.mode i->Vs k e cap->Vs k g args->Rel k O σ ->
   (∀d h b c a,k.Le d->C8 d a b->Rel d h c->j b c->T P m Q d h (G {fr with mode:=a} cs)) ->
   T P m Q k O (G {fr with defers:={target:=.fn f e.toArray,args:=g.toArray}::fr.defers} cs)
def I3{P}(L:lz P)(ε:Env)(σ:af):ResultVar->IM
 |.tmp t=>some (ε t)
 |.cell a t=>match L.tt t with|some i=>xR i σ (ε a)|none=>none
def jy{P}(L:lz P)(ε:Env)(σ:af):List ResultVar->Option We
 |[]=>some []
 |r::rs=>match I3 L ε σ r,jy L ε σ rs with|some a,some l=>some (a::l)|_,_=>none
def oneOf:We->AV
 |[a]=>a
 |l=>.cx l
def ResultVar.ok(n:Nat):ResultVar->Bool
 |.tmp t=>t<n
 |.cell a _=>a<n
def Rf{P}(L:lz P)(m:Mo)(rs:List ResultVar)(ε:Env)(KF:YC):List Fg->Md->FC
 |[],.ret,σ=>∃l,jy L ε σ rs=some l/\KF (.val (oneOf l)) σ
 |[],.Zs v,σ=>KF (.panic v) σ
 |.mark r::D,a,σ=>σ r=some (.raw (.deferred (some [])))/\Rf L m rs ε KF D a (σ.set r (.raw (.deferred none)))
 |.call f cap args::D,a,σ=>xT P m f cap args a σ λb c=>Rf L m rs ε KF D b c
section
variable{P:Rg}(L:lz P){m:Mo}{f:FuncId}{fn:Func}
def I4{α β:Type}{k O Kp}  g :∀(l:List α)  K  (R:α->β->Prop),
 (∀x∈l,∀  a ,(∀y,R x y->a y k O)->jm P (g x) k O a Kp)->(∀r ,r.length=l.length->(∀(i:Nat) x y,l[i]?=some x->r[i]?=some y->R x y)->K r k O)->jm P (l.mapM g) k O K Kp
 |[],K,R,_,h=>(by grind [an])
 | x::l,K,R,b,h=>by
   rw[List.mapM_cons];refine ag (b x ap _ λy e=>?_);refine ag (I4 g l _ R am λr c d=>?_)
   grind [an]
def yQ{ε σ}:∀{rs l},jy L ε σ rs=some l->l.length=rs.length/\∀(i:Nat) r a,rs[i]?=some r->l[i]?=some a->I3 L ε σ r=some a
 |[],l,h=>by simp  [jy]at h;grind
 | r :: rs,l,h=>by
   unfold jy at h;cases c:I3 L ε σ r with
   |none=>grind
   | some a=>
     cases b:jy L ε σ rs with
     |none=>grind
     | some d=>
       obtain⟨e,f⟩:=yQ b
       grind
theorem ajo{k O Kp K τ ε σ l}(y:kz k τ ε)(N:fn.results.all (ResultVar.ok τ.size)=true)(B:Rel k O σ)
 (C:jy L ε σ fn.results.toList=some l) (D:∀v,V k v (oneOf l)->K v k O):jm P (results fn τ) k O K Kp:=by
 obtain⟨Q,E⟩:=yQ L C;unfold results;refine ag ?_;rw[Array.mapM_eq_mapM_toList,map_eq_pure_bind];have n:∀r∈fn.results.toList,ResultVar.ok τ.size r=true:=(by grind [Array.all_eq_true_iff_forall_mem]);refine ag (I4 _ fn.results.toList _ (λr v=>∀a,I3 L ε σ r=some a->V k v a) (λr g F h=>?_) λvs G o=>an ?_)
 . have f:=n r g
   cases r with
   |tmp t=>exact an (h _ λa p=>by simp only[I3,td]at p;subst p;exact y t (by simpa[ResultVar.ok]using f))
   | cell a t=>
     obtain⟨j,H,q⟩:=FG.1 g;have I:j<l.length:=ac
     have c:=E j _ l[j] (kn H) am;rw[q]at c;simp only[I3]at c;cases s:L.tt t with
     |none=>grind
     | some i=>
       rw[s]at c;simp only at c;have w:=y a (by simpa[ResultVar.ok]using f);obtain⟨R,e⟩:=w.Rs (FY c);rw[e]at w;obtain⟨b,base,off,row,rfl,m,J⟩:=IV B w c;show jm P (do loadVar t (<-asAddr (τ.getD a undef))) k O F Kp;rw[e];refine ag (an (sG L m s J λv z=>h v λS x=>?_));simp only[I3,s,c,td]at x
       grind
 . refine an (D _ ?_)
   have d:∀(i:Nat) v a,vs[i]?=some v->l[i]?=some a->V k v a:=λi v a z p=>by
    have M:i<fn.results.toList.length:=am
    exact o i _ v (kn M) z a am
   have hlen:vs.length=l.length:=ac
   by_cases A:vs.toArray.size=1
   . rw[dif_pos A]
     match l,vs,hlen,d with
     |[a],[v],_,d=>exact d 0 v a rfl rfl
     |[],[],_,_=>grind
     |a::b::l,u::v::vs,_,_=>grind
   . rw[dif_neg A]
     match l,vs,hlen,d with
     |[],[],_,d=>exact .cx _ _ rfl am
     |[a],[v],_,d=>grind
     |a::b::l,u::v::vs,hlen,d=>exact .cx _ _ ac am
def T.I6{α Q k O g s φ}(f:g.status=.running){K}{nxt:α->World->GStep}(b:∀a k' O' w',k.Le k'->Sat k' O' w'->K a k' O'->∃g',nxt a w'=.go g' w' #[]/\T P m Q k' O' g')
 (i:∀w a w',(s.runT P w #[]).1=.ok a w'->stepG P m.main g w=GStep.after (seen P φ (s.runT P w #[]).2) (nxt a w')) (h:jm P s k O K (λ_ _ _=>False)):T P m Q k O g:=
 .step (λk' O' x=>T P m Q k' O' x) f am λw j=>by
  obtain⟨k',O',w',l,c,d,t,n⟩:=AE s #[] h j;rcases n with⟨a,o,p⟩|⟨v,_,u⟩
  . obtain⟨g',q,r⟩:=b a k' O' w' c.le d p
    refine⟨g',w',seen P φ (s.runT P w #[]).2,k',O',?_,c.sub (λe y=>?_),d,r⟩
    . rw[i w a w' o,q];simp[GStep.after]
    grind [CZ]
  grind
def I7{Q KF n ν c μ}(Y:P.funcs[f]?=some fn)(Z:fn.results.all (ResultVar.ok n)=true)(b:ν≠.early){ε}:
 ∀  D   p   σ   k   O   τ   todo   ξ   fm ,τ.size=n->kz k τ ε->Rel k O σ->FW k ξ D->C8 k fm p->Rf L m fn.results.toList ε KF D p σ ->
  (∀k' O' i y σ',k.Le k'->V k' i y->Rel k' O' σ'->KF (.val y) σ'->T P m Q k' O' (qz ν c μ i)) ->
  (∀k' O' i y σ',k.Le k'->V k' i y->Rel k' O' σ'->KF (.panic y) σ'->T P m Q k' O' (G (c.raise [⟨i,false,false⟩]) μ)) ->
  T P m Q k O (G ⟨f,τ,todo,ξ,fm,ν,none⟩ (c::μ)):=by
 intro D
 induction D with
 | nil =>
   intro p σ k O τ todo ξ fm z he u hd a A E F;cases ξ with
   |cons _ _=>exact hd.elim
   | nil =>
     cases fm with
     |run=>cases p<;>exact a.elim
     | returning=>
       cases p with
       |Zs v=>exact a.elim
       | ret=>
         obtain⟨l,hl,hK⟩:=A;refine T.I6 (φ:=f) (s:=results fn τ) rfl (K:=λv k' O'=>k'=k/\O'=O/\V k v (oneOf l)) (nxt:=λv w=>doReturn P m.main ⟨f,τ,todo,[],.returning,ν,none⟩ (c::μ) none v w) ?_ ?_ ?_
         . rintro v k' O' w' _ _ ⟨rfl,rfl,H⟩
           have ht:=E k' O' v _ σ (.refl _) H u hK;cases ν<;>first|exact absurd rfl b|exact⟨_,rfl,ht⟩
         . intro w v w' q
           simp only[G,stepG,unwind,Y]
           grind
         grind [ajo]
     | panicking ch=>
       cases p with
       |ret=>exact a.elim
       | Zs v=>
         obtain⟨i,rfl,I⟩:=a;refine T.fZ (g':=G (c.raise [⟨i,false,false⟩]) μ) rfl (λw=>?_) (F k O i v σ (.refl _) I u A)
         have B:Frame.catches P ⟨f,τ,todo,[],.panicking [⟨i,false,false⟩],ν,none⟩=false:=by simp[Frame.catches,Y]
         simp only[G,stepG,unwind,B];rfl
 | cons d D ih=>
   intro p σ k O τ todo ξ fm z he u hd a A E F;cases ξ with
   |nil=>exact hd.elim
   | cons df ξ=>
     obtain⟨j,J⟩:=hd;have M:fm≠.run:=λe=>by subst e;cases p<;>exact a.elim
     cases d with
     | mark r=>
       obtain⟨h1,h2⟩:=A;have j:df={target:=.collected r,args:=#[]}:=j;subst j;refine T.I6 (φ:=f) (s:=Instr.takeDeferred r) rfl (K:=λcalls k' O'=>calls=[]/\k'=k/\Rel k O' (σ.set r (.raw (.deferred none)))) (nxt:=λcalls w=>.go (G ⟨f,τ,todo,calls++ξ,fm,ν,none⟩ (c::μ)) w) ?_ ?_ ?_
       . grind
       . intro w v w' q
         cases fm with
         |run=>grind
         |_=>simp only[G,stepG,unwind];rw[show(Instr.takeDeferred r).runT P w #[]=(((Instr.takeDeferred r).runT P w #[]).1,((Instr.takeDeferred r).runT P w #[]).2)from rfl,q]
       . obtain⟨x,hx,N⟩:=u.1 r _ h1 ap
         cases N with
         | raw _ hc=>
           unfold Instr.takeDeferred;refine ag (s:=getObj r) ⟨_,hx,rfl,?_⟩;refine ag (s:=setObj r _) ⟨am,rfl,an ⟨rfl,rfl,?_⟩⟩
           exact u.set (.raw _ rfl)
     | call g cap args=>
       obtain⟨cc,ca,rfl,R,S⟩:=j
       have:=A Q k O ⟨f,τ,todo,ξ,fm,ν,none⟩ (c::μ) cc.toList ca.toList b a R S u λk' O' U σ' t o C W X=>ih U σ' k' O' τ todo ξ t z (he.mono o) W (J.mono o) C X (λ_ _ _ _ _ h=>E _ _ _ _ _ (o.trans h)) (λ_ _ _ _ _ h=>F _ _ _ _ _ (o.trans h))
       omega
def fR(args:We):Env:=λt=>args.getD t .eT
def AI{k cargs args}(h:Vs k cargs args)  n :kz k (cargs.toArray++Array.replicate n undef) (fR args):=λt c=>by
 by_cases b:t<cargs.length
 . have a:t<args.length:=by rw[<-h.1];omega
   have:(cargs.toArray++Array.replicate n undef).getD t undef=cargs[t]:=aq
   have d:fR args t=args[t]:=by simp[fR,a]
   exact h.2 t _ _ am am
 . have:fR args t=.eT:=by
    unfold fR;rw[sg,Mk (by rw[<-h.1];omega)];rfl
   rw[this];exact .eT _
def L6{P}(L:lz P)(m:Mo)(rs:List ResultVar)(KF:YC):Ci
 |.leave none,s=>s.rc=.no/\Rf L m rs s.env KF s.D .ret s.σ
 |.leave (some .ret),s=>s.rc=.no/\Rf L m rs s.env KF s.D .ret s.σ
 |.leave _,_=>False
 |.panic v,s=>s.rc=.no/\Rf L m rs s.env KF s.D (.Zs v) s.σ
theorem Wu{Q KF n ν c μ}(hf:P.funcs[f]?=some fn)(b:fn.results.all (ResultVar.ok n)=true)(a:ν≠.early){k}
 (p:∀k' O' e g σ',k.Le k'->V k' e g->Rel k' O' σ'->KF (.val g) σ'->T P m Q k' O' (qz ν c μ e))
 (q:∀k' O' e g σ',k.Le k'->V k' e g->Rel k' O' σ'->KF (.panic g) σ'->T P m Q k' O' (G (c.raise [⟨e,false,false⟩]) μ)):
 CY P m Q f n none ν (c::μ) (L6 L m fn.results.toList KF) k where
 leave k' O' τ ξ s todo d hle hs r i:=by
  have key:s.rc=.no/\Rf L m fn.results.toList s.env KF s.D .ret s.σ/\(d=none\/d=some .ret):=by
   rcases r with⟨_,rfl⟩|⟨_,_,rfl⟩|⟨_,_,_,_,rfl⟩
   . exact⟨i.1,i.2,.inl rfl⟩
   . exact⟨i.1,i.2,.inr rfl⟩
   . exact i.elim
  obtain⟨j,l,t⟩:=key;rw[j];refine T.fZ (g':=G ⟨f,τ,todo,ξ,.returning,ν,none⟩ (c::μ)) rfl (λw=>?_) ?_
  . rcases r with⟨rfl,rfl⟩|⟨u,rfl,rfl⟩|⟨_,_,_,_,rfl⟩
    . simp[G,stepG,stepG.exec,oV]
    . simp[G,stepG,stepG.exec,oV]
    grind
  . exact I7 L hf b a s.D .ret s.σ k' O' τ todo ξ .returning hs.size hs.env hs.rel hs.ds trivial l (λ_ _ _ _ _ h=>p _ _ _ _ _ (hle.trans h)) (λ_ _ _ _ _ h=>q _ _ _ _ _ (hle.trans h))
 panic k' O' τ ξ s todo e g hle hs o i:=by obtain⟨j,l⟩:=i;rw[j];exact I7 L hf b a s.D (.Zs g) s.σ k' O' τ todo ξ _ hs.size hs.env hs.rel hs.ds ⟨e,rfl,o⟩ l (λ_ _ _ _ _ h=>p _ _ _ _ _ (hle.trans h)) (λ_ _ _ _ _ h=>q _ _ _ _ _ (hle.trans h))
def ar.intro{args σ KF body}(j:P.funcs[f]?=some fn)(hb:fn.body=some body)(n:args.length<=fn.ntmps)(i:fn.results.all (ResultVar.ok fn.ntmps)=true)
 (h:Go P m f fn.ntmps none [.code body] ⟨fR args,σ,[],.no⟩ (L6 L m fn.results.toList KF)):ar P m f args σ KF:=λQ k O a c μ ν d b l o p=>by
 have g:(a.toArray++Array.replicate (fn.ntmps-a.length) undef).size=fn.ntmps:=by simp;rw[b.1];omega
 have e:Frame.enter P f a.toArray ν=⟨f,a.toArray++Array.replicate (fn.ntmps-a.length) undef,[.code body],[],.run,ν,none⟩:=by simp[Frame.enter,j,hb]
 rw[e];exact h Q k O _ [] ν _ d ⟨g,AI b _,l,trivial,trivial⟩ (by grind [Wu])
def Ws:We->We->Prop
 |[],[]=>True
 |a::l,b::r=>a.W b/\Ws l r
 |_,_=>False
def Ws.vs{k}:∀{c l e},Ws l e->Vs k c l->Vs k c e
 |[],[],[],_,_=>.nil
 |v::c,a::l,b::r,h,d=>.cons (h.1 k v (d.2 0 v a rfl rfl)) (Ws.vs h.2 ⟨by simpa using d.1,λi x y f g=>d.2 (i+1) x y am am⟩)
 |_,[],_::_,h,_=>h.elim
 |_,_::_,[],h,_=>h.elim
 |[],_::_,_,_,d=>by simp[Vs]at d
 |_::_,[],_,_,d=>by simp[Vs]at d
def cQ.func{first cap args σ KF}(t:P.funcs[f]?=some fn)(hb:fn.body.isSome=true)(g:(fn.name==  "runtime.NumGoroutine")=false)(h:ar P m f (first++args++cap) σ KF):
 cQ P m (.fn (.func f) first cap) args σ KF:=λQ k O cf b fr cs j c u l n d o w=>by
 cases j with
 | fn _ r s z A B x C y=>
   refine iB ?_;refine ag (an ?_);refine ag (cO ?_);rw[t];have p:fn.body.isNone=false:=aq
   simp only[g,p,zA];refine an λ_=>⟨d,?_⟩
   have e:r++b.toArray++s=(r.toList++b++s.toList).toArray:=ap
   rw[e];exact h Q k O _ fr cs .normal ap (Vs.append (Vs.append   ⟨ac,λi v a o q=>x i v a aq q⟩ c)  ⟨ac,λi v a o q=>y i v a aq q⟩) u o w
def cQ.mono{c args σ KF b}(h:cQ P m c args σ KF)(l:∀r σ,KF r σ->b r σ):cQ P m c args σ b:=λQ k O cf a fr cs d e f g i j n o=>h Q k O cf a fr cs d e f g i j am am
def cQ.weaken{b args args' σ KF}(h:cQ P m b args' σ KF)(c:Ws args args'):cQ P m b args σ KF:=λQ k O cf a fr cs d e f g i j l n=>h Q k O cf a fr cs d (c.vs e) f g i j l n
variable{φ n:Nat}{ro:Dm}{s:St}{K:Ci}{k:AJ}
def Go.call{ο i μ o fo args u}(D:ο[i]?=some o)(g:o.op=.call ⟨.value fo,args,u⟩)(J:dC ο n s.env o)(y:Oper.ok n o=true)
 (h:cQ P m (aA s.env fo) (args.toList.map (aA s.env)) s.σ (λr σ'=>match r with
   |.val a=>Go P m φ n ro (.inRegion ο μ::k) {s with env:=cG s.env o.dst a,σ:=σ'} K
   |.panic v=>K (.panic v) {s with σ:=σ'})):
 Go P m φ n ro (.inRegion ο (i::μ)::k) s K:=λQ kk O τ ξ ν cs E c F=>by
 refine T.uL (λw=>iI D (lU c.size c.env J) am w) ?_
 have f:∀x∈o.op.operands,V kk (Frame.eval ⟨φ,τ,.inRegion ο (i::μ)::k,ξ,.run,ν,ro⟩ x) (aA s.env x):=λx G=>by
  refine V.eval c.env c.size x ?_;simp only[Oper.ok,vc,HV]at y
  grind
 have e:execOp (Frame.eval ⟨φ,τ,.inRegion ο (i::μ)::k,ξ,.run,ν,ro⟩) o=(do let d <-Deferred.ofValue (Frame.eval ⟨φ,τ,.inRegion ο (i::μ)::k,ξ,.run,ν,ro⟩ fo) ((args.toList.map (Frame.eval ⟨φ,τ,.inRegion ο (i::μ)::k,ξ,.run,ν,ro⟩)).toArray);invoke d.target d.args):=by
  have L:(args.toList.map (Frame.eval ⟨φ,τ,.inRegion ο (i::μ)::k,ξ,.run,ν,ro⟩)).toArray=args.map (Frame.eval ⟨φ,τ,.inRegion ο (i::μ)::k,ξ,.run,ν,ro⟩):=am
  rw[L];simp only[execOp,g,resolve]
 rw[e];refine h Q kk O _ _ _ _ (f fo (by simp[g,Op.operands,Call.operands])) ⟨ap,λj v a q t=>?_⟩ c.rel rfl E am (λz A H I σ' b l B C=>?_) (λz A H I σ' b l B C=>?_)
 . simp only[Hi]at q t
   cases G:args.toList[j]? with
   |none=>grind
   |some x=>rw[G]at q t;simp only[IP,td]at q t;subst q;subst t;exact f x (by simp only[g,Op.operands,Call.operands];grind)
 . obtain⟨p,M,N⟩:=c.put (φ:=φ) (ro:=ro) (μ:=μ) (kk:=k) b D l B
   rw[M];exact C Q z A p ξ ν cs E N (F.mono b)
 . exact F.panic z A τ ξ {s with σ:=σ'} _ H I b ⟨c.size,c.env.mono b,B,c.ds.mono b,c.rc.mono b⟩ l C
def Go.defer{ο i μ o fo args r f first cap}(t:ro=none)(B:ο[i]?=some o)(d:o.op=.defer ⟨.value fo,args,r⟩)(E:dC ο n s.env o)(u:Oper.ok n o=true)
 (y:aA s.env fo=.fn f first cap) (h:Go P m φ n ro (.inRegion ο μ::k) {s with env:=cG s.env o.dst .eT,D:=.call f cap (first++args.toList.map (aA s.env))::s.D} K):
 Go P m φ n ro (.inRegion ο (i::μ)::k) s K:=λQ kk O τ ξ ν cs F e H=>by
 refine T.uL (λw=>iI B (lU e.size e.env E) (.inl t) w) (iB ?_)
 have c:∀x∈o.op.operands,V kk (Frame.eval ⟨φ,τ,.inRegion ο (i::μ)::k,ξ,.run,ν,ro⟩ x) (aA s.env x):=λx C=>by
  refine V.eval e.env e.size x ?_;simp only[Oper.ok,vc,HV]at u
  grind
 have z:=c fo (by simp[d,Op.operands,Call.operands]);rw[y]at z;generalize I:Frame.eval _ fo=cf at z;cases z with
 | fn _ l A M N R S U W=>
   simp  [execOp,d,resolve,I,Deferred.ofValue];refine ag (an (an λ_=>?_));obtain⟨b,J,g⟩:=e.put (φ:=φ) (ro:=ro) (μ:=μ) (kk:=k) (v:=undef) (a:=.eT) (.refl _) B (.eT _) e.rel
   have L:Frame.finish ⟨φ,τ,.inRegion ο (i::μ)::k,{target:=.fn f A,args:=l++args.map (Frame.eval ⟨φ,τ,.inRegion ο (i::μ)::k,ξ,.run,ν,ro⟩)}::ξ,.run,ν,ro⟩ undef=
    ⟨φ,b,.inRegion ο μ::k,{target:=.fn f A,args:=l++args.map (Frame.eval ⟨φ,τ,.inRegion ο (i::μ)::k,ξ,.run,ν,ro⟩)}::ξ,.run,ν,ro⟩:=by
    simp  [Frame.finish,Frame.mk.injEq]at J ⊢;omega
   show T P m Q kk O (G _ _);rw[L];refine h Q kk O b _ ν cs F ⟨g.size,g.env,g.rel,⟨⟨A,_,rfl,⟨ac,am⟩,?_⟩,g.ds⟩,g.rc⟩ H;have:(l++args.map (Frame.eval ⟨φ,τ,.inRegion ο (i::μ)::k,ξ,.run,ν,ro⟩)).toList=l.toList++args.toList.map (Frame.eval ⟨φ,τ,.inRegion ο (i::μ)::k,ξ,.run,ν,ro⟩):=ap
   rw[this];refine Vs.append ⟨ac,am⟩ ⟨ap,λj v a p q=>?_⟩;simp only[Hi]at p q;cases C:args.toList[j]? with
   |none=>grind
   |some x=>rw[C]at p q;simp  [IP,td]at p q;subst p;subst q;exact c x (by simp  [d,Op.operands,Call.operands];grind)
end
def rf (ε:Env):List Tmp->We->Env
 | t :: b,a :: as=>rf (ε.upd t a) b as
 | _,_=>ε
def C9 {k}:∀  ts   vs   as   τ   ε ,Vs k vs as->kz k τ ε ->
 ((ts.zip vs).foldl (fun τ  x  => τ.setIfInBounds x.1 x.2) τ).size=τ.size∧kz k ((ts.zip vs).foldl (fun τ  x  => τ.setIfInBounds x.1 x.2) τ) (rf ε ts as)
 | [],vs,as,τ,ε,_,c=>by cases as <;> exact⟨rfl,c⟩
 | t :: ts,[],as,τ,ε,b,c=>by
   have:as=[]:=by have:=b.1;grind
   subst this;exact⟨rfl,c⟩
 | t :: ts,v :: vs,[],τ,ε,b,c=>by simp[Vs] at b
 | t :: ts,v :: vs,a :: as,τ,ε,b,c=>by
   have d:V k v a:=b.2 0 v a rfl rfl;have e:Vs k vs as:=⟨by simpa using b.1,fun i x y g h=>b.2 (i+1) x y am am⟩
   obtain⟨j,f⟩:=C9 ts vs as (τ.setIfInBounds t v) _ e (c.upd d);exact⟨aq,by simpa  [rf] using f⟩
section
variable{P:Rg}{m:Mo}{φ n:Nat}{s:St}{K:Ci}{k:AJ}
def sH{kk O Kp σ l a R}(c:Rel kk O σ)(d:σ l=some (.loop a))(e:∀τ,τ.size=a.n->kz kk τ a.env->R ⟨a.state,a.pending,a.fn,τ,a.params,a.assign,a.body,a.defers⟩ kk O):
 jm P (Instr.getLoop l) kk O R Kp:=by
 obtain⟨x,f,b⟩:=c.1 l _ d ap;cases b with
 |loop _ τ g h=>exact ag  ⟨_,f,rfl,an (e τ g h)⟩
def Go.rangeFunc{f params assign body}(hf:Operand.ok n f=true)
 (h:∀ r l,s.σ r=none->s.σ l=none->r≠l->cQ P m (aA s.env f) [.fn (.yield l) [] []] ((s.σ.set r (.raw (.deferred (some [])))).set l (.loop ⟨.ready,none,φ,n,s.env,params,assign,body,r⟩))
   (fun res σ'=>match res with
     |.val _=>∃a,σ' l=some (.loop a)/\a.state≠.busy/\Go P m φ n none ((a.pending.map Item.code).toList++k) {s with σ:=σ'.del l,D:=.mark r::s.D} K
     |.panic v=>K (.panic v) {s with σ:=σ',D:=.mark r::s.D})):Go P m φ n none (.code (.rangeFunc f params assign body)::k) s K:=
 λQ kk O τ ξ ν cs h1 g h3=>by
 refine .step (λq t x=>T P m Q q t x) rfl am λw hw=>?_
 have y:jm P (Instr.enterLoop φ τ params assign body none) kk O (λx F I=>∃r l,x=(l,[{target:=.collected r,args:=#[]}])/\s.σ r=none/\s.σ l=none/\r≠l/\kk.Le F/\
  Rel F I ((s.σ.set r (.raw (.deferred (some [])))).set l (.loop ⟨.ready,none,φ,n,s.env,params,assign,body,r⟩))) (λ_ _ _=>False):=by
  unfold Instr.enterLoop;refine ag (ag (s:=newObj _) ⟨rfl,λr hr=>an (an ?_)⟩)
  refine ag (s:=newObj _) ⟨rfl,λl J=>an (an ⟨r,l,rfl,g.rel.isNone hr.1 hr.2.2,?_,?_,.refl _,?_⟩)⟩
  . have:=J.1
    by_cases e:l=r
    . subst e;simp[au.set]at this
    . simp only[au.set,e,LK]at this
      have z:=J.2.2;simp only[az.made]at z;exact g.rel.isNone this z
  . intro e
    subst e;have:=J.1;simp[au.set]at this
  . exact(g.rel.set (.raw _ rfl)).set (.loop ⟨.ready,none,φ,n,s.env,params,assign,body,r⟩ τ g.size g.env)
 obtain⟨F,I,w1,l1,e1,s1,a7,c1⟩:=AE _ #[] y hw
 rcases c1 with⟨x,hx,r,l,rfl,A,B,L,c,C⟩|⟨_,_,hF⟩
 . have hv:=V.eval (fr:=⟨φ,τ,.inRangeFunc l::k,{target:=.collected r,args:=#[]}::ξ,.run,ν,none⟩) (g.env.mono c) g.size f hf
   have u:=h r l A B L Q F I _ [.func (.yield l) #[] #[]] ⟨φ,τ,.inRangeFunc l::k,{target:=.collected r,args:=#[]}::ξ,.run,ν,none⟩ (oV s.rc cs) hv (.cons (.fn _ _ _ _ _ rfl am rfl am) .nil) C rfl h1 am
    (λq t cv av σ' b E i M=>?_) (λq t cv av σ' b E i M=>?_) w1 s1
   . obtain⟨g',w',es,q,t,a1,a2,a3,a4⟩:=u
     refine⟨g',w',seen P φ ((Instr.enterLoop φ τ params assign body none).runT P w #[]).2++es,q,t,?_,?_,a3,a4⟩
     . simp only[G,stepG,stepG.exec]
       rw[show(Instr.enterLoop φ τ params assign body none).runT P w #[]=(((Instr.enterLoop φ τ params assign body none).runT P w #[]).1,((Instr.enterLoop φ τ params assign body none).runT P w #[]).2)from rfl,hx]
       simp only
       have N:stepG.apply P true ⟨φ,τ,.inRangeFunc l::k,[{target:=.collected r,args:=#[]}]++ξ,.run,ν,none⟩ (oV s.rc cs) none (do let d <-resolve (Frame.eval ⟨φ,τ,.inRangeFunc l::k,[{target:=.collected r,args:=#[]}]++ξ,.run,ν,none⟩) {callee:=.value f,args:=#[.const (.func (.yield l) #[] #[])],argTypes:=#[]} 0;invoke d.target d.args) w1=.go g' w' es:=by rw[<-a1];simp[resolve,Frame.eval]
       rw[N];rfl
     . refine(Eff.trans e1 a2).sub λe he=>?_
       grind [Array.toList_append,CZ]
   ·
    obtain⟨a,ha,hb,R⟩:=M
    have a8:∀w,stepG P m.main (G ⟨φ,τ,.endRangeFunc l::k,{target:=.collected r,args:=#[]}::ξ,.run,ν,none⟩ (oV s.rc cs)) w=GStep.after (seen P φ ((Instr.endLoop l).runT P w #[]).2) (match ((Instr.endLoop l).runT P w #[]).1 with
     |.ok p w=>.go (G ⟨φ,τ,(p.map Item.code).toList++k,{target:=.collected r,args:=#[]}::ξ,.run,ν,none⟩ (oV s.rc cs)) w
     |.halt (.panic v) w=>.go (G (Frame.raise ⟨φ,τ,.endRangeFunc l::k,{target:=.collected r,args:=#[]}::ξ,.run,ν,none⟩ [{v,recovered:=false}]) (oV s.rc cs)) w
     |.halt _ w=>.ended (.stuck  "range over a function: no such loop" (Frame.pos P ⟨φ,τ,.endRangeFunc l::k,{target:=.collected r,args:=#[]}::ξ,.run,ν,none⟩)) w):=λw=>by
     simp only[G,stepG,stepG.exec];rfl
    show T P m Q q t (G ⟨φ,τ,.endRangeFunc l::k,{target:=.collected r,args:=#[]}::ξ,.run,ν,none⟩ (oV s.rc cs));refine T.I6 (φ:=φ) (s:=Instr.endLoop l) rfl (K:=λj H S=>j=a.pending/\H=q/\Rel H S (σ'.del l)) (nxt:=λp w=>.go (G ⟨φ,τ,(p.map Item.code).toList++k,{target:=.collected r,args:=#[]}::ξ,.run,ν,none⟩ (oV s.rc cs)) w) ?_ ?_ ?_
    . rintro j H S w2 _ _ ⟨rfl,rfl,U⟩
      exact⟨_,rfl,R Q H S τ ({target:=.collected r,args:=#[]}::ξ) ν cs h1 ⟨g.size,g.env.mono (c.trans b),U,⟨rfl,g.ds.mono (c.trans b)⟩,g.rc.mono (c.trans b)⟩ (h3.mono (c.trans b))⟩
    . grind
    . unfold Instr.endLoop
      refine ag (sH i ha λW _ _=>?_)
      have X:(a.state==LoopState.busy)=false:=am
      simp only[X,zA,LK];obtain⟨x,a9,Y⟩:=i.1 l _ ha ap
      have Z:∃o,x=.obj o/\mZ o=false:=by
       cases Y with
       |loop _ _ _ _=>exact⟨_,rfl,rfl⟩
      obtain⟨o,rfl,ho⟩:=Z;refine ag (s:=setObj l _) ⟨am,rfl,an ⟨rfl,rfl,?_⟩⟩
      exact i.drop l _
   . exact h3.panic q t τ ({target:=.collected r,args:=#[]}::ξ) {s with σ:=σ',D:=.mark r::s.D} _ cv av (c.trans b) ⟨g.size,g.env.mono (c.trans b),i,⟨rfl,g.ds.mono (c.trans b)⟩,g.rc.mono (c.trans b)⟩ E M
 grind
def Ry(l:Nat)(KF:YC):Ci
 |.leave b,s=>s.D=[]/\s.rc=.no/\∃a,s.σ l=some (.loop a)/\KF (.val (.lit (.bool b.isNone))) (s.σ.set l (.loop {a with state:=if b.isNone then .ready else .done,pending:=b}))
 |.panic v,s=>s.D=[]/\s.rc=.no/\KF (.panic v) s.σ
def cQ.yield{l args σ KF a fn}(hf:P.funcs[a.fn]?=some fn)(hl:σ l=some (.loop a))(hn:args.length=a.params.size)
 (h:Go P m a.fn a.n (some l) [.code a.assign,.beginRound,.code a.body] ⟨rf a.env a.params.toList args,σ,[],.no⟩ (Ry l KF)):cQ P m (.fn (.yield l) [] []) args σ KF:=λQ X O cf c fr cs z f Y A B C hv hp=>by
 cases z with
 | fn _ c1 c2 l1 l2 g1 g2 g3 g4=>
   have e1:c1=#[]:=am
   have e2:c2=#[]:=am
   subst e1 e2;refine iB ?_;simp only[Deferred.ofValue];refine ag (an ?_);simp only[invoke,Instr.yield];refine ag (sH Y hl λτ hs he=>?_)
   have D:¬(#[]++c.toArray).size≠a.params.size:=by simp;rw[f.1,hn]
   simp only[wN D];refine an λ_=>?_
   obtain⟨q1,q2⟩:=C9 a.params.toList c args τ a.env f he
   have E:(a.params.zip (#[]++c.toArray)).foldl (λτ (x:Tmp × Value)=>match x with|(t,a)=>τ.setIfInBounds t a) τ=(a.params.toList.zip c).foldl (λτ (x:Tmp × Value)=>τ.setIfInBounds x.1 x.2) τ:=by rw[<-Array.foldl_toList];simp_all
   show T P m Q X O (G (Frame.round l a.fn _ a.assign a.body .normal) (fr::cs));rw[E];refine h Q X O _ [] .normal (fr::cs) ap ⟨ac,q2,Y,trivial,trivial⟩ ⟨λu F d ξ Z todo b i e H I=>?_,λu F d ξ Z todo J av i e L I=>?_⟩
   . obtain⟨hD,j,a',q,k⟩:=I
     rw[j];show T P m Q u F (G ⟨a.fn,d,todo,ξ,.run,.normal,some l⟩ (fr::cs))
     refine T.I6 (φ:=a.fn) (s:=Instr.endRound l b) rfl (K:=λv y M=>v=.bool b.isNone/\y=u/\Rel y M (Z.σ.set l (.loop {a' with state:=if b.isNone then .ready else .done,pending:=b})))
      (nxt:=λv w=>.go (G (fr.finish v) cs) w) ?_ ?_ ?_
     . rintro v y M w2 _ _ ⟨rfl,rfl,N⟩
       exact⟨_,rfl,hv y M _ _ _ i (.lit _) N k⟩
     . intro w v w' g
       rcases H with⟨rfl,rfl⟩|⟨R,rfl,rfl⟩|⟨id,R,rfl,hex,rfl⟩
       . simp only[G,stepG,stepG.exec]
         rw[show(Instr.endRound l none).runT P w #[]=(((Instr.endRound l none).runT P w #[]).1,((Instr.endRound l none).runT P w #[]).2)from rfl,g]
         rfl
       . simp only[G,stepG,stepG.exec]
         rw[show(Instr.endRound l (some .ret)).runT P w #[]=(((Instr.endRound l (some .ret)).runT P w #[]).1,((Instr.endRound l (some .ret)).runT P w #[]).2)from rfl,g]
         rfl
       . simp only[G,stepG,stepG.exec,hex,Option.elim]
         rw[show(Instr.endRound l (some (.exit id))).runT P w #[]=(((Instr.endRound l (some (.exit id))).runT P w #[]).1,((Instr.endRound l (some (.exit id))).runT P w #[]).2)from rfl,g]
         rfl
     . unfold Instr.endRound
       refine ag (sH e.rel q λp S U=>?_)
       obtain⟨x,a7,V⟩:=e.rel.1 l _ q ap
       have W:∃o,x=.obj o/\mZ o=false:=by
        cases V with
        |loop _ _ _ _=>exact⟨_,rfl,rfl⟩
       obtain⟨o,rfl,ho⟩:=W;exact ag (s:=setObj l _) ⟨am,rfl,an ⟨rfl,rfl,e.rel.set (.loop {a' with state:=if b.isNone then .ready else .done,pending:=b} p S U)⟩⟩
   . obtain⟨hD,j,k⟩:=I
     rw[j]
     have hd:ξ=[]:=by
      have:=e.ds;rw[hD]at this;cases ξ with
      |nil=>rfl
      |cons _ _=>exact this.elim
     subst hd;refine T.fZ (g':=G (fr.raise [⟨J,false,false⟩]) cs) rfl (λw=>?_) (hp u F J av _ i L e.rel k)
     have r:Frame.catches P ⟨a.fn,d,todo,[],.panicking [⟨J,false,false⟩],.normal,some l⟩=false:=by simp[Frame.catches,hf]
     simp only[G,stepG,unwind,r,oV];rfl
def Go.beginRound{l a}(j:s.σ l=some (.loop a))(p:a.state=.ready)(h:Go P m φ n (some l) k {s with σ:=s.σ.set l (.loop {a with state:=.busy})} K):Go P m φ n (some l) (.beginRound::k) s K:=
 λQ q O τ ξ ν cs r b t=>by
 refine T.uL (s:=(do (Option.elim (some l) (stuck  "beginRound: no round") Instr.beginRound);pure .skip)) (λw=>by simp  [G,stepG,stepG.exec]) (iB ?_)
 refine ag ?_;refine ag (sH b.rel j λc d e=>?_);obtain⟨x,f,g⟩:=b.rel.1 l _ j ap
 have i:∃o,x=.obj o/\mZ o=false:=by
  cases g with
  |loop _ _ _ _=>exact⟨_,rfl,rfl⟩
 obtain⟨o,rfl,u⟩:=i;refine ag  ⟨⟨o,f,u⟩,rfl,?_⟩;simp  [p];refine an (an (an λ_=>?_));exact h Q q _ τ ξ ν cs r ⟨b.size,b.env,b.rel.set (.loop {a with state:=.busy} c d e),b.ds,b.rc⟩ t
def od{α}{g:Rg->Sem α}{w es}:(program >>=g).runT P w es=(g P).runT P w es:=rfl
def xT.func{f fn cap args d σ A}(C:P.funcs[f]?=some fn)(hb:fn.body.isSome=true)(l:(fn.name==  "runtime.NumGoroutine")=false)
 (h:ar P m f (args++cap) σ (λr σ'=>match r with|.val _=>A d σ'|.panic _=>False)):xT P m (.func f) cap args d σ A:=λQ k O fr cs n o p a q s D E=>by
 refine .step (λi j x=>T P m Q i j x) rfl am λw F=>?_
 have t:fn.body.isNone=false:=aq
 have hinv:(invoke (.fn (.func f) n.toArray) o.toArray).runT P w #[]=(.ok (.enter f (o++n).toArray) w,#[]):=by show Sem.runT P (callFunc f _) w #[]=_;unfold callFunc;rw[od,C];simp only[l,t,zA];simp
 have b:∀B,stepG P m.main (G {fr with defers:={target:=.fn (.func f) n.toArray,args:=o.toArray}::fr.defers} cs) w=.go (G _ (fr::cs)) w #[]\/B:=λB=>by
  left;have K:fr.mode≠.run:=λe=>by rw[e]at a;cases d<;>exact a.elim
  obtain⟨H,τ,todo,ξ,mode,ν,ro⟩:=fr;cases mode with
  |run=>grind
  |_=>simp only[G,stepG,unwind,callDeferred,hinv];rfl
 refine⟨_,w,#[],k,O,(b False).resolve_right (λx=>x),.refl ..,F,?_⟩
 refine h Q k O _ fr cs .deferred ap (s.append q) D (λi j L M σ' g I u y=>?_) am
 have c:AG fr=fr:=by
  unfold AG;cases z:fr.mode with
  | panicking ch=>
    rw[z]at a;cases d with
    |ret=>exact a.elim
    |Zs v=>obtain⟨J,rfl,_⟩:=a;rfl
  |_=>rfl
 show T P m Q i j (G _ cs);rw[c];have:=E i j d σ' fr.mode g (a.mono g) u y;omega
end
def fits(n:Int):Prop:=-9223372036854775808<=n/\n<=9223372036854775807
def yi(op:BinOp)(kd:IntKind)(a b:Int)(R:Value->Prop):Prop:=
 match op,kd with
 |.add,.i64=>fits (a+b)/\R (.int .i64 (a+b))
 |.sub,.i64=>fits (a-b)/\R (.int .i64 (a-b))
 |.mul,.i64=>fits (a*b)/\R (.int .i64 (a*b))
 |.eql,_=>R (.bool (a==b))
 |.neq,_=>R (.bool (a !=b))
 |.lss,_=>R (.bool (decide (a<b)))
 |.leq,_=>R (.bool (decide (a<=b)))
 |.gtr,_=>R (.bool (decide (a>b)))
 |.geq,_=>R (.bool (decide (a>=b)))
 |.shl,_=>0<=b/\R (.int kd (kd.wrap (a*2 ^ (min b.toNat kd.bits))))
 |.shr,_=>0<=b/\R (.int kd (a.fdiv (2 ^ (min b.toNat kd.bits))))
 |op,kd=>∃v,vQ op kd a b=some v/\R v
section
variable{P:Rg}(L:lz P)
def yR(o:Oper):Bool:=
 match o.op with
 |.move _|.assign _|.pick _ _ _|.alloc _|.box _ _|.load _ _|.store _ _ _|.makeInterface _ _|.makeFunc _ _ _|.extract _ _|.field _ _ _|.fieldAddr _ _ _|.nilCheck _|.panic _|.unOp .not _ _|.build _ _=>true
 |.indexAddr t _ _=>match L.tt t with|some ⟨.slice _,_,_,_,_⟩=>true|some ⟨.array _ _,_,_,_,_⟩=>true|_=>false
 |.index t _ _=>match L.tt t with|some ⟨.array _ _,_,_,_,_⟩=>true|_=>false
 |.binOp _ t _ _ _=>match L.tt t with|some ⟨.int _,_,_,_,_⟩=>true|_=>false
 |.convert s t _=>match L.tt s,L.tt t with|some ⟨.int _,_,_,_,_⟩,some ⟨.int _,_,_,_,_⟩=>true|_,_=>false
 |.typeAssert _ _ t true=>match L.tt t with|some ⟨.iface,_,_,_,_⟩=>false|some _=>true|none=>false
 | .call c=>match c.callee,c.args.toList with
   |.builtin .len,[_]=>(match c.argTypes[0]? with|some t=>(match L.tt t with|some ⟨.slice _,_,_,_,_⟩=>true|_=>false)|none=>false)
   |.builtin .min,[_,_]=>true
   |.builtin .max,[_,_]=>true
   |_,_=>false
 |_=>false
def Ly(mu:ZB)(o:Oper)(ε:Env)(σ:af)(K Kp:CU):Prop:=
 match o.op with
 |.move x|.assign x=>K (aA ε x) σ
 | .pick c a b=>match aA ε c with
   |.lit (.bool x)=>K (if x then aA ε a else aA ε b) σ
   |_=>False
 | .alloc t=>match L.tt t with
   |some i=>(qZ i.zero).cells.all AV.flat=true/\∀b,σ b=none->K (.ref b 0) (σ.set b (.cells (qZ i.zero).cells))
   |none=>False
 |.box _ x=>(aA ε x).cells.all AV.flat=true/\(if(match o.dst with|some d=>mu.contains d|none=>false)then ∀b,σ b=none->K (.ref b 0) (σ.set b (.cells (aA ε x).cells))else K (.cp (aA ε x) 0) σ)
 | .load t p=>match L.tt t with
   |some i=>∃a,xR i σ (aA ε p)=some a/\K a σ
   |none=>False
 | .store t p x=>match L.tt t with
   |some i=>∃m,vX i σ (aA ε p) (aA ε x)=some m/\K (.lit undef) m
   |none=>False
 | .fieldAddr s x j=>match L.tt s with
   | some ⟨.struct,_,_,_,o6⟩=>(match o6[j]? with
     |some f=>f.2.1≠0/\∃a,yL (aA ε x) f.1=some a/\K a σ
     |none=>False)
   |_=>False
 | .field s x j=>match L.tt s,aA ε x with
   | some ⟨.struct,_,_,_,o6⟩,.agg l=>(match o6[j]? with
     |some f=>(match L.tt f.2.2 with|some q=>∃a,eh l f.1 q.size q.agg=some a/\K a σ|none=>False)
     |none=>False)
   |_,_=>False
 | .indexAddr t x n=>match L.tt t with
   | some ⟨.slice e,_,_,_,_⟩=>(match L.tt e,aA ε x,aA ε n with
     |some h,.sl r es _,.lit (.int _ z)=>r=h.size/\0<=z/\∃a,es[z.toNat]?=some a/\K (.cp a 0) σ
     |some h,.mJ b off len _,.lit (.int _ z)=>(0<=z/\z<len)/\K (.ref b (off+z.toNat*h.size)) σ
     |_,_,_=>False)
   | some ⟨.array k e,_,_,_,_⟩=>(match L.tt e,aA ε n with
     |some h,.lit (.int _ z)=>(0<=z/\z<k)/\∃a,yL (aA ε x) (z.toNat*h.size)=some a/\K a σ
     |_,_=>False)
   |_=>False
 | .index t x n=>match L.tt t with
   | some ⟨.array k e,_,_,_,_⟩=>(match L.tt e,aA ε x,aA ε n with
     |some h,.agg l,.lit (.int _ z)=>(0<=z/\z<k)/\∃a,eh l (z.toNat*h.size) h.size h.agg=some a/\K a σ
     |_,_,_=>False)
   |_=>False
 | .binOp op _ x y _=>match aA ε x,aA ε y with
   |.lit (.int kd a),.lit (.int g b)=>(kd=g\/op=.shl\/op=.shr)/\yi op kd a b λv=>K (.lit v) σ
   |_,_=>False
 | .unOp .not _ x=>match aA ε x with
   |.lit (.bool b)=>K (.lit (.bool !b)) σ
   |_=>False
 | .convert _ t x=>match L.tt t,aA ε x with
   |some ⟨.int kd,_,_,_,_⟩,.lit (.int _ a)=>K (.lit (.int kd (kd.wrap a))) σ
   |_,_=>False
 | .makeInterface t x=>match L.tt t with
   |some i=>i.kind≠.iface/\K (.pH t (aA ε x)) σ
   |none=>False
 |.makeFunc f fs cs=>K (.fn f (fs.toList.map (aA ε)) (cs.toList.map (aA ε))) σ
 | .extract x j=>match aA ε x with
   |.cx l=>∃a,l[j]?=some a/\K a σ
   |_=>False
 | .typeAssert x _ t true=>match L.tt t,aA ε x with
   |some i,.pH d y=>i.kind≠.iface/\K (if d=t then .cx [y,.lit (.bool true)]else .cx [qZ i.zero,.lit (.bool false)]) σ
   |_,_=>False
 |.nilCheck x=>(match aA ε x with|.cp _ _=>True|.ref _ _=>True|.kp _ _ _ _=>True|.fn (.func _) _ _=>True|_=>False)/\K (aA ε x) σ
 | .panic x=>match aA ε x with
   |.pH t y=>Kp (.pH t y) σ
   |_=>False
 | .build t parts=>match L.tt t with
   |some i=>i.kind=.struct/\(qZ i.zero).cells.all AV.flat=true/\∃l,qt (λj=>(i.o6[j]?).map λx=>(x.1,x.2.1)) (qZ i.zero).cells (parts.toList.map λp=>(p.1,aA ε p.2))=some l/\K (.agg l) σ
   |none=>False
 | .call c=>match c.callee,c.args.toList with
   | .builtin .len,[x]=>(match aA ε x with
     |.sl _ es _=>K (.lit (.int .i64 es.length)) σ
     |.lit (.slice none 0 0)=>K (.lit (.int .i64 0)) σ
     |.mJ _ _ len _=>K (.lit (.int .i64 len)) σ
     |_=>False)
   | .builtin .min,[x,y]=>(match aA ε x,aA ε y with
     |.lit (.int kd a),.lit (.int g b)=>kd=g/\K (.lit (.int kd (if b<a then b else a))) σ
     |_,_=>False)
   | .builtin .max,[x,y]=>(match aA ε x,aA ε y with
     |.lit (.int kd a),.lit (.int g b)=>kd=g/\K (.lit (.int kd (if b>a then b else a))) σ
     |_,_=>False)
   |_,_=>False
 |_=>False
def bt.mono{P o ε σ K d Kp}(h:bt P o ε σ K Kp)(e:∀a σ,K a σ->d a σ):bt P o ε σ d Kp:=λk O f i j=>mK _ (h k O f i j) (λ_ _ _ ⟨v,l,m,n,g,b,a,c,x,y,z⟩=>⟨v,l,m,n,g,b,a,c,x,y,e _ _ z⟩) am
def qM{c:Call}{b l}(a:c.callee=.builtin b)(d:c.args.toList=l):c=⟨.builtin b,l.toArray,c.argTypes⟩:=by obtain⟨ce,args,e⟩:=c;subst a;subst d;simp
def ajC{mu o ε σ K Kp}(C:yR L o=true)(h:Ly L mu o ε σ K Kp):bt P o ε σ K Kp:=by
 unfold Ly at h;unfold yR at C;split at h
 . next x g=>exact Cy (.inl g) h
 . next x g=>exact Cy (.inr g) h
 . next c a b g=>
   split at h
   . next x m=>exact Nx g m h
   . exact h.elim
 . next t g=>
   split at h
   . next i B=>exact IX L g B h.1 h.2
   . exact h.elim
 . next t x g=>
   obtain⟨A,u⟩:=h;generalize (match o.dst with|some d=>mu.contains d|none=>false)=q at u;cases q
   . simp only[zA,LK]at u
     exact Rt g A u
   . simp only[ZC]at u
     exact C2 g A u
 . next t p g=>
   split at h
   . next i B=>obtain⟨a,A,u⟩:=h;exact Hf L g B A u
   . exact h.elim
 . next t p x g=>
   split at h
   . next i B=>obtain⟨a,A,u⟩:=h;exact IW L g B A u
   . exact h.elim
 . next s x j g=>
   split at h
   . next H I J o6 B=>
     split at h
     . next f S=>obtain⟨A,a,u,O⟩:=h;exact yM L g B rfl S A u O
     . exact h.elim
   . exact h.elim
 . next s x j g=>
   split at h
   . next H I J o6 l B m=>
     split at h
     . next f S=>
       split at h
       . next fi T=>obtain⟨a,A,u⟩:=h;exact IY L g B rfl S T m A u
       . exact h.elim
     . exact h.elim
   . exact h.elim
 . next t x X g=>
   split at h
   . next e H I J Q B=>
     split at h
     . next U kk es sp kd z F m D=>obtain⟨rfl,G,a,A,u⟩:=h;exact C3 L g B rfl F m D G A u
     . next U b off len cap kd z F m D=>exact BG L g B rfl F m D h.1 h.2
     . exact h.elim
   . next k e H I J Q B=>
     split at h
     . next U kd z F D=>obtain⟨G,a,A,u⟩:=h;exact BF L g B rfl F D G A u
     . exact h.elim
   . exact h.elim
 . next t x X g=>
   split at h
   . next k e H I J Q B=>
     split at h
     . next U l kd z F m D=>obtain⟨G,a,A,u⟩:=h;exact IZ L g B rfl F m D G A u
     . exact h.elim
   . exact h.elim
 . next op t x y t2 g=>
   split at h
   . next kd a E b m w=>
     obtain⟨Y,h⟩:=h;have n:(op≠.shl/\op≠.shr)->E=kd:=am;unfold yi at h;split at h
     . rw[n ap]at w;exact tL g m w am h.1 h.2
     . rw[n ap]at w;exact tL g m w am h.1 h.2
     . rw[n ap]at w;exact tL g m w am h.1 h.2
     . rw[n ap]at w;exact fL g m w rfl h
     . rw[n ap]at w;exact fL g m w rfl h
     . rw[n ap]at w;exact fL g m w rfl h
     . rw[n ap]at w;exact fL g m w rfl h
     . rw[n ap]at w;exact fL g m w rfl h
     . rw[n ap]at w;exact fL g m w rfl h
     . exact yN g m w h.1 am h.2
     . exact yN g m w h.1 am h.2
     . next A u O W h5 h6 h7 h8 h9 Z a7=>
       obtain⟨v,hv,hK⟩:=h;rw[n ⟨λe=>aq,λe=>aq⟩]at w;exact fL g m w hv hK
   . exact h.elim
 . next t x g=>
   split at h
   . next b m=>exact Rw g m h
   . exact h.elim
 . next s t x g=>
   simp only[g]at C;split at h
   . next kd H I J Q E a R m=>
     split at C
     . next ks b1 b2 b3 b4 kt c1 c2 c3 c4 hs V=>rw[R]at V;exact C4 L g hs R rfl rfl m h
     . cases C
   . exact h.elim
 . next t x g=>
   split at h
   . next i B=>exact tN L g B h.1 h.2
   . exact h.elim
 . next f fs cs g=>exact BH g h
 . next x j g=>
   split at h
   . next l m=>obtain⟨a,A,u⟩:=h;exact C5 g m A u
   . exact h.elim
 . next x xt t g=>
   split at h
   . next i d y B m=>exact xS L g B h.1 m h.2
   . exact h.elim
 . next x g=>
   obtain⟨A,u⟩:=h;split at A
   . next v off m=>exact ko g aq u
   . next b off m=>exact ko g aq u
   . next b l hole off m=>exact ko g aq u
   . next f l r m=>exact ko g aq u
   . exact A.elim
 . next x g=>
   split at h
   . next t y m=>exact I0 g m h
   . exact h.elim
 . next t parts g=>
   split at h
   . next i B=>obtain⟨A,u,l,O,W⟩:=h;exact I2 L g B A u O W
   . exact h.elim
 . next c g=>
   simp only[g]at C;split at h
   . next x M N=>
     simp only[M,N]at C;have e:=qM M N;split at C
     . next t G=>
       split at C
       . next e' H I J Q R=>
         rw[e]at g;split at h
         . grind [Hg]
         . next m=>exact Hg L (kk:=0) (sp:=.any) (es:=[]) g G R rfl am h
         . grind [FZ]
         grind
       grind
     grind
   . next x y M N=>
     rw[qM M N]at g;split at h
     . next kd a E b m w=>obtain⟨rfl,h⟩:=h;exact xf g m w am h
     . exact h.elim
   . next x y M N=>
     rw[qM M N]at g;split at h
     . next kd a E b m w=>obtain⟨rfl,h⟩:=h;exact xf g m w am h
     . exact h.elim
   . exact h.elim
 . exact h.elim
def yj(ο:Cx)(n:Nat)(ε:Env)(o:Oper)(go no:Prop):Prop:=
 match o.guard with
 |none=>go
 | some (j,b)=>match (ο[j]?).bind (·.dst)with
   | some d=>d<n/\(match ε d with
     |.lit (.bool x)=>(x=b->go)/\(x≠b->no)
     |.lit (.tuple _)=>no
     |_=>False)
   |none=>False
def yS{ο n ε o go no}(h:yj ο n ε o go no):
 (dC ο n ε o/\go)\/∃j b x d c,o.guard=some (j,b)/\ο[j]?=some c/\c.dst=some d/\d<n/\ε d=.lit x/\Lz x b/\no:=by
 unfold yj at h;split at h
 . next g=>exact .inl ⟨by unfold dC;grind,h⟩
 . next j b g=>
   split at h
   . next d hd=>
     obtain⟨c,k,e⟩:=I1.1 hd;obtain⟨f,h⟩:=h;split at h
     . next x i=>
       by_cases a:x=b
       . exact .inl ⟨by unfold dC;grind,h.1 a⟩
       . exact .inr ⟨j,b,_,d,c,g,k,e,f,i,a,h.2 a⟩
     . next x i=>exact .inr ⟨j,b,_,d,c,g,k,e,f,i,trivial,h⟩
     grind
   grind
end
@[simp] theorem AV.aaL  v :(AV.lit v).cells=[AV.lit v]:=rfl
@[simp] theorem AV.flat_lit  v :(AV.lit v).flat=bu.flat v:=rfl
@[simp] theorem AV.Zt :(AV.eT).cells=[AV.eT]:=rfl
@[simp] theorem AV.aaM :(AV.eT).flat=false:=rfl
@[simp] theorem AV.aaN  l :(AV.agg l).cells=l:=rfl
@[simp] theorem AV.flat_agg  l :(AV.agg l).flat=false:=rfl
@[simp] theorem AV.aaO  l :(AV.cx l).cells=[AV.cx l]:=rfl
@[simp] theorem AV.abA  l :(AV.cx l).flat=false:=rfl
@[simp] theorem AV.abB  k   es   sp :(AV.sl k es sp).cells=[AV.sl k es sp]:=rfl
@[simp] theorem AV.ad4  k   es   sp :(AV.sl k es sp).flat=true:=rfl
@[simp] theorem AV.abC  v   off :(AV.cp v off).cells=[AV.cp v off]:=rfl
@[simp] theorem AV.abD  b   l   hole   off :(AV.kp b l hole off).cells=[AV.kp b l hole off]:=rfl
@[simp] theorem AV.ad5  b   l   hole   off :(AV.kp b l hole off).flat=true:=rfl
@[simp] theorem AV.ad6  v   off :(AV.cp v off).flat=true:=rfl
@[simp] theorem AV.aaP  b off :(AV.ref b off).cells=[AV.ref b off]:=rfl
@[simp] theorem AV.abE  b off :(AV.ref b off).flat=true:=rfl
@[simp] theorem AV.aaQ  b off len cap :(AV.mJ b off len cap).cells=[AV.mJ b off len cap]:=rfl
@[simp] theorem AV.abF  b off len cap :(AV.mJ b off len cap).flat=true:=rfl
@[simp] theorem AV.abG  f   x y :(AV.fn f x y).cells=[AV.fn f x y]:=rfl
@[simp] theorem AV.ad7  f   x y :(AV.fn f x y).flat=true:=rfl
@[simp] theorem AV.aaR  t   v :(AV.pH t v).cells=[AV.pH t v]:=rfl
@[simp] theorem AV.abH  t   v :(AV.pH t v).flat=true:=rfl
@[simp] theorem AV.aaS  b :(AV.map b).cells=[AV.map b]:=rfl
@[simp] theorem AV.abI  b :(AV.map b).flat=true:=rfl
@[simp] theorem AV.Zu  b :(AV.chan b).cells=[AV.chan b]:=rfl
@[simp] theorem AV.aaT  b :(AV.chan b).flat=true:=rfl
attribute [simp] fR aA yj yR Ly List.range List.range.loop Oper.ok Operand.ok Op.operands Call.operands yi cG Env.upd L6 Rf jy I3 oneOf exitTo xR vX yL eh flat TI.agg qZ qt fits

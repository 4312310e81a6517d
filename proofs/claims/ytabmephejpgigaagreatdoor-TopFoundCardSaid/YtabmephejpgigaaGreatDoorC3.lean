import Derived.Laws.Sem
import Derived.Test.YtabmephejpgigaaGreatDoorC2
set_option linter.all false
namespace Go.cr
open Go.Conc
abbrev aaL:=List (Int × AV)
abbrev aaN:=Exit->St->Prop
abbrev aaO:=Env->ab->Prop
abbrev aaP:=AV->ab->Prop
abbrev aaQ:=mC->ab->Prop
abbrev abc:=Option AV
abbrev abh:=ab->Prop
abbrev abj:=List AV
def yG  off :∀(l:List Value)  s  (c:aaS),off+s+l.length<=c.size ->
 ((l.zipIdx s).foldl (λcs  x=>cs.setIfInBounds (off+x.2) x.1) c).size=c.size/\
 ∀j ,((l.zipIdx s).foldl (λcs  x=>cs.setIfInBounds (off+x.2) x.1) c)[j]?=if off+s<=j/\j<off+s+l.length then l[j-(off+s)]? else c[j]?
 | [],s,c,_=>⟨rfl,λj=>by
   have:¬(off+s<=j/\j<off+s+([]:List Value).length):=by simp
   rw[YA this];rfl⟩
 | v::l,s,c,h=>by
   simp only[Zh]at h;obtain⟨b,a⟩:=yG off l (s+1) (c.setIfInBounds (off+s) v) (by simp;omega);simp only[List.zipIdx_cons,Zr];refine⟨by grind,λj=>?_⟩;rw[a j];by_cases d:j=off+s
   . grind
   grind
def ko(place:Nat->aaI)(l:abj):List (Nat × AV)->Option abj
 |[]=>some l
 | (i,a)::rest=>match place i with
   |none=>none
   |some (off,size)=>if a.cells.length=size/\off+size<=l.length/\a.cells.all AV.flat=true then ko place (aH l off a.cells) rest else none
def ry(k:ao)(c:aaS)(l:abj):Prop:=c.size=l.length/\(∀(i:Nat) v a,c[i]?=some v->l[i]?=some a->V k v a)/\∀(i:Nat) v,c[i]?=some v->cr.flat v=true
def vd{k place}:∀  m   n   c   l o ,m.length=n.length->(∀(i:Nat) p q,m[i]?=some p->n[i]?=some q->p.1=q.1/\V k p.2 q.2) ->
 ry k c l->ko place l n=some o->∃c',Instr.fill place c m=some c'/\ry k c' o
 |[],[],c,l,o,_,_,g,h=>by simp only[ko,kn]at h;subst h;exact⟨c,rfl,g⟩
 | (i, v)::m,(C,a)::n,c,l,o,t,y,g,h=>by
   obtain⟨z,r⟩:=y 0 (i,v) (C,a) rfl rfl;simp only at z r;subst z;unfold ko at h;unfold Instr.fill;cases A:place i with
   |none=>simp_all
   | some os=>
     obtain⟨off,size⟩:=os;rw[A]at h;simp only at h ⊢;split at h
     . next e=>
       obtain⟨D,E,F⟩:=e;obtain⟨B,I,J⟩:=r.cells F;have G:off+v.cells.size<=c.size:=by rw[B,D,g.1];exact E
       have s:¬((decide (v.cells.size≠size)||decide (off+v.cells.size>c.size))=true):=by grind
       rw[YA s];have b:=yG off v.cells.toList 0 c (by omega)
       have f:(v.cells.zipIdx.foldl (λcs (x:Value × Nat)=>match x with|(c,j)=>cs.setIfInBounds (off+j) c) c)=((v.cells.toList.zipIdx 0).foldl (λcs (x:Value × Nat)=>cs.setIfInBounds (off+x.2) x.1) c):=by rw[<-Array.foldl_toList,Array.toList_zipIdx]
       rw[f];refine vd m n _ (aH l off a.cells) o (by grind) (λj p q A K=>y (j+1) p q (by grind) (by grind)) ⟨?_,?_,?_⟩ h
       . rw[b.1,mD (by omega)];exact g.1
       . intro j u x d w
         rw[b.2]at d;rw[vG (by omega)]at w
         simp only[Nat.add_zero,Array.length_toList,B]at d
         by_cases H:off<=j/\j<off+a.cells.length
         . grind
         rw[YA H]at d w;exact g.2.1 j u x d w
       intro j u d;rw[b.2]at d;split at d
       . grind
       exact g.2.2 j u d
     cases h
 |[],_::_,_,_,_,t,_,_,_=>by simp at t
 |_::_,[],_,_,_,t,_,_,_=>by simp at t
def sV{k}{ρ:abn->Value}{env}{parts:Array (Nat × abn)}(h:∀p∈parts,V k (ρ p.2) (ak env p.2)):
 (parts.map λ(i,x)=>(i,ρ x)).toList.length=(parts.toList.map λp=>(p.1,ak env p.2)).length/\
 ∀(i:Nat) p q,(parts.map λ(i,x)=>(i,ρ x)).toList[i]?=some p->(parts.toList.map λp=>(p.1,ak env p.2))[i]?=some q->p.1=q.1/\V k p.2 q.2:=by
 grind
section
variable{P:abm}(L:iT P){o:Oper}{env:Env}{σ:ab}{K:aaP}{Kp:aaP}
def vL{k O Kp}:∀(fs:List Field) (a:List (Nat × Nat × Nat))  K ,
 (fs.map λf=>(f.offset,(P.info? f.type).map (·.size),f.type))=(a.map λx=>(x.1,some x.2.1,x.2.2))->K (a.map λx=>(x.1,x.2.1)) k O ->
 dD P (fs.mapM λf=>(do pure (f.offset,<-sizeOf f.type):Sem (Nat × Nat))) k O K Kp
 |[],[],K,_,b=>ag b
 | f::fs,x::a,K,h,b=>by
   simp only[aaw,List.cons.injEq,zG]at h;obtain⟨⟨g,c,_⟩,d⟩:=h;obtain⟨info,e,i⟩:=YI.1 c;rw[List.mapM_cons];refine af (af (ub e (ag ?_)));refine af (vL fs a _ d (ag ?_))
   simp_all
 |[],_::_,_,h,_=>by simp at h
 |_::_,[],_,h,_=>by simp at h
def rz{i d}(h:dv P i d=true)(a:i.kind=.struct):∃fs,d=.struct fs/\(fs.toList.map λf=>(f.offset,(P.info? f.type).map (·.size),f.type))=(i.jx.map λx=>(x.1,some x.2.1,x.2.2)):=by
 cases d with
 | struct fs=>
   simp only[dv,za,ZJ]at h
   simp_all
 |_=>simp[dv,a]at h
def vM{k z}(h:(kX z).cells.all AV.flat=true):ry k z.cells (kX z).cells:=(V.kX k z).cells h
def BC{t:Nat}{parts i l}(e:o.op=.build t parts)(f:L.tt t=some i)(h:i.kind=.struct)(m:(kX i.zero).cells.all AV.flat=true)
 (n:ko (λj=>(i.jx[j]?).map λx=>(x.1,x.2.1)) (kX i.zero).cells (parts.toList.map λp=>(p.1,ak env p.2))=some l) (q:K (.agg l) σ):aJ P o env σ K Kp:=
 aJ.val (s:=λρ=>Instr.build t (parts.map λ(i,x)=>(i,ρ x))) (λρ=>by simp[execOp,e]) λk O ρ r u=>by
  obtain⟨v,g⟩:=sV (k:=k) (ρ:=ρ) (env:=env) (parts:=parts) λp g=>r p.2 (by simp[e,Op.operands];grind)
  obtain⟨y,w,b⟩:=vd _ _ i.zero.cells _ l v g (vM m) n;unfold Instr.build;refine af (cM L f (af (aD L f λd _ hd=>?_)));obtain⟨fs,rfl,c⟩:=rz hd h;dsimp only;refine af ?_;rw[Array.mapM_eq_mapM_toList,map_eq_pure_bind];refine af (vL fs.toList i.jx _ c (ag ?_));have a:(λj:Nat=>((i.jx.map λx=>(x.1,x.2.1)).toArray[j]?:aaI))=λj=>(i.jx[j]?).map λx=>(x.1,x.2.1):=by grind
  rw[a,w];exact ag (.here ⟨.refl k,.agg l,σ,.agg _ _ b.1 b.2.1,u,q⟩)
def yg{t len e:Nat}{parts it b es}(R:o.op=.buildSlice t len parts)(X:L.tt t=some it)(Y:it.kind=.slice e)(S:L.tt e=some b)(C:len*b.size<=16777216)
 (Z:(kX b.zero).cells.all AV.flat=true) (T:len*b.size=0\/(kX b.zero).cells.length=b.size) (l:es.length=len/\∀e∈es,e.cells.length=b.size)
 (hf:ko (λj=>some (j*b.size,b.size)) ((List.range (len*b.size)).map λj=>(kX b.zero).cells.getD (j % (kX b.zero).cells.length) .cu) (parts.toList.map λp=>(p.1,ak env p.2))=some (flatten es)) (hK:K (.sl b.size es .exact) σ):aJ P o env σ K Kp:=
 aJ.val (s:=λρ=>Instr.buildSlice t len (parts.map λ(i,x)=>(i,ρ x))) (λρ=>by simp[execOp,R]) λk O ρ hv hr=>by
  obtain⟨hl,U⟩:=sV (k:=k) (ρ:=ρ) (env:=env) (parts:=parts) λp U=>hv p.2 (by simp[R,Op.operands];grind)
  have h:=vM (k:=k) Z;unfold Instr.buildSlice;refine af (aD L X λd _ hd=>?_)
  rw[bM hd Y];dsimp only;refine af (bF L S ?_);rw[YA (by omega)]
  have fin:∀(z:aaS),(len*b.size=0\/z=b.zero.cells)->dD P (do
   let some cells:=Instr.fill (λi=>some (i*b.size,b.size)) ((Array.range (len*b.size)).map (z[· % z.size]!)) (parts.map λ(i,x)=>(i,ρ x)).toList|stuck  "buildSlice: a part of the wrong size"
   pure (.slice (some (<-newRow e cells)) len len):Sem Value) k O (λv m D=>lQ m D λn F=>k.Le n/\∃a f,V n v a/\Rel n F f/\K a f) (λv m D=>k.Le m/\∃a f,V m v a/\Rel m D f/\Kp a f):=by
   intro z q
   have G:ry k ((Array.range (len*b.size)).map (z[· % z.size]!)) ((List.range (len*b.size)).map λj=>(kX b.zero).cells.getD (j % (kX b.zero).cells.length) .cu):=by
    refine⟨by simp,λj v a u W=>?_,λj v u=>?_⟩
    . have w:j<len*b.size:=by grind
      rcases q with y|rfl
      . omega
      have H:(kX b.zero).cells.length≠0:=by grind
      have hm:j % (kX b.zero).cells.length<(kX b.zero).cells.length:=Nat.mod_lt _ (by omega)
      simp only[ZE,Array.getElem?_range,w,YD,YW,kn,YY,List.getElem?_range]at u W;have e1:=h.1;subst u;subst W;refine h.2.1 (j % (kX b.zero).cells.length) _ _ ?_ ?_
      . grind
      grind
    have w:j<len*b.size:=by grind
    rcases q with y|rfl
    . omega
    have H:(kX b.zero).cells.length≠0:=by grind
    have hm:j % b.zero.cells.size<b.zero.cells.size:=by rw[h.1];exact Nat.mod_lt _ (by omega)
    simp only[ZE,Array.getElem?_range,w,YD,YW,kn]at u;subst u;refine h.2.2 (j % b.zero.cells.size) _ ?_
    grind
   obtain⟨E,hc,c⟩:=vd _ _ _ _ _ hl U G hf;rw[hc];dsimp only;refine af (mL λr m D hn I=>ag ?_)
   obtain⟨n,F,g,A,J,M,N⟩:=I;refine⟨n,F,g,A,.sl b.size es .exact,σ,?_,N σ hr,hK⟩;have Q:=bG l.2;rw[show len=es.length from l.1.symm]
   refine V.ofRow (YF _) M (by rw[c.1,Q];omega) l.2 (λj a ha=>?_) rfl
   have w:j<E.size:=by rw[c.1];grind
   have B:E[j]?=some E[j]:=by simp[w]
   exact⟨E[j],by grind,(c.2.1 j _ a B ha).mono A,c.2.2 j _ B⟩
  by_cases y:len*b.size=0
  . rw[YG y]
    exact af (ag (fin #[] (.inl y)))
  rw[YA y];exact af (cM L S (af (ag (fin _ (.inr rfl)))))
end
inductive Md where
 |ret
 |Pw (v:AV)
def vN(k:ao):FrameMode->Md->Prop
 |.returning,.ret=>True
 |.panicking c,.Pw v=>∃a,c=[⟨a,false,false⟩]/\V k a v
 |_,_=>False
def vN.mono{k k'}(b:k.Le k'){fm a}(h:vN k fm a):vN k' fm a:=by
 cases fm<;>cases a<;>simp only[vN]at h ⊢;obtain⟨c,d,e⟩:=h;exact⟨c,d,e.mono b⟩
def rA(P:abm)(m:Mo)(f:Fn)(cap args:abj)(i:Md)(σ:ab)(j:Md->abh):Prop:=
 ∀ Q k O (fr:Frame) cs e g,fr.kind≠.early->vN k fr.mode i->Vs k e cap->Vs k g args->Rel k O σ ->
   (∀d h b c a,k.Le d->vN d a b->Rel d h c->j b c->T P m Q d h (G {fr with mode:=a} cs)) ->
   T P m Q k O (G {fr with defers:={target:=.fn f e.toArray,args:=g.toArray}::fr.defers} cs)
def BD{P}(L:iT P)(env:Env)(σ:ab):ResultVar->abc
 |.tmp t=>some (env t)
 |.cell a t=>match L.tt t with|some i=>qp i σ (env a)|none=>none
def eH{P}(L:iT P)(env:Env)(σ:ab):List ResultVar->Option abj
 |[]=>some []
 |r::rs=>match BD L env σ r,eH L env σ rs with|some a,some l=>some (a::l)|_,_=>none
def oneOf:abj->AV
 |[a]=>a
 |l=>.cH l
def ResultVar.ok(n:Nat):ResultVar->Bool
 |.tmp t=>t<n
 |.cell a _=>a<n
def MN{P}(L:iT P)(m:Mo)(rs:List ResultVar)(env:Env)(a:aaQ):List ye->Md->abh
 |[],.ret,σ=>∃l,eH L env σ rs=some l/\a (.val (oneOf l)) σ
 |[],.Pw v,σ=>a (.panic v) σ
 |.mark r::D,b,σ=>σ r=some (.raw (.deferred (some [])))/\MN L m rs env a D b (σ.set r (.raw (.deferred none)))
 |.call f cap args::D,b,σ=>rA P m f cap args b σ λc d=>MN L m rs env a D c d
section
variable{P:abm}(L:iT P){m:Mo}{f:FuncId}{fn:Func}
def BE{α β:Type}{k O Kp}  g :∀(l:List α)  K  (R:α->β->Prop),
 (∀x∈l,∀  d ,(∀y,R x y->d y k O)->dD P (g x) k O d Kp)->(∀r ,r.length=l.length->(∀(i:Nat) x y,l[i]?=some x->r[i]?=some y->R x y)->K r k O)->dD P (l.mapM g) k O K Kp
 |[],K,R,_,h=>ag (h [] rfl (λi x y f=>by simp at f))
 | x::l,K,R,e,h=>by
   rw[List.mapM_cons];refine af (e x (by simp) _ λy n=>?_);refine af (BE g l _ R (λz j=>e z (by simp[j])) λr c m=>?_);refine ag (h (y::r) (by simp[c]) λi a b o hb=>?_)
   grind
def rB{env σ}:∀{rs l},eH L env σ rs=some l->l.length=rs.length/\∀(i:Nat) r a,rs[i]?=some r->l[i]?=some a->BD L env σ r=some a
 |[],l,h=>by simp only[eH,kn]at h;simp_all
 | r :: rs,l,h=>by
   unfold eH at h;cases c:BD L env σ r with
   |none=>simp_all
   | some a=>
     cases b:eH L env σ rs with
     |none=>simp_all
     | some d=>
       rw[c,b]at h;simp only[kn]at h;subst h;obtain⟨e,f⟩:=rB b
       grind
def BF{k O Kp K tmps env σ l}(D:eV k tmps env)(G:fn.results.all (ResultVar.ok tmps.size)=true)(H:Rel k O σ)
 (I:eH L env σ fn.results.toList=some l) (J:∀v,V k v (oneOf l)->K v k O):dD P (results fn tmps) k O K Kp:=by
 obtain⟨M,E⟩:=rB L I;unfold results;refine af ?_;rw[Array.mapM_eq_mapM_toList,map_eq_pure_bind]
 have q:∀r∈fn.results.toList,ResultVar.ok tmps.size r=true:=λr h=>by
  simp only[YK]at G
  simp_all
 refine af (BE _ fn.results.toList _ (λr v=>∀a,BD L env σ r=some a->V k v a) (λr m N n=>?_) λvs s w=>ag ?_)
 . have f:=q r m
   cases r with
   |tmp t=>exact ag (n _ λa g=>by simp only[BD,kn]at g;subst g;exact D t (by simpa[ResultVar.ok]using f))
   | cell a t=>
     obtain⟨j,Q,x⟩:=Za.1 m;have y:j<l.length:=by omega
     have c:=E j _ l[j] (zR Q) (by simp[y]);rw[x]at c;simp only[BD]at c;cases z:L.tt t with
     |none=>simp_all
     | some i=>
       rw[z]at c;simp only at c;have A:=D a (by simpa[ResultVar.ok]using f);obtain⟨S,e⟩:=A.IS (yE c);rw[e]at A;obtain⟨b,base,off,row,rfl,o,R⟩:=Bv H A c;show dD P (do loadVar t (<-asAddr (tmps.getD a undef))) k O N Kp;rw[e];refine af (ag (ua L o z R λv B=>n v λT C=>?_));simp only[BD,z,c,kn]at C
       simp_all
 refine ag (J _ ?_)
 have d:∀(i:Nat) v a,vs[i]?=some v->l[i]?=some a->V k v a:=λi v a B g=>by
  have F:i<fn.results.toList.length:=by grind
  exact w i _ v (zR F) B a (E i _ a (zR F) g)
 have hlen:vs.length=l.length:=by rw[s,M]
 by_cases p:vs.toArray.size=1
 . rw[dif_pos p]
   match l,vs,hlen,d with
   |[a],[v],_,d=>exact d 0 v a rfl rfl
   |[],[],_,_=>simp at p
   |a::b::l,u::v::vs,_,_=>simp at p
 rw[dif_neg p]
 match l,vs,hlen,d with
 |[],[],_,d=>exact .cH _ _ rfl (λi v a h=>by simp at h)
 |[a],[v],_,d=>simp at p
 |a::b::l,u::v::vs,hlen,d=>exact .cH _ _ (by omega) (λi v a B g=>d i v a (by grind) g)
def T.BG{α Q k O g s fid}(f:g.status=.running){K}{nxt:α->World->GStep}(b:∀a k' O' w',k.Le k'->Sat k' O' w'->K a k' O'->∃g',nxt a w'=.go g' w' #[]/\T P m Q k' O' g')
 (i:∀w a w',(s.runT P w #[]).1=.ok a w'->stepG P m.main g w=GStep.after (seen P fid (s.runT P w #[]).2) (nxt a w')) (h:dD P s k O K (λ_ _ _=>False)):T P m Q k O g:=
 .step (λk' O' x=>T P m Q k' O' x) f (λ_ _ _ h=>h) λw j=>by
  obtain⟨k',O',w',l,c,d,t,n⟩:=sS s #[] h j;rcases n with⟨a,o,p⟩|⟨v,_,u⟩
  . obtain⟨g',q,r⟩:=b a k' O' w' c.le d p
    refine⟨g',w',seen P fid (s.runT P w #[]).2,k',O',?_,c.sub (λe y=>?_),d,r⟩
    . rw[i w a w' o,q];simp[GStep.after]
    have:=vE (by simp_all:e∈seen P fid (s.runT P w #[]).2)
    grind
  simp_all
def BH{Q F n kind c rest}(hf:P.funcs[f]?=some fn)(a7:fn.results.all (ResultVar.ok n)=true)(b:kind≠.early){env}:
 ∀  D   p   σ   k   O   tmps   todo   defs   fm ,tmps.size=n->eV k tmps env->Rel k O σ->yC k defs D->vN k fm p->MN L m fn.results.toList env F D p σ ->
  (∀k' O' i y σ',k.Le k'->V k' i y->Rel k' O' σ'->F (.val y) σ'->T P m Q k' O' (jG kind c rest i)) ->
  (∀k' O' i y σ',k.Le k'->V k' i y->Rel k' O' σ'->F (.panic y) σ'->T P m Q k' O' (G (c.raise [⟨i,false,false⟩]) rest)) ->
  T P m Q k O (G ⟨f,tmps,todo,defs,fm,kind,none⟩ (c::rest)):=by
 intro D
 induction D with
 | nil =>
   intro p σ k O tmps todo defs fm z H t hd a A B I;cases defs with
   |cons _ _=>exact hd.elim
   | nil =>
     cases fm with
     |run=>cases p<;>exact a.elim
     | returning=>
       cases p with
       |Pw v=>exact a.elim
       | ret=>
         obtain⟨l,hl,hK⟩:=A;refine T.BG (fid:=f) (s:=results fn tmps) rfl (K:=λv k' O'=>k'=k/\O'=O/\V k v (oneOf l)) (nxt:=λv w=>doReturn P m.main ⟨f,tmps,todo,[],.returning,kind,none⟩ (c::rest) none v w) ?_ ?_ ?_
         . rintro v k' O' w' _ _ ⟨rfl,rfl,J⟩
           have ht:=B k' O' v _ σ (.refl _) J t hK;cases kind<;>first|exact absurd rfl b|exact⟨_,rfl,ht⟩
         . intro w v w' q
           simp only[G,stepG,unwind,hf]
           simp_all
         exact BF L H (by simp_all) t hl λv B=>⟨rfl,rfl,B⟩
     | panicking ch=>
       cases p with
       |ret=>exact a.elim
       | Pw v=>
         obtain⟨i,rfl,M⟩:=a;refine T.cZ (g':=G (c.raise [⟨i,false,false⟩]) rest) rfl (λw=>?_) (I k O i v σ (.refl _) M t A)
         have C:Frame.catches P ⟨f,tmps,todo,[],.panicking [⟨i,false,false⟩],kind,none⟩=false:=by simp[Frame.catches,hf]
         simp only[G,stepG,unwind,C];rfl
 | cons d D ih=>
   intro p σ k O tmps todo defs fm z H t hd a A B I;cases defs with
   |nil=>exact hd.elim
   | cons df defs=>
     obtain⟨j,N⟩:=hd;have R:fm≠.run:=λe=>by subst e;cases p<;>exact a.elim
     cases d with
     | mark r=>
       obtain⟨h1,h2⟩:=A;have j:df={target:=.collected r,args:=#[]}:=j;subst j;refine T.BG (fid:=f) (s:=Instr.takeDeferred r) rfl (K:=λcalls k' O'=>calls=[]/\k'=k/\Rel k O' (σ.set r (.raw (.deferred none)))) (nxt:=λcalls w=>.go (G ⟨f,tmps,todo,calls++defs,fm,kind,none⟩ (c::rest)) w) ?_ ?_ ?_
       . grind
       . intro w v w' q
         cases fm with
         |run=>simp_all
         |_=>simp only[G,stepG,unwind];rw[show(Instr.takeDeferred r).runT P w #[]=(((Instr.takeDeferred r).runT P w #[]).1,((Instr.takeDeferred r).runT P w #[]).2)from rfl,q]
       obtain⟨x,hx,S⟩:=t.1 r _ h1 (by simp)
       cases S with
       |raw _ hc=>unfold Instr.takeDeferred;refine af (s:=getObj r) ⟨_,hx,rfl,?_⟩;refine af (s:=setObj r _) ⟨⟨_,hx,rfl⟩,rfl,ag ⟨rfl,rfl,?_⟩⟩;exact t.set (.raw _ rfl)
     | call g cap args=>
       obtain⟨cc,ca,rfl,U,W⟩:=j
       have:=A Q k O ⟨f,tmps,todo,defs,fm,kind,none⟩ (c::rest) cc.toList ca.toList b a U W t λk' O' X σ' u o E Y Z=>ih X σ' k' O' tmps todo defs u z (H.mono o) Y (N.mono o) E Z (λ_ _ _ _ _ h=>B _ _ _ _ _ (o.trans h)) (λ_ _ _ _ _ h=>I _ _ _ _ _ (o.trans h))
       omega
def dh(args:abj):Env:=λt=>args.getD t .cu
def sW{k cargs args}(h:Vs k cargs args)  n :eV k (cargs.toArray++Array.replicate n undef) (dh args):=λt d=>by
 by_cases a:t<cargs.length
 . have b:t<args.length:=by rw[<-h.1];exact a
   have:(cargs.toArray++Array.replicate n undef).getD t undef=cargs[t]:=by simp_all
   rw[this];have c:dh args t=args[t]:=by simp[dh,zA,b]
   rw[c];exact h.2 t _ _ (by simp[a]) (by simp[b])
 have:dh args t=.cu:=by
  unfold dh;rw[zA,Zu (by rw[<-h.1];omega)];rfl
 rw[this];exact .cu _
def QH{P}(L:iT P)(m:Mo)(rs:List ResultVar)(a:aaQ):aaN
 |.leave none,s=>s.rc=.no/\MN L m rs s.env a s.D .ret s.σ
 |.leave (some .ret),s=>s.rc=.no/\MN L m rs s.env a s.D .ret s.σ
 |.leave _,_=>False
 |.panic v,s=>s.rc=.no/\MN L m rs s.env a s.D (.Pw v) s.σ
def M6{Q j n kind c rest}(hf:P.funcs[f]?=some fn)(b:fn.results.all (ResultVar.ok n)=true)(a:kind≠.early){k}
 (q:∀k' O' e g σ',k.Le k'->V k' e g->Rel k' O' σ'->j (.val g) σ'->T P m Q k' O' (jG kind c rest e))
 (r:∀k' O' e g σ',k.Le k'->V k' e g->Rel k' O' σ'->j (.panic g) σ'->T P m Q k' O' (G (c.raise [⟨e,false,false⟩]) rest)):
 vD P m Q f n none kind (c::rest) (QH L m fn.results.toList j) k where
 leave k' O' tmps defs s todo d hle hs t i:=by
  have key:s.rc=.no/\MN L m fn.results.toList s.env j s.D .ret s.σ/\(d=none\/d=some .ret):=by
   rcases t with⟨_,rfl⟩|⟨_,_,rfl⟩|⟨_,_,_,_,rfl⟩
   . exact⟨i.1,i.2,.inl rfl⟩
   . exact⟨i.1,i.2,.inr rfl⟩
   exact i.elim
  obtain⟨l,o,u⟩:=key;rw[l];refine T.cZ (g':=G ⟨f,tmps,todo,defs,.returning,kind,none⟩ (c::rest)) rfl (λw=>?_) ?_
  . rcases t with⟨rfl,rfl⟩|⟨v,rfl,rfl⟩|⟨_,_,_,_,rfl⟩
    . simp[G,stepG,stepG.exec,fy]
    . simp[G,stepG,stepG.exec,fy]
    grind
  exact BH L hf b a s.D .ret s.σ k' O' tmps todo defs .returning hs.size hs.env hs.rel hs.ds trivial o (λ_ _ _ _ _ h=>q _ _ _ _ _ (hle.trans h)) (λ_ _ _ _ _ h=>r _ _ _ _ _ (hle.trans h))
 panic k' O' tmps defs s todo e g hle hs p i:=by obtain⟨l,o⟩:=i;rw[l];exact BH L hf b a s.D (.Pw g) s.σ k' O' tmps todo defs _ hs.size hs.env hs.rel hs.ds ⟨e,rfl,p⟩ o (λ_ _ _ _ _ h=>q _ _ _ _ _ (hle.trans h)) (λ_ _ _ _ _ h=>r _ _ _ _ _ (hle.trans h))
def aB.intro{args σ j body}(l:P.funcs[f]?=some fn)(hb:fn.body=some body)(q:args.length<=fn.ntmps)(g:fn.results.all (ResultVar.ok fn.ntmps)=true)
 (h:Go P m f fn.ntmps none [.code body] ⟨dh args,σ,[],.no⟩ (QH L m fn.results.toList j)):aB P m f args σ j:=λQ k O a c rest kind b d n o p=>by
 have i:(a.toArray++Array.replicate (fn.ntmps-a.length) undef).size=fn.ntmps:=by simp;rw[d.1];omega
 have e:Frame.enter P f a.toArray kind=⟨f,a.toArray++Array.replicate (fn.ntmps-a.length) undef,[.code body],[],.run,kind,none⟩:=by simp[Frame.enter,l,hb]
 rw[e];exact h Q k O _ [] kind (c::rest) b ⟨i,sW d _,n,trivial,trivial⟩ (M6 L l g b o p)
def Ws:abj->abj->Prop
 |[],[]=>True
 |a::l,b::r=>a.W b/\Ws l r
 |_,_=>False
def Ws.vs{k}:∀{c l e},Ws l e->Vs k c l->Vs k c e
 |[],[],[],_,_=>.nil
 |v::c,a::l,b::r,h,d=>.cons (h.1 k v (d.2 0 v a rfl rfl)) (Ws.vs h.2 ⟨by simpa using d.1,λi x y f g=>d.2 (i+1) x y (by simp_all) (by simp_all)⟩)
 |_,[],_::_,h,_=>h.elim
 |_,_::_,[],h,_=>h.elim
 |[],_::_,_,_,d=>by simp[Vs]at d
 |_::_,[],_,_,d=>by simp[Vs]at d
def cX.func{first cap args σ w}(x:P.funcs[f]?=some fn)(hb:fn.body.isSome=true)(o:(fn.name==  "runtime.NumGoroutine")=false)(h:aB P m f (first++args++cap) σ w):
 cX P m (.fn (.func f) first cap) args σ w:=λQ k O cf b fr cs p d y q r g s z=>by
 cases p with
 | fn _ j n C D E A F B=>
   refine dF ?_;simp only[Deferred.ofValue];refine af (ag ?_);simp only[invoke,callFunc];refine af (bY ?_);rw[x];have t:fn.body.isNone=false:=by simp_all
   simp only[o,t,LK,Rp];refine ag λ_=>⟨g,?_⟩
   have e:j++b.toArray++n=(j.toList++b++n.toList).toArray:=by simp
   rw[e];exact h Q k O (j.toList++b++n.toList) fr cs .normal (by simp) (Vs.append (Vs.append (c:=j.toList) (l:=first) ⟨by omega,λi v a s u=>A i v a (by simp_all) u⟩ d) (c':=n.toList) ⟨by omega,λi v a s u=>B i v a (by simp_all) u⟩) y s z
def cX.mono{g args σ i f}(h:cX P m g args σ i)(j:∀r σ,i r σ->f r σ):cX P m g args σ f:=λQ k O cf e fr cs l n o p q s t u=>h Q k O cf e fr cs l n o p q s (λ_ _ _ _ _ a b c d=>t _ _ _ _ _ a b c (j _ _ d)) (λ_ _ _ _ _ a b c d=>u _ _ _ _ _ a b c (j _ _ d))
def cX.weaken{b args args' σ c}(h:cX P m b args' σ c)(d:Ws args args'):cX P m b args σ c:=λQ k O cf a fr cs e f g i j l n o=>h Q k O cf a fr cs e (d.vs f) g i j l n o
end
section
variable{P:abm}{m:Mo}{fid n:Nat}{ro:aaX}{s:St}{K:aaN}{k:abb}
def Go.call{ops i rest o fo args z}(F:ops[i]?=some o)(p:o.op=.call ⟨.value fo,args,z⟩)(M:bT ops n s.env o)(A:Oper.ok n o=true)
 (h:cX P m (ak s.env fo) (args.toList.map (ak s.env)) s.σ (λr σ'=>match r with
   |.val a=>Go P m fid n ro (.inRegion ops rest::k) {s with env:=bd s.env o.dst a,σ:=σ'} K
   |.panic v=>K (.panic v) {s with σ:=σ'})):
 Go P m fid n ro (.inRegion ops (i::rest)::k) s K:=λQ kk O tmps defs kind cs G f H=>by
 refine T.ns (λw=>dH F (gx f.size f.env M) (.inr λc e=>by simp_all) w) ?_
 have g:∀x∈o.op.operands,V kk (Frame.eval ⟨fid,tmps,.inRegion ops (i::rest)::k,defs,.run,kind,ro⟩ x) (ak s.env x):=λx I=>by
  refine V.eval f.env f.size x ?_;simp only[Oper.ok,za,YK]at A
  simp_all
 have e:execOp (Frame.eval ⟨fid,tmps,.inRegion ops (i::rest)::k,defs,.run,kind,ro⟩) o=(do let d <-Deferred.ofValue (Frame.eval ⟨fid,tmps,.inRegion ops (i::rest)::k,defs,.run,kind,ro⟩ fo) ((args.toList.map (Frame.eval ⟨fid,tmps,.inRegion ops (i::rest)::k,defs,.run,kind,ro⟩)).toArray);invoke d.target d.args):=by
  have N:(args.toList.map (Frame.eval ⟨fid,tmps,.inRegion ops (i::rest)::k,defs,.run,kind,ro⟩)).toArray=args.map (Frame.eval ⟨fid,tmps,.inRegion ops (i::rest)::k,defs,.run,kind,ro⟩):=by grind
  rw[N];simp only[execOp,p,resolve]
 rw[e];refine h Q kk O _ _ _ _ (g fo (by simp[p,Op.operands,Call.operands])) ⟨by simp,λj v a u y=>?_⟩ f.rel rfl G (λd w r s l=>by simp) (λB C J L σ' b q D E=>?_) (λB C J L σ' b q D E=>?_)
 . simp only[YY]at u y
   cases I:args.toList[j]? with
   |none=>simp_all
   |some x=>rw[I]at u y;simp only[YW,kn]at u y;subst u;subst y;exact g x (by simp only[p,Op.operands,Call.operands];grind)
 . obtain⟨t,R,S⟩:=f.put (fid:=fid) (ro:=ro) (rest:=rest) (kk:=k) b F q D
   rw[R];exact E Q B C t defs kind cs G S (H.mono b)
 exact H.panic B C tmps defs {s with σ:=σ'} _ J L b ⟨f.size,f.env.mono b,D,f.ds.mono b,f.rc.mono b⟩ q E
def Go.defer{ops i rest o fo args r f first cap}(t:ro=none)(B:ops[i]?=some o)(e:o.op=.defer ⟨.value fo,args,r⟩)(E:bT ops n s.env o)(u:Oper.ok n o=true)
 (y:ak s.env fo=.fn f first cap) (h:Go P m fid n ro (.inRegion ops rest::k) {s with env:=bd s.env o.dst .cu,D:=.call f cap (first++args.toList.map (ak s.env))::s.D} K):
 Go P m fid n ro (.inRegion ops (i::rest)::k) s K:=λQ kk O tmps defs kind cs F g H=>by
 refine T.ns (λw=>dH B (gx g.size g.env E) (.inl t) w) (dF ?_)
 have c:∀x∈o.op.operands,V kk (Frame.eval ⟨fid,tmps,.inRegion ops (i::rest)::k,defs,.run,kind,ro⟩ x) (ak s.env x):=λx C=>by
  refine V.eval g.env g.size x ?_;simp only[Oper.ok,za,YK]at u
  simp_all
 have z:=c fo (by simp[e,Op.operands,Call.operands]);rw[y]at z;generalize I:Frame.eval _ fo=cf at z;cases z with
 | fn _ q A R S U J W L=>
   simp only[execOp,e,resolve,I,Deferred.ofValue];refine af (ag (ag λ_=>?_));obtain⟨b,M,p⟩:=g.put (fid:=fid) (ro:=ro) (rest:=rest) (kk:=k) (v:=undef) (a:=.cu) (.refl _) B (.cu _) g.rel
   have N:Frame.finish ⟨fid,tmps,.inRegion ops (i::rest)::k,{target:=.fn f A,args:=q++args.map (Frame.eval ⟨fid,tmps,.inRegion ops (i::rest)::k,defs,.run,kind,ro⟩)}::defs,.run,kind,ro⟩ undef=
    ⟨fid,b,.inRegion ops rest::k,{target:=.fn f A,args:=q++args.map (Frame.eval ⟨fid,tmps,.inRegion ops (i::rest)::k,defs,.run,kind,ro⟩)}::defs,.run,kind,ro⟩:=by
    simp only[Frame.finish,Frame.mk.injEq]at M ⊢;omega
   show T P m Q kk O (G _ _);rw[N];refine h Q kk O b _ kind cs F ⟨p.size,p.env,p.rel,⟨⟨A,_,rfl,⟨by omega,λi v a l d=>L i v a (by simp_all) d⟩,?_⟩,p.ds⟩,p.rc⟩ H;have:(q++args.map (Frame.eval ⟨fid,tmps,.inRegion ops (i::rest)::k,defs,.run,kind,ro⟩)).toList=q.toList++args.toList.map (Frame.eval ⟨fid,tmps,.inRegion ops (i::rest)::k,defs,.run,kind,ro⟩):=by simp
   rw[this];refine Vs.append ⟨by omega,λi v a l d=>J i v a (by simp_all) d⟩ ⟨by simp,λj v a l d=>?_⟩;simp only[YY]at l d;cases C:args.toList[j]? with
   |none=>simp_all
   |some x=>rw[C]at l d;simp only[YW,kn]at l d;subst l;subst d;exact c x (by simp only[e,Op.operands,Call.operands];grind)
end
def oO (env:Env):List Tmp->abj->Env
 | t :: b,a :: as=>oO (env.upd t a) b as
 | _,_=>env
def vO {k}:∀  b   vs   as   tmps   env ,Vs k vs as->eV k tmps env ->
 ((b.zip vs).foldl (fun tmps  x  => tmps.setIfInBounds x.1 x.2) tmps).size=tmps.size∧eV k ((b.zip vs).foldl (fun tmps  x  => tmps.setIfInBounds x.1 x.2) tmps) (oO env b as)
 | [],vs,as,tmps,env,_,d=>by cases as <;> exact⟨rfl,d⟩
 | t :: b,[],as,tmps,env,c,d=>by
   have:as=[]:=by have:=c.1;grind
   subst this;exact⟨rfl,d⟩
 | t :: b,v :: vs,[],tmps,env,c,d=>by simp[Vs] at c
 | t :: b,v :: vs,a :: as,tmps,env,c,d=>by
   have e:V k v a:=c.2 0 v a rfl rfl;have f:Vs k vs as:=⟨by simpa using c.1,fun i x y h j=>c.2 (i+1) x y (by simp_all) (by simp_all)⟩
   obtain⟨l,g⟩:=vO b vs as (tmps.setIfInBounds t v) (env.upd t a) f (d.upd e);exact⟨by simp_all,by simpa only [List.zip_cons_cons,Zr,oO] using g⟩
section
variable{P:abm}{m:Mo}{fid n:Nat}{s:St}{K:aaN}{k:abb}
def lT{kk O Kp σ l a R}(c:Rel kk O σ)(d:σ l=some (.loop a))(e:∀tmps,tmps.size=a.n->eV kk tmps a.env->R ⟨a.state,a.pending,a.fn,tmps,a.params,a.assign,a.body,a.defers⟩ kk O):
 dD P (Instr.getLoop l) kk O R Kp:=by
 obtain⟨x,f,b⟩:=c.1 l _ d (by simp);cases b with
 |loop _ tmps g h=>unfold Instr.getLoop;exact af (s:=getObj l) ⟨_,f,rfl,ag (e tmps g h)⟩
def Go.rangeFunc{f params assign body}(hf:Operand.ok n f=true)
 (h:∀ r l,s.σ r=none->s.σ l=none->r≠l->cX P m (ak s.env f) [.fn (.yield l) [] []] ((s.σ.set r (.raw (.deferred (some [])))).set l (.loop ⟨.ready,none,fid,n,s.env,params,assign,body,r⟩))
   (fun res σ'=>match res with
     |.val _=>∃a,σ' l=some (.loop a)/\a.state≠.busy/\Go P m fid n none ((a.pending.map Item.code).toList++k) {s with σ:=σ'.del l,D:=.mark r::s.D} K
     |.panic v=>K (.panic v) {s with σ:=σ',D:=.mark r::s.D})):Go P m fid n none (.code (.rangeFunc f params assign body)::k) s K:=
 λQ kk O tmps defs kind cs h1 g h3=>by
 refine .step (λt u x=>T P m Q t u x) rfl (λ_ _ _ h=>h) λw hw=>?_
 have z:dD P (Instr.enterLoop fid tmps params assign body none) kk O (λx H J=>∃r l,x=(l,[{target:=.collected r,args:=#[]}])/\s.σ r=none/\s.σ l=none/\r≠l/\kk.Le H/\
  Rel H J ((s.σ.set r (.raw (.deferred (some [])))).set l (.loop ⟨.ready,none,fid,n,s.env,params,assign,body,r⟩))) (λ_ _ _=>False):=by
  unfold Instr.enterLoop;refine af (af (s:=newObj _) ⟨rfl,λr hr=>ag (ag ?_)⟩)
  refine af (s:=newObj _) ⟨rfl,λl L=>ag (ag ⟨r,l,rfl,g.rel.isNone hr.1 hr.2.2,?_,?_,.refl _,?_⟩)⟩
  . have:=L.1
    by_cases e:l=r
    . subst e;simp[ai.set]at this
    simp only[ai.set,e,Rp]at this;have A:=L.2.2;simp only[ao.made]at A;exact g.rel.isNone this A
  . intro e
    subst e;have:=L.1;simp[ai.set]at this
  exact(g.rel.set (.raw _ rfl)).set (.loop ⟨.ready,none,fid,n,s.env,params,assign,body,r⟩ tmps g.size g.env)
 obtain⟨H,J,w1,l1,e1,s1,ad,c1⟩:=sS _ #[] z hw
 rcases c1 with⟨x,hx,r,l,rfl,B,C,M,c,E⟩|⟨_,_,hF⟩
 . have hv:=V.eval (fr:=⟨fid,tmps,.inRangeFunc l::k,{target:=.collected r,args:=#[]}::defs,.run,kind,none⟩) (g.env.mono c) g.size f hf
   have y:=h r l B C M Q H J _ [.func (.yield l) #[] #[]] ⟨fid,tmps,.inRangeFunc l::k,{target:=.collected r,args:=#[]}::defs,.run,kind,none⟩ (fy s.rc cs) hv (.cons (.fn _ _ _ _ _ rfl (λi v a N=>by simp at N) rfl (λi v a N=>by simp at N)) .nil) E rfl h1 (λd w r s l=>by simp)
    (λt u cv av σ' b F p R=>?_) (λt u cv av σ' b F p R=>?_) w1 s1
   . obtain⟨g',w',es,t,u,a1,a2,a3,a4⟩:=y
     refine⟨g',w',seen P fid ((Instr.enterLoop fid tmps params assign body none).runT P w #[]).2++es,t,u,?_,?_,a3,a4⟩
     . simp only[G,stepG,stepG.exec]
       rw[show(Instr.enterLoop fid tmps params assign body none).runT P w #[]=(((Instr.enterLoop fid tmps params assign body none).runT P w #[]).1,((Instr.enterLoop fid tmps params assign body none).runT P w #[]).2)from rfl,hx]
       simp only
       have S:stepG.apply P true ⟨fid,tmps,.inRangeFunc l::k,[{target:=.collected r,args:=#[]}]++defs,.run,kind,none⟩ (fy s.rc cs) none (do let d <-resolve (Frame.eval ⟨fid,tmps,.inRangeFunc l::k,[{target:=.collected r,args:=#[]}]++defs,.run,kind,none⟩) {callee:=.value f,args:=#[.const (.func (.yield l) #[] #[])],argTypes:=#[]} 0;invoke d.target d.args) w1=.go g' w' es:=by rw[<-a1];simp[resolve,Frame.eval]
       rw[S];rfl
     refine(Eff.trans e1 a2).sub λe he=>?_
     rw[Array.toList_append]at he
     rcases YH.1 he with he|he
     . have:=vE (by simp_all:e∈seen P fid ((Instr.enterLoop fid tmps params assign body none).runT P w #[]).2)
       grind
     simp_all
   ·
    obtain⟨a,ha,hb,U⟩:=R
    have al:∀w,stepG P m.main (G ⟨fid,tmps,.endRangeFunc l::k,{target:=.collected r,args:=#[]}::defs,.run,kind,none⟩ (fy s.rc cs)) w=GStep.after (seen P fid ((Instr.endLoop l).runT P w #[]).2) (match ((Instr.endLoop l).runT P w #[]).1 with
     |.ok q w=>.go (G ⟨fid,tmps,(q.map Item.code).toList++k,{target:=.collected r,args:=#[]}::defs,.run,kind,none⟩ (fy s.rc cs)) w
     |.halt (.panic v) w=>.go (G (Frame.raise ⟨fid,tmps,.endRangeFunc l::k,{target:=.collected r,args:=#[]}::defs,.run,kind,none⟩ [{v,recovered:=false}]) (fy s.rc cs)) w
     |.halt _ w=>.ended (.stuck  "range over a function: no such loop" (Frame.pos P ⟨fid,tmps,.endRangeFunc l::k,{target:=.collected r,args:=#[]}::defs,.run,kind,none⟩)) w):=λw=>by
     simp only[G,stepG,stepG.exec];rfl
    show T P m Q t u (G ⟨fid,tmps,.endRangeFunc l::k,{target:=.collected r,args:=#[]}::defs,.run,kind,none⟩ (fy s.rc cs));refine T.BG (fid:=fid) (s:=Instr.endLoop l) rfl (K:=λj I W=>j=a.pending/\I=t/\Rel I W (σ'.del l)) (nxt:=λq w=>.go (G ⟨fid,tmps,(q.map Item.code).toList++k,{target:=.collected r,args:=#[]}::defs,.run,kind,none⟩ (fy s.rc cs)) w) ?_ ?_ ?_
    . rintro j I W w2 _ _ ⟨rfl,rfl,X⟩
      exact⟨_,rfl,U Q I W tmps ({target:=.collected r,args:=#[]}::defs) kind cs h1 ⟨g.size,g.env.mono (c.trans b),X,⟨rfl,g.ds.mono (c.trans b)⟩,g.rc.mono (c.trans b)⟩ (h3.mono (c.trans b))⟩
    . simp_all
    unfold Instr.endLoop;refine af (lT p ha λY _ _=>?_)
    have Z:(a.state==LoopState.busy)=false:=by simp_all
    simp only[Z,LK,Rp];obtain⟨x,a7,a8⟩:=p.1 l _ ha (by simp)
    have a9:∃o,x=.obj o/\iz o=false:=by
     cases a8 with
     |loop _ _ _ _=>exact⟨_,rfl,rfl⟩
    obtain⟨o,rfl,ho⟩:=a9;refine af (s:=setObj l _) ⟨⟨o,a7,ho⟩,rfl,ag ⟨rfl,rfl,?_⟩⟩;exact p.drop l _
   exact h3.panic t u tmps ({target:=.collected r,args:=#[]}::defs) {s with σ:=σ',D:=.mark r::s.D} _ cv av (c.trans b) ⟨g.size,g.env.mono (c.trans b),p,⟨rfl,g.ds.mono (c.trans b)⟩,g.rc.mono (c.trans b)⟩ F R
 simp_all
def IY(l:Nat)(c:aaQ):aaN
 |.leave b,s=>s.D=[]/\s.rc=.no/\∃a,s.σ l=some (.loop a)/\c (.val (.lit (.bool b.isNone))) (s.σ.set l (.loop {a with state:=if b.isNone then .ready else .done,pending:=b}))
 |.panic v,s=>s.D=[]/\s.rc=.no/\c (.panic v) s.σ
def cX.yield{l args σ Y a fn}(hf:P.funcs[a.fn]?=some fn)(hl:σ l=some (.loop a))(hn:args.length=a.params.size)
 (h:Go P m a.fn a.n (some l) [.code a.assign,.beginRound,.code a.body] ⟨oO a.env a.params.toList args,σ,[],.no⟩ (IY l Y)):cX P m (.fn (.yield l) [] []) args σ Y:=λQ Z O cf c fr cs z f hr A B C hv hp=>by
 cases z with
 | fn _ c1 c2 l1 l2 g1 g2 g3 g4=>
   have e1:c1=#[]:=by simp_all
   have e2:c2=#[]:=by simp_all
   subst e1 e2;refine dF ?_;simp only[Deferred.ofValue];refine af (ag ?_);simp only[invoke,Instr.yield];refine af (lT hr hl λtmps hs he=>?_)
   have D:¬(#[]++c.toArray).size≠a.params.size:=by simp;rw[f.1,hn]
   simp only[YA D];refine ag λ_=>?_
   obtain⟨q1,q2⟩:=vO a.params.toList c args tmps a.env f he
   have E:(a.params.zip (#[]++c.toArray)).foldl (λtmps (x:Tmp × Value)=>match x with|(t,a)=>tmps.setIfInBounds t a) tmps=(a.params.toList.zip c).foldl (λtmps (x:Tmp × Value)=>tmps.setIfInBounds x.1 x.2) tmps:=by rw[<-Array.foldl_toList];simp_all
   show T P m Q Z O (G (Frame.round l a.fn _ a.assign a.body .normal) (fr::cs));rw[E];refine h Q Z O _ [] .normal (fr::cs) (by simp) ⟨by rw[q1,hs],q2,hr,trivial,trivial⟩ ⟨λu F d defs s' todo b i e H I=>?_,λu F d defs s' todo J av i e L I=>?_⟩
   . obtain⟨hD,j,a',q,k⟩:=I
     rw[j];show T P m Q u F (G ⟨a.fn,d,todo,defs,.run,.normal,some l⟩ (fr::cs))
     refine T.BG (fid:=a.fn) (s:=Instr.endRound l b) rfl (K:=λv y M=>v=.bool b.isNone/\y=u/\Rel y M (s'.σ.set l (.loop {a' with state:=if b.isNone then .ready else .done,pending:=b})))
      (nxt:=λv w=>.go (G (fr.finish v) cs) w) ?_ ?_ ?_
     . rintro v y M w2 _ _ ⟨rfl,rfl,N⟩
       exact⟨_,rfl,hv y M _ _ _ i (.lit _) N k⟩
     . intro w v w' g
       rcases H with⟨rfl,rfl⟩|⟨R,rfl,rfl⟩|⟨id,R,rfl,hex,rfl⟩
       . simp only[G,stepG,stepG.exec]
         rw[show(Instr.endRound l none).runT P w #[]=(((Instr.endRound l none).runT P w #[]).1,((Instr.endRound l none).runT P w #[]).2)from rfl,g]
         rfl
       . simp only[G,stepG,stepG.exec]
         rw[show(Instr.endRound l (some .ret)).runT P w #[]=(((Instr.endRound l (some .ret)).runT P w #[]).1,((Instr.endRound l (some .ret)).runT P w #[]).2)from rfl,g]
         rfl
       simp only[G,stepG,stepG.exec,hex,Option.elim];rw[show(Instr.endRound l (some (.exit id))).runT P w #[]=(((Instr.endRound l (some (.exit id))).runT P w #[]).1,((Instr.endRound l (some (.exit id))).runT P w #[]).2)from rfl,g]
       rfl
     unfold Instr.endRound;refine af (lT e.rel q λp S U=>?_)
     obtain⟨x,V,W⟩:=e.rel.1 l _ q (by simp)
     have X:∃o,x=.obj o/\iz o=false:=by
      cases W with
      |loop _ _ _ _=>exact⟨_,rfl,rfl⟩
     obtain⟨o,rfl,ho⟩:=X;exact af (s:=setObj l _) ⟨⟨o,V,ho⟩,rfl,ag ⟨rfl,rfl,e.rel.set (.loop {a' with state:=if b.isNone then .ready else .done,pending:=b} p S U)⟩⟩
   obtain⟨hD,j,k⟩:=I;rw[j]
   have hd:defs=[]:=by
    have:=e.ds;rw[hD]at this;cases defs with
    |nil=>rfl
    |cons _ _=>exact this.elim
   subst hd;refine T.cZ (g':=G (fr.raise [⟨J,false,false⟩]) cs) rfl (λw=>?_) (hp u F J av _ i L e.rel k)
   have r:Frame.catches P ⟨a.fn,d,todo,[],.panicking [⟨J,false,false⟩],.normal,some l⟩=false:=by simp[Frame.catches,hf]
   simp only[G,stepG,unwind,r,fy];rfl
def Go.beginRound{l a}(j:s.σ l=some (.loop a))(p:a.state=.ready)(h:Go P m fid n (some l) k {s with σ:=s.σ.set l (.loop {a with state:=.busy})} K):Go P m fid n (some l) (.beginRound::k) s K:=
 λQ q O tmps defs kind cs r b t=>by
 refine T.ns (s:=(do (Option.elim (some l) (stuck  "beginRound: no round") Instr.beginRound);pure .skip)) (λw=>by simp only[G,stepG,stepG.exec]) (dF ?_)
 simp only[Option.elim];refine af ?_;unfold Instr.beginRound;refine af (lT b.rel j λc d e=>?_);obtain⟨x,f,g⟩:=b.rel.1 l _ j (by simp)
 have i:∃o,x=.obj o/\iz o=false:=by
  cases g with
  |loop _ _ _ _=>exact⟨_,rfl,rfl⟩
 obtain⟨o,rfl,u⟩:=i;refine af (s:=setObj l _) ⟨⟨o,f,u⟩,rfl,?_⟩;simp only[p];refine ag (ag (ag λ_=>?_));exact h Q q _ tmps defs kind cs r ⟨b.size,b.env,b.rel.set (.loop {a with state:=.busy} c d e),b.ds,b.rc⟩ t
def fN{α}{g:abm->Sem α}{w es}:(program >>=g).runT P w es=(g P).runT P w es:=rfl
def rA.func{f fn cap args l σ B}(D:P.funcs[f]?=some fn)(hb:fn.body.isSome=true)(q:(fn.name==  "runtime.NumGoroutine")=false)
 (h:aB P m f (args++cap) σ (λr σ'=>match r with|.val _=>B l σ'|.panic _=>False)):rA P m (.func f) cap args l σ B:=λQ k O fr cs i j s a t u E F=>by
 refine .step (λn o x=>T P m Q n o x) rfl (λ_ _ _ h=>h) λw H=>?_
 have y:fn.body.isNone=false:=by simp_all
 have hinv:(invoke (.fn (.func f) i.toArray) j.toArray).runT P w #[]=(.ok (.enter f (j++i).toArray) w,#[]):=by show Sem.runT P (callFunc f (j.toArray++i.toArray)) w #[]=_;unfold callFunc;rw[fN,D];simp only[q,y,LK,Rp];simp
 have b:∀C,stepG P m.main (G {fr with defers:={target:=.fn (.func f) i.toArray,args:=j.toArray}::fr.defers} cs) w=.go (G (Frame.enter P f (j++i).toArray .deferred) (fr::cs)) w #[]\/C:=λC=>by
  left;have M:fr.mode≠.run:=λe=>by rw[e]at a;cases l<;>exact a.elim
  obtain⟨I,tmps,todo,defs,mode,kind,ro⟩:=fr;cases mode with
  |run=>simp_all
  |_=>simp only[G,stepG,unwind,callDeferred,hinv];simp;rfl
 refine⟨_,w,#[],k,O,(b False).resolve_right (λx=>x),.refl ..,H,?_⟩
 refine h Q k O (j++i) fr cs .deferred (by simp) (u.append t) E (λn o J K σ' c z p d=>?_) (λn o J K σ' c z p d=>d.elim)
 have g:kK fr=fr:=by
  unfold kK;cases A:fr.mode with
  | panicking ch=>
    rw[A]at a;cases l with
    |ret=>exact a.elim
    |Pw v=>obtain⟨L,rfl,_⟩:=a;rfl
  |_=>rfl
 show T P m Q n o (G (kK fr) cs);rw[g];have:=F n o l σ' fr.mode c (a.mono c) p d;omega
end
def fits(n:Int):Prop:=-9223372036854775808<=n/\n<=9223372036854775807
def qN(op:BinOp)(kd:IntKind)(a b:Int)(R:Value->Prop):Prop:=
 match op,kd with
 |.add,.i64=>fits (a+b)/\R (.int .i64 (a+b))
 |.sub,.i64=>fits (a-b)/\R (.int .i64 (a-b))
 |.mul,.i64=>fits (a*b)/\R (.int .i64 (a*b))
 |.eql,_=>R (.bool (a==b))
 |.neq,_=>R (.bool (a !=b))
 |.lss,_=>R (.bool (decide (a<b)))
 |.leq,_=>R (.bool (decide (a<=b)))
 |.gtr,_=>R (.bool (decide (a>b)))
 |.geq,_=>R (.bool (decide (a>=b)))
 |.shl,_=>0<=b/\R (.int kd (kd.wrap (a*2 ^ (min b.toNat kd.bits))))
 |.shr,_=>0<=b/\R (.int kd (a.fdiv (2 ^ (min b.toNat kd.bits))))
 |op,kd=>∃v,oA op kd a b=some v/\R v
section
variable{P:abm}(L:iT P)
def rC(o:Oper):Bool:=
 match o.op with
 |.move _|.assign _|.pick _ _ _|.alloc _|.box _ _|.load _ _|.store _ _ _|.makeInterface _ _|.makeFunc _ _ _|.extract _ _|.field _ _ _|.fieldAddr _ _ _|.nilCheck _|.panic _|.unOp .not _ _|.build _ _=>true
 |.indexAddr t _ _=>match L.tt t with|some ⟨.slice _,_,_,_,_⟩=>true|some ⟨.array _ _,_,_,_,_⟩=>true|_=>false
 |.index t _ _=>match L.tt t with|some ⟨.array _ _,_,_,_,_⟩=>true|_=>false
 |.binOp _ t _ _ _=>match L.tt t with|some ⟨.int _,_,_,_,_⟩=>true|_=>false
 |.convert s t _=>match L.tt s,L.tt t with|some ⟨.int _,_,_,_,_⟩,some ⟨.int _,_,_,_,_⟩=>true|_,_=>false
 |.typeAssert _ _ t true=>match L.tt t with|some ⟨.iface,_,_,_,_⟩=>false|some _=>true|none=>false
 | .call c=>match c.callee,c.args.toList with
   |.builtin .len,[_]=>(match c.argTypes[0]? with|some t=>(match L.tt t with|some ⟨.slice _,_,_,_,_⟩=>true|_=>false)|none=>false)
   |.builtin .min,[_,_]=>true
   |.builtin .max,[_,_]=>true
   |_,_=>false
 |_=>false
def RD(mu:abf)(o:Oper)(env:Env)(σ:ab)(K Kp:aaP):Prop:=
 match o.op with
 |.move x|.assign x=>K (ak env x) σ
 | .pick c a b=>match ak env c with
   |.lit (.bool x)=>K (if x then ak env a else ak env b) σ
   |_=>False
 | .alloc t=>match L.tt t with
   |some i=>(kX i.zero).cells.all AV.flat=true/\∀b,σ b=none->K (.ref b 0) (σ.set b (.cells (kX i.zero).cells))
   |none=>False
 |.box _ x=>(ak env x).cells.all AV.flat=true/\(if(match o.dst with|some d=>mu.contains d|none=>false)then ∀b,σ b=none->K (.ref b 0) (σ.set b (.cells (ak env x).cells))else K (.cp (ak env x) 0) σ)
 | .load t p=>match L.tt t with
   |some i=>∃a,qp i σ (ak env p)=some a/\K a σ
   |none=>False
 | .store t p x=>match L.tt t with
   |some i=>∃m,qL i σ (ak env p) (ak env x)=some m/\K (.lit undef) m
   |none=>False
 | .fieldAddr s x j=>match L.tt s with
   | some ⟨.struct,_,_,_,jx⟩=>(match jx[j]? with
     |some f=>f.2.1≠0/\∃a,rq (ak env x) f.1=some a/\K a σ
     |none=>False)
   |_=>False
 | .field s x j=>match L.tt s,ak env x with
   | some ⟨.struct,_,_,_,jx⟩,.agg l=>(match jx[j]? with
     |some f=>(match L.tt f.2.2 with|some q=>∃a,cI l f.1 q.size q.agg=some a/\K a σ|none=>False)
     |none=>False)
   |_,_=>False
 | .indexAddr t x n=>match L.tt t with
   | some ⟨.slice e,_,_,_,_⟩=>(match L.tt e,ak env x,ak env n with
     |some h,.sl r es _,.lit (.int _ z)=>r=h.size/\0<=z/\∃a,es[z.toNat]?=some a/\K (.cp a 0) σ
     |some h,.gq b off len _,.lit (.int _ z)=>(0<=z/\z<len)/\K (.ref b (off+z.toNat*h.size)) σ
     |_,_,_=>False)
   | some ⟨.array k e,_,_,_,_⟩=>(match L.tt e,ak env n with
     |some h,.lit (.int _ z)=>(0<=z/\z<k)/\∃a,rq (ak env x) (z.toNat*h.size)=some a/\K a σ
     |_,_=>False)
   |_=>False
 | .index t x n=>match L.tt t with
   | some ⟨.array k e,_,_,_,_⟩=>(match L.tt e,ak env x,ak env n with
     |some h,.agg l,.lit (.int _ z)=>(0<=z/\z<k)/\∃a,cI l (z.toNat*h.size) h.size h.agg=some a/\K a σ
     |_,_,_=>False)
   |_=>False
 | .binOp op _ x y _=>match ak env x,ak env y with
   |.lit (.int kd a),.lit (.int g b)=>(kd=g\/op=.shl\/op=.shr)/\qN op kd a b λv=>K (.lit v) σ
   |_,_=>False
 | .unOp .not _ x=>match ak env x with
   |.lit (.bool b)=>K (.lit (.bool !b)) σ
   |_=>False
 | .convert _ t x=>match L.tt t,ak env x with
   |some ⟨.int kd,_,_,_,_⟩,.lit (.int _ a)=>K (.lit (.int kd (kd.wrap a))) σ
   |_,_=>False
 | .makeInterface t x=>match L.tt t with
   |some i=>i.kind≠.iface/\K (.kz t (ak env x)) σ
   |none=>False
 |.makeFunc f fs cs=>K (.fn f (fs.toList.map (ak env)) (cs.toList.map (ak env))) σ
 | .extract x j=>match ak env x with
   |.cH l=>∃a,l[j]?=some a/\K a σ
   |_=>False
 | .typeAssert x _ t true=>match L.tt t,ak env x with
   |some i,.kz d y=>i.kind≠.iface/\K (if d=t then .cH [y,.lit (.bool true)]else .cH [kX i.zero,.lit (.bool false)]) σ
   |_,_=>False
 |.nilCheck x=>(match ak env x with|.cp _ _=>True|.ref _ _=>True|.kp _ _ _ _=>True|.fn (.func _) _ _=>True|_=>False)/\K (ak env x) σ
 | .panic x=>match ak env x with
   |.kz t y=>Kp (.kz t y) σ
   |_=>False
 | .build t parts=>match L.tt t with
   |some i=>i.kind=.struct/\(kX i.zero).cells.all AV.flat=true/\∃l,ko (λj=>(i.jx[j]?).map λx=>(x.1,x.2.1)) (kX i.zero).cells (parts.toList.map λp=>(p.1,ak env p.2))=some l/\K (.agg l) σ
   |none=>False
 | .call c=>match c.callee,c.args.toList with
   | .builtin .len,[x]=>(match ak env x with
     |.sl _ es _=>K (.lit (.int .i64 es.length)) σ
     |.lit (.slice none 0 0)=>K (.lit (.int .i64 0)) σ
     |.gq _ _ len _=>K (.lit (.int .i64 len)) σ
     |_=>False)
   | .builtin .min,[x,y]=>(match ak env x,ak env y with
     |.lit (.int kd a),.lit (.int g b)=>kd=g/\K (.lit (.int kd (if b<a then b else a))) σ
     |_,_=>False)
   | .builtin .max,[x,y]=>(match ak env x,ak env y with
     |.lit (.int kd a),.lit (.int g b)=>kd=g/\K (.lit (.int kd (if b>a then b else a))) σ
     |_,_=>False)
   |_,_=>False
 |_=>False
def aJ.mono{P o env σ K d Kp}(h:aJ P o env σ K Kp)(e:∀a σ,K a σ->d a σ):aJ P o env σ d Kp:=λk O f i j=>iU _ (h k O f i j) (λ_ _ _ ⟨v,l,m,n,g,b,a,c,x,y,z⟩=>⟨v,l,m,n,g,b,a,c,x,y,e _ _ z⟩) (λ_ _ _ h=>h)
def kL{c:Call}{b l}(a:c.callee=.builtin b)(d:c.args.toList=l):c=⟨.builtin b,l.toArray,c.argTypes⟩:=by obtain⟨ce,args,e⟩:=c;simp only at a d;subst a;subst d;simp
def Gx{mu o env σ K Kp}(C:rC L o=true)(h:RD L mu o env σ K Kp):aJ P o env σ K Kp:=by
 unfold RD at h;unfold rC at C;split at h
 . next x g=>exact vb (.inl g) h
 . next x g=>exact vb (.inr g) h
 . next c a b g=>
   split at h
   . next x m=>exact Ft g m h
   exact h.elim
 . next t g=>
   split at h
   . next i B=>exact Bx L g B h.1 h.2
   exact h.elim
 . next t x g=>
   obtain⟨A,u⟩:=h;generalize (match o.dst with|some d=>mu.contains d|none=>false)=q at u;cases q
   . simp only[LK,Rp]at u
     exact IT g A u
   simp only[YD]at u;exact vH g A u
 . next t p g=>
   split at h
   . next i B=>obtain⟨a,A,u⟩:=h;exact z9 L g B A u
   exact h.elim
 . next t p x g=>
   split at h
   . next i B=>obtain⟨a,A,u⟩:=h;exact Bw L g B A u
   exact h.elim
 . next s x j g=>
   split at h
   . next H I J jx B=>
     split at h
     . next f S=>obtain⟨A,a,u,Q⟩:=h;exact ru L g B rfl S A u Q
     exact h.elim
   exact h.elim
 . next s x j g=>
   split at h
   . next H I J jx l B m=>
     split at h
     . next f S=>
       split at h
       . next fi T=>obtain⟨a,A,u⟩:=h;exact By L g B rfl S T m A u
       exact h.elim
     exact h.elim
   exact h.elim
 . next t x X g=>
   split at h
   . next e H I J R B=>
     split at h
     . next U kk es sp kd z G m D=>obtain⟨rfl,E,a,A,u⟩:=h;exact vI L g B rfl G m D E A u
     . next U b off len cap kd z G m D=>exact uh L g B rfl G m D h.1 h.2
     exact h.elim
   . next k e H I J R B=>
     split at h
     . next U kd z G D=>obtain⟨E,a,A,u⟩:=h;exact ug L g B rfl G D E A u
     exact h.elim
   exact h.elim
 . next t x X g=>
   split at h
   . next k e H I J R B=>
     split at h
     . next U l kd z G m D=>obtain⟨E,a,A,u⟩:=h;exact Bz L g B rfl G m D E A u
     exact h.elim
   exact h.elim
 . next op t x y t2 g=>
   split at h
   . next kd a F b m w=>
     obtain⟨Y,h⟩:=h;have n:(op≠.shl/\op≠.shr)->F=kd:=λhh=>by simp_all
     unfold qN at h;split at h
     . rw[n (by simp)]at w;exact mM g m w (.inl ⟨rfl,rfl⟩) h.1 h.2
     . rw[n (by simp)]at w;exact mM g m w (.inr (.inl ⟨rfl,rfl⟩)) h.1 h.2
     . rw[n (by simp)]at w;exact mM g m w (.inr (.inr ⟨rfl,rfl⟩)) h.1 h.2
     . rw[n (by simp)]at w;exact cR g m w rfl h
     . rw[n (by simp)]at w;exact cR g m w rfl h
     . rw[n (by simp)]at w;exact cR g m w rfl h
     . rw[n (by simp)]at w;exact cR g m w rfl h
     . rw[n (by simp)]at w;exact cR g m w rfl h
     . rw[n (by simp)]at w;exact cR g m w rfl h
     . exact rv g m w h.1 (.inl ⟨rfl,rfl⟩) h.2
     . exact rv g m w h.1 (.inr ⟨rfl,rfl⟩) h.2
     next A u Q W h5 h6 h7 h8 h9 Z a7=>
     obtain⟨v,hv,hK⟩:=h;rw[n ⟨λe=>by simp_all,λe=>by simp_all⟩]at w;exact cR g m w hv hK
   exact h.elim
 . next t x g=>
   split at h
   . next b m=>exact IW g m h
   exact h.elim
 . next s t x g=>
   simp only[g]at C;split at h
   . next kd H I J R F a M m=>
     split at C
     . next ks b1 b2 b3 b4 kt c1 c2 c3 c4 hs V=>rw[M]at V;exact vJ L g hs M rfl rfl m h
     cases C
   exact h.elim
 . next t x g=>
   split at h
   . next i B=>exact mN L g B h.1 h.2
   exact h.elim
 . next f fs cs g=>exact ui g h
 . next x j g=>
   split at h
   . next l m=>obtain⟨a,A,u⟩:=h;exact vK g m A u
   exact h.elim
 . next x xt t g=>
   split at h
   . next i d y B m=>exact qt L g B h.1 m h.2
   exact h.elim
 . next x g=>
   obtain⟨A,u⟩:=h;split at A
   . next v off m=>exact eS g (.inl ⟨_,_,m⟩) u
   . next b off m=>exact eS g (.inr (.inl ⟨_,_,m⟩)) u
   . next b l hole off m=>exact eS g (.inr (.inr (.inr ⟨_,_,_,_,m⟩))) u
   . next f l r m=>exact eS g (.inr (.inr (.inl ⟨_,_,_,m⟩))) u
   exact A.elim
 . next x g=>
   split at h
   . next t y m=>exact BA g m h
   exact h.elim
 . next t parts g=>
   split at h
   . next i B=>obtain⟨A,u,l,Q,W⟩:=h;exact BC L g B A u Q W
   exact h.elim
 . next c g=>
   simp only[g]at C;split at h
   . next x N O=>
     simp only[N,O]at C;have e:=kL N O;split at C
     . next t E=>
       split at C
       . next e' H I J R M=>
         rw[e]at g;split at h
         . next kk es sp m=>exact Aa L g E M rfl (.inl m) h
         . next m=>exact Aa L (kk:=0) (sp:=.any) (es:=[]) g E M rfl (.inr ⟨m,rfl⟩) h
         . next b off len cap m=>exact yF L g E M rfl m h
         grind
       cases C
     cases C
   . next x y N O=>
     rw[kL N O]at g;split at h
     . next kd a F b m w=>obtain⟨rfl,h⟩:=h;exact pM g m w (.inl ⟨rfl,rfl⟩) h
     exact h.elim
   . next x y N O=>
     rw[kL N O]at g;split at h
     . next kd a F b m w=>obtain⟨rfl,h⟩:=h;exact pM g m w (.inr ⟨rfl,rfl⟩) h
     exact h.elim
   exact h.elim
 exact h.elim
def qO(ops:aaW)(n:Nat)(env:Env)(o:Oper)(go no:Prop):Prop:=
 match o.guard with
 |none=>go
 | some (j,b)=>match (ops[j]?).bind (·.dst)with
   | some d=>d<n/\(match env d with
     |.lit (.bool x)=>(x=b->go)/\(x≠b->no)
     |.lit (.tuple _)=>no
     |_=>False)
   |none=>False
def rD{ops n env o go no}(h:qO ops n env o go no):
 (bT ops n env o/\go)\/∃j b x d c,o.guard=some (j,b)/\ops[j]?=some c/\c.dst=some d/\d<n/\env d=.lit x/\RB x b/\no:=by
 unfold qO at h;split at h
 . next g=>exact .inl ⟨by unfold bT;simp_all,h⟩
 next j b g=>
 split at h
 . next d hd=>
   obtain⟨c,k,e⟩:=ZY.1 hd;obtain⟨f,h⟩:=h;split at h
   . next x i=>
     by_cases a:x=b
     . exact .inl ⟨by unfold bT;simp_all,h.1 a⟩
     exact .inr ⟨j,b,_,d,c,g,k,e,f,i,a,h.2 a⟩
   . next x i=>exact .inr ⟨j,b,_,d,c,g,k,e,f,i,trivial,h⟩
   simp_all
 simp_all
end
@[simp] theorem AV.QI  v :(AV.lit v).cells=[AV.lit v]:=rfl
@[simp] theorem AV.flat_lit  v :(AV.lit v).flat=cr.flat v:=rfl
@[simp] theorem AV.Px :(AV.cu).cells=[AV.cu]:=rfl
@[simp] theorem AV.QJ :(AV.cu).flat=false:=rfl
@[simp] theorem AV.QK  l :(AV.agg l).cells=l:=rfl
@[simp] theorem AV.flat_agg  l :(AV.agg l).flat=false:=rfl
@[simp] theorem AV.QL  l :(AV.cH l).cells=[AV.cH l]:=rfl
@[simp] theorem AV.RE  l :(AV.cH l).flat=false:=rfl
@[simp] theorem AV.RF  k   es   sp :(AV.sl k es sp).cells=[AV.sl k es sp]:=rfl
@[simp] theorem AV.T2  k   es   sp :(AV.sl k es sp).flat=true:=rfl
@[simp] theorem AV.RG  v   off :(AV.cp v off).cells=[AV.cp v off]:=rfl
@[simp] theorem AV.RH  b   l   hole   off :(AV.kp b l hole off).cells=[AV.kp b l hole off]:=rfl
@[simp] theorem AV.T3  b   l   hole   off :(AV.kp b l hole off).flat=true:=rfl
@[simp] theorem AV.T4  v   off :(AV.cp v off).flat=true:=rfl
@[simp] theorem AV.QM  b off :(AV.ref b off).cells=[AV.ref b off]:=rfl
@[simp] theorem AV.RI  b off :(AV.ref b off).flat=true:=rfl
@[simp] theorem AV.QN  b off len cap :(AV.gq b off len cap).cells=[AV.gq b off len cap]:=rfl
@[simp] theorem AV.RJ  b off len cap :(AV.gq b off len cap).flat=true:=rfl
@[simp] theorem AV.RK  f   x y :(AV.fn f x y).cells=[AV.fn f x y]:=rfl
@[simp] theorem AV.T5  f   x y :(AV.fn f x y).flat=true:=rfl
@[simp] theorem AV.QO  t   v :(AV.kz t v).cells=[AV.kz t v]:=rfl
@[simp] theorem AV.RL  t   v :(AV.kz t v).flat=true:=rfl
@[simp] theorem AV.QP  b :(AV.map b).cells=[AV.map b]:=rfl
@[simp] theorem AV.RN  b :(AV.map b).flat=true:=rfl
@[simp] theorem AV.Py  b :(AV.chan b).cells=[AV.chan b]:=rfl
@[simp] theorem AV.QQ  b :(AV.chan b).flat=true:=rfl
attribute [simp] dh ak qO rC RD List.range List.range.loop Oper.ok Operand.ok Op.operands Call.operands qN bd Env.upd QH MN eH BD oneOf exitTo qp qL rq cI flat TI.agg kX ko fits

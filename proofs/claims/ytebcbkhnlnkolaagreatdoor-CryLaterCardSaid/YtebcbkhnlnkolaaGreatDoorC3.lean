import Derived.Laws.Sem
import Derived.Test.YtebcbkhnlnkolaaGreatDoorC2
set_option linter.all false
namespace Go.ck
open Go.Conc
abbrev adr:=List (Int × AV)
abbrev adt:=Exit->St->Prop
abbrev adu:=Env->ab->Prop
abbrev adv:=AV->ab->Prop
abbrev adw:=kW->ab->Prop
abbrev adI:=Option AV
abbrev adO:=ab->Prop
abbrev adQ:=List AV
def AG  off :∀(l:List Value)  s  (c:ady),off+s+l.length<=c.size ->
 ((l.zipIdx s).foldl (λcs  x=>cs.setIfInBounds (off+x.2) x.1) c).size=c.size/\
 ∀j ,((l.zipIdx s).foldl (λcs  x=>cs.setIfInBounds (off+x.2) x.1) c)[j]?=if off+s<=j/\j<off+s+l.length then l[j-(off+s)]? else c[j]?
 | [],s,c,_=>⟨rfl,λj=>by
   have:¬(off+s<=j/\j<off+s+([]:List Value).length):=by simp
   rw[zA this];rfl⟩
 | v::l,s,c,h=>by
   simp only[abA]at h;obtain⟨b,a⟩:=AG off l (s+1) (c.setIfInBounds (off+s) v) (by simp;omega);simp only[List.zipIdx_cons,abB];refine⟨by grind,λj=>?_⟩;rw[a j];by_cases d:j=off+s
   . grind
   grind
def lx(place:Nat->adn)(l:adQ):List (Nat × AV)->Option adQ
 |[]=>some l
 | (i,a)::μ=>match place i with
   |none=>none
   |some (off,size)=>if a.cells.length=size/\off+size<=l.length/\a.cells.all AV.flat=true then lx place (aG l off a.cells) μ else none
def sT(k:ar)(c:ady)(l:adQ):Prop:=c.size=l.length/\(∀(i:Nat) v a,c[i]?=some v->l[i]?=some a->V k v a)/\∀(i:Nat) v,c[i]?=some v->ck.flat v=true
def wV{k place}:∀  m   n   c   l l' ,m.length=n.length->(∀(i:Nat) p q,m[i]?=some p->n[i]?=some q->p.1=q.1/\V k p.2 q.2) ->
 sT k c l->lx place l n=some l'->∃c',Instr.fill place c m=some c'/\sT k c' l'
 |[],[],c,l,l',_,_,g,h=>by simp only[lx,kn]at h;subst h;exact⟨c,rfl,g⟩
 | (i, v)::m,(B,a)::n,c,l,l',s,w,g,h=>by
   obtain⟨y,o⟩:=w 0 (i,v) (B,a) rfl rfl;simp only at y o;subst y;unfold lx at h;unfold Instr.fill;cases z:place i with
   |none=>simp_all
   | some os=>
     obtain⟨off,size⟩:=os;rw[z]at h;simp only at h ⊢;split at h
     . next e=>
       obtain⟨C,D,E⟩:=e;obtain⟨A,H,I⟩:=o.cells E;have F:off+v.cells.size<=c.size:=by rw[A,C,g.1];exact D
       have r:¬((decide (v.cells.size≠size)||decide (off+v.cells.size>c.size))=true):=by grind
       rw[zA r];have b:=AG off v.cells.toList 0 c (by omega)
       have f:(v.cells.zipIdx.foldl (λcs (x:Value × Nat)=>match x with|(c,j)=>cs.setIfInBounds (off+j) c) c)=((v.cells.toList.zipIdx 0).foldl (λcs (x:Value × Nat)=>cs.setIfInBounds (off+x.2) x.1) c):=by rw[<-Array.foldl_toList,Array.toList_zipIdx]
       rw[f];refine wV m n _ (aG l off a.cells) l' (by grind) (λj p q z J=>w (j+1) p q (by grind) (by grind)) ⟨?_,?_,?_⟩ h
       . rw[b.1,nA (by omega)];exact g.1
       . intro j u x d t
         rw[b.2]at d;rw[xB (by omega)]at t
         simp only[Nat.add_zero,Array.length_toList,A]at d
         by_cases G:off<=j/\j<off+a.cells.length
         . grind
         rw[zA G]at d t;exact g.2.1 j u x d t
       intro j u d;rw[b.2]at d;split at d
       . grind
       exact g.2.2 j u d
     cases h
 |[],_::_,_,_,_,s,_,_,_=>by simp at s
 |_::_,[],_,_,_,s,_,_,_=>by simp at s
def uG{k}{ρ:adU->Value}{env}{parts:Array (Nat × adU)}(h:∀p∈parts,V k (ρ p.2) (ak env p.2)):
 (parts.map λ(i,x)=>(i,ρ x)).toList.length=(parts.toList.map λp=>(p.1,ak env p.2)).length/\
 ∀(i:Nat) p q,(parts.map λ(i,x)=>(i,ρ x)).toList[i]?=some p->(parts.toList.map λp=>(p.1,ak env p.2))[i]?=some q->p.1=q.1/\V k p.2 q.2:=by
 grind
section
variable{P:adT}(L:jJ P){o:Oper}{env:Env}{σ:ab}{K:adv}{Kp:adv}
def xK{k O Kp}:∀(fs:List Field) (a:List (Nat × Nat × Nat))  K ,
 (fs.map λf=>(f.offset,(P.info? f.type).map (·.size),f.type))=(a.map λx=>(x.1,some x.2.1,x.2.2))->K (a.map λx=>(x.1,x.2.1)) k O ->
 dT P (fs.mapM λf=>(do pure (f.offset,<-sizeOf f.type):Sem (Nat × Nat))) k O K Kp
 |[],[],K,_,b=>ag b
 | f::fs,x::a,K,h,b=>by
   simp only[acP,List.cons.injEq,yb]at h;obtain⟨⟨g,c,_⟩,d⟩:=h;obtain⟨info,e,i⟩:=aaK.1 c;rw[List.mapM_cons];refine af (af (vC e (ag ?_)));refine af (xK fs a _ d (ag ?_))
   simp_all
 |[],_::_,_,h,_=>by simp at h
 |_::_,[],_,h,_=>by simp at h
def sU{i d}(h:dO P i d=true)(a:i.kind=.struct):∃fs,d=.struct fs/\(fs.toList.map λf=>(f.offset,(P.info? f.type).map (·.size),f.type))=(i.kj.map λx=>(x.1,some x.2.1,x.2.2)):=by
 cases d with
 | struct fs=>
   simp only[dO,wL,acm]at h
   simp_all
 |_=>simp[dO,a]at h
def xL{k z}(h:(lY z).cells.all AV.flat=true):sT k z.cells (lY z).cells:=(V.lY k z).cells h
def Dy{t:Nat}{parts i l}(e:o.op=.build t parts)(f:L.tt t=some i)(h:i.kind=.struct)(m:(lY i.zero).cells.all AV.flat=true)
 (n:lx (λj=>(i.kj[j]?).map λx=>(x.1,x.2.1)) (lY i.zero).cells (parts.toList.map λp=>(p.1,ak env p.2))=some l) (q:K (.agg l) σ):aJ P o env σ K Kp:=
 aJ.val (s:=λρ=>Instr.build t (parts.map λ(i,x)=>(i,ρ x))) (λρ=>by simp[execOp,e]) λk O ρ r u=>by
  obtain⟨v,g⟩:=uG (k:=k) (ρ:=ρ) (env:=env) (parts:=parts) λp g=>r p.2 (by simp[e,Op.operands];grind)
  obtain⟨y,w,b⟩:=wV _ _ i.zero.cells _ l v g (xL m) n;unfold Instr.build;refine af (de L f (af (aF L f λd _ hd=>?_)));obtain⟨fs,rfl,c⟩:=sU hd h;dsimp only;refine af ?_;rw[Array.mapM_eq_mapM_toList,map_eq_pure_bind];refine af (xK fs.toList i.kj _ c (ag ?_));have a:(λj:Nat=>((i.kj.map λx=>(x.1,x.2.1)).toArray[j]?:adn))=λj=>(i.kj[j]?).map λx=>(x.1,x.2.1):=by grind
  rw[a,w];exact ag (.here ⟨.refl k,.agg l,σ,.agg _ _ b.1 b.2.1,u,q⟩)
def Aa{t len e:Nat}{parts it b es}(R:o.op=.buildSlice t len parts)(X:L.tt t=some it)(Y:it.kind=.slice e)(S:L.tt e=some b)(C:len*b.size<=16777216)
 (Z:(lY b.zero).cells.all AV.flat=true) (T:len*b.size=0\/(lY b.zero).cells.length=b.size) (l:es.length=len/\∀e∈es,e.cells.length=b.size)
 (hf:lx (λj=>some (j*b.size,b.size)) ((List.range (len*b.size)).map λj=>(lY b.zero).cells.getD (j % (lY b.zero).cells.length) .cJ) (parts.toList.map λp=>(p.1,ak env p.2))=some (flatten es)) (hK:K (.sl b.size es .exact) σ):aJ P o env σ K Kp:=
 aJ.val (s:=λρ=>Instr.buildSlice t len (parts.map λ(i,x)=>(i,ρ x))) (λρ=>by simp[execOp,R]) λk O ρ hv hr=>by
  obtain⟨hl,U⟩:=uG (k:=k) (ρ:=ρ) (env:=env) (parts:=parts) λp U=>hv p.2 (by simp[R,Op.operands];grind)
  have h:=xL (k:=k) Z;unfold Instr.buildSlice;refine af (aF L X λd _ hd=>?_)
  rw[bT hd Y];dsimp only;refine af (bL L S ?_);rw[zA (by omega)]
  have fin:∀(z:ady),(len*b.size=0\/z=b.zero.cells)->dT P (do
   let some cells:=Instr.fill (λi=>some (i*b.size,b.size)) ((Array.range (len*b.size)).map (z[· % z.size]!)) (parts.map λ(i,x)=>(i,ρ x)).toList|stuck  "buildSlice: a part of the wrong size"
   pure (.slice (some (<-newRow e cells)) len len):Sem Value) k O (λv m D=>mS m D λn F=>k.Le n/\∃a f,V n v a/\Rel n F f/\K a f) (λv m D=>k.Le m/\∃a f,V m v a/\Rel m D f/\Kp a f):=by
   intro z q
   have G:sT k ((Array.range (len*b.size)).map (z[· % z.size]!)) ((List.range (len*b.size)).map λj=>(lY b.zero).cells.getD (j % (lY b.zero).cells.length) .cJ):=by
    refine⟨by simp,λj v a u W=>?_,λj v u=>?_⟩
    . have w:j<len*b.size:=by grind
      rcases q with y|rfl
      . omega
      have H:(lY b.zero).cells.length≠0:=by grind
      have hm:j % (lY b.zero).cells.length<(lY b.zero).cells.length:=Nat.mod_lt _ (by omega)
      simp only[acj,Array.getElem?_range,w,Rp,abx,kn,abw,List.getElem?_range]at u W;have e1:=h.1;subst u;subst W;refine h.2.1 (j % (lY b.zero).cells.length) _ _ ?_ ?_
      . grind
      grind
    have w:j<len*b.size:=by grind
    rcases q with y|rfl
    . omega
    have H:(lY b.zero).cells.length≠0:=by grind
    have hm:j % b.zero.cells.size<b.zero.cells.size:=by rw[h.1];exact Nat.mod_lt _ (by omega)
    simp only[acj,Array.getElem?_range,w,Rp,abx,kn]at u;subst u;refine h.2.2 (j % b.zero.cells.size) _ ?_
    grind
   obtain⟨E,hc,c⟩:=wV _ _ _ _ _ hl U G hf;rw[hc];dsimp only;refine af (nM λr m D hn I=>ag ?_)
   obtain⟨n,F,g,A,J,M,N⟩:=I;refine⟨n,F,g,A,.sl b.size es .exact,σ,?_,N σ hr,hK⟩;have Q:=aX l.2;rw[show len=es.length from l.1.symm]
   refine V.ofRow (aaG _) M (by rw[c.1,Q];omega) l.2 (λj a ha=>?_) rfl
   have w:j<E.size:=by rw[c.1];grind
   have B:E[j]?=some E[j]:=by simp[w]
   exact⟨E[j],by grind,(c.2.1 j _ a B ha).mono A,c.2.2 j _ B⟩
  by_cases y:len*b.size=0
  . rw[zR y]
    exact af (ag (fin #[] (.inl y)))
  rw[zA y];exact af (de L S (af (ag (fin _ (.inr rfl)))))
end
inductive Md where
 |ret
 |Sr (v:AV)
def xN(k:ar):FrameMode->Md->Prop
 |.returning,.ret=>True
 |.panicking c,.Sr v=>∃a,c=[⟨a,false,false⟩]/\V k a v
 |_,_=>False
def xN.mono{k k'}(b:k.Le k'){fm a}(h:xN k fm a):xN k' fm a:=by
 cases fm<;>cases a<;>simp only[xN]at h ⊢;obtain⟨c,d,e⟩:=h;exact⟨c,d,e.mono b⟩
def rJ(P:adT)(m:Mo)(f:Fn)(cap args:adQ)(i:Md)(σ:ab)(j:Md->adO):Prop:=
 ∀ Q k O (fr:Frame) cs e g,fr.kind≠.early->xN k fr.mode i->Vs k e cap->Vs k g args->Rel k O σ ->
   (∀d h b c a,k.Le d->xN d a b->Rel d h c->j b c->T P m Q d h (G {fr with mode:=a} cs)) ->
   T P m Q k O (G {fr with defers:={target:=.fn f e.toArray,args:=g.toArray}::fr.defers} cs)
def Dz{P}(L:jJ P)(env:Env)(σ:ab):ResultVar->adI
 |.tmp t=>some (env t)
 |.cell a t=>match L.tt t with|some i=>rH i σ (env a)|none=>none
def fy{P}(L:jJ P)(env:Env)(σ:ab):List ResultVar->Option adQ
 |[]=>some []
 |r::rs=>match Dz L env σ r,fy L env σ rs with|some a,some l=>some (a::l)|_,_=>none
def oneOf:adQ->AV
 |[a]=>a
 |l=>.cH l
def ResultVar.ok(n:Nat):ResultVar->Bool
 |.tmp t=>t<n
 |.cell a _=>a<n
def Ly{P}(L:jJ P)(m:Mo)(rs:List ResultVar)(env:Env)(a:adw):List wA->Md->adO
 |[],.ret,σ=>∃l,fy L env σ rs=some l/\a (.val (oneOf l)) σ
 |[],.Sr v,σ=>a (.panic v) σ
 |.mark r::D,b,σ=>σ r=some (.raw (.deferred (some [])))/\Ly L m rs env a D b (σ.set r (.raw (.deferred none)))
 |.call f cap args::D,b,σ=>rJ P m f cap args b σ λc d=>Ly L m rs env a D c d
section
variable{P:adT}(L:jJ P){m:Mo}{f:FuncId}{fn:Func}
def DC{α β:Type}{k O Kp}  g :∀(l:List α)  K  (R:α->β->Prop),
 (∀x∈l,∀  d ,(∀y,R x y->d y k O)->dT P (g x) k O d Kp)->(∀r ,r.length=l.length->(∀(i:Nat) x y,l[i]?=some x->r[i]?=some y->R x y)->K r k O)->dT P (l.mapM g) k O K Kp
 |[],K,R,_,h=>ag (h [] rfl (λi x y f=>by simp at f))
 | x::l,K,R,e,h=>by
   rw[List.mapM_cons];refine af (e x (by simp) _ λy n=>?_);refine af (DC g l _ R (λz j=>e z (by simp[j])) λr c m=>?_);refine ag (h (y::r) (by simp[c]) λi a b o hb=>?_)
   grind
def sV{env σ}:∀{rs l},fy L env σ rs=some l->l.length=rs.length/\∀(i:Nat) r a,rs[i]?=some r->l[i]?=some a->Dz L env σ r=some a
 |[],l,h=>by simp only[fy,kn]at h;simp_all
 | r :: rs,l,h=>by
   unfold fy at h;cases c:Dz L env σ r with
   |none=>simp_all
   | some a=>
     cases b:fy L env σ rs with
     |none=>simp_all
     | some d=>
       rw[c,b]at h;simp only[kn]at h;subst h;obtain⟨e,f⟩:=sV b
       grind
def DD{k O Kp K η env σ l}(D:gh k η env)(G:fn.results.all (ResultVar.ok η.size)=true)(H:Rel k O σ)
 (I:fy L env σ fn.results.toList=some l) (J:∀v,V k v (oneOf l)->K v k O):dT P (results fn η) k O K Kp:=by
 obtain⟨M,E⟩:=sV L I;unfold results;refine af ?_;rw[Array.mapM_eq_mapM_toList,map_eq_pure_bind]
 have q:∀r∈fn.results.toList,ResultVar.ok η.size r=true:=λr h=>by
  simp only[abn]at G
  simp_all
 refine af (DC _ fn.results.toList _ (λr v=>∀a,Dz L env σ r=some a->V k v a) (λr m N n=>?_) λvs s w=>ag ?_)
 . have f:=q r m
   cases r with
   |tmp t=>exact ag (n _ λa g=>by simp only[Dz,kn]at g;subst g;exact D t (by simpa[ResultVar.ok]using f))
   | cell a t=>
     obtain⟨j,Q,x⟩:=abD.1 m;have y:j<l.length:=by omega
     have c:=E j _ l[j] (xW Q) (by simp[y]);rw[x]at c;simp only[Dz]at c;cases z:L.tt t with
     |none=>simp_all
     | some i=>
       rw[z]at c;simp only at c;have A:=D a (by simpa[ResultVar.ok]using f);obtain⟨S,e⟩:=A.LJ (AE c);rw[e]at A;obtain⟨b,base,off,row,rfl,o,R⟩:=Dr H A c;show dT P (do loadVar t (<-asAddr (η.getD a undef))) k O N Kp;rw[e];refine af (ag (vB L o z R λv B=>n v λT C=>?_));simp only[Dz,z,c,kn]at C
       simp_all
 refine ag (J _ ?_)
 have d:∀(i:Nat) v a,vs[i]?=some v->l[i]?=some a->V k v a:=λi v a B g=>by
  have F:i<fn.results.toList.length:=by grind
  exact w i _ v (xW F) B a (E i _ a (xW F) g)
 have hlen:vs.length=l.length:=by rw[s,M]
 by_cases p:vs.toArray.size=1
 . rw[dif_pos p]
   match l,vs,hlen,d with
   |[a],[v],_,d=>exact d 0 v a rfl rfl
   |[],[],_,_=>simp at p
   |a::b::l,u::v::vs,_,_=>simp at p
 rw[dif_neg p]
 match l,vs,hlen,d with
 |[],[],_,d=>exact .cH _ _ rfl (λi v a h=>by simp at h)
 |[a],[v],_,d=>simp at p
 |a::b::l,u::v::vs,hlen,d=>exact .cH _ _ (by omega) (λi v a B g=>d i v a (by grind) g)
def T.DF{α Q k O g s ξ}(f:g.status=.running){K}{nxt:α->World->GStep}(b:∀a k' O' w',k.Le k'->Sat k' O' w'->K a k' O'->∃g',nxt a w'=.go g' w' #[]/\T P m Q k' O' g')
 (i:∀w a w',(s.runT P w #[]).1=.ok a w'->stepG P m.main g w=GStep.after (seen P ξ (s.runT P w #[]).2) (nxt a w')) (h:dT P s k O K (λ_ _ _=>False)):T P m Q k O g:=
 .step (λk' O' x=>T P m Q k' O' x) f (λ_ _ _ h=>h) λw j=>by
  obtain⟨k',O',w',l,c,d,t,n⟩:=uE s #[] h j;rcases n with⟨a,o,p⟩|⟨v,_,u⟩
  . obtain⟨g',q,r⟩:=b a k' O' w' c.le d p
    refine⟨g',w',seen P ξ (s.runT P w #[]).2,k',O',?_,c.sub (λe y=>?_),d,r⟩
    . rw[i w a w' o,q];simp[GStep.after]
    have:=xz (by simp_all:e∈seen P ξ (s.runT P w #[]).2)
    grind
  simp_all
def DG{Q F n τ c μ}(hf:P.funcs[f]?=some fn)(a7:fn.results.all (ResultVar.ok n)=true)(b:τ≠.early){env}:
 ∀  D   p   σ   k   O   η   todo   θ   fm ,η.size=n->gh k η env->Rel k O σ->AA k θ D->xN k fm p->Ly L m fn.results.toList env F D p σ ->
  (∀k' O' i y σ',k.Le k'->V k' i y->Rel k' O' σ'->F (.val y) σ'->T P m Q k' O' (kH τ c μ i)) ->
  (∀k' O' i y σ',k.Le k'->V k' i y->Rel k' O' σ'->F (.panic y) σ'->T P m Q k' O' (G (c.raise [⟨i,false,false⟩]) μ)) ->
  T P m Q k O (G ⟨f,η,todo,θ,fm,τ,none⟩ (c::μ)):=by
 intro D
 induction D with
 | nil =>
   intro p σ k O η todo θ fm z H t hd a A B I;cases θ with
   |cons _ _=>exact hd.elim
   | nil =>
     cases fm with
     |run=>cases p<;>exact a.elim
     | returning=>
       cases p with
       |Sr v=>exact a.elim
       | ret=>
         obtain⟨l,hl,hK⟩:=A;refine T.DF (ξ:=f) (s:=results fn η) rfl (K:=λv k' O'=>k'=k/\O'=O/\V k v (oneOf l)) (nxt:=λv w=>doReturn P m.main ⟨f,η,todo,[],.returning,τ,none⟩ (c::μ) none v w) ?_ ?_ ?_
         . rintro v k' O' w' _ _ ⟨rfl,rfl,J⟩
           have ht:=B k' O' v _ σ (.refl _) J t hK;cases τ<;>first|exact absurd rfl b|exact⟨_,rfl,ht⟩
         . intro w v w' q
           simp only[G,stepG,unwind,hf]
           simp_all
         exact DD L H (by simp_all) t hl λv B=>⟨rfl,rfl,B⟩
     | panicking ch=>
       cases p with
       |ret=>exact a.elim
       | Sr v=>
         obtain⟨i,rfl,M⟩:=a;refine T.dA (g':=G (c.raise [⟨i,false,false⟩]) μ) rfl (λw=>?_) (I k O i v σ (.refl _) M t A)
         have C:Frame.catches P ⟨f,η,todo,[],.panicking [⟨i,false,false⟩],τ,none⟩=false:=by simp[Frame.catches,hf]
         simp only[G,stepG,unwind,C];rfl
 | cons d D ih=>
   intro p σ k O η todo θ fm z H t hd a A B I;cases θ with
   |nil=>exact hd.elim
   | cons df θ=>
     obtain⟨j,N⟩:=hd;have R:fm≠.run:=λe=>by subst e;cases p<;>exact a.elim
     cases d with
     | mark r=>
       obtain⟨h1,h2⟩:=A;have j:df={target:=.collected r,args:=#[]}:=j;subst j;refine T.DF (ξ:=f) (s:=Instr.takeDeferred r) rfl (K:=λcalls k' O'=>calls=[]/\k'=k/\Rel k O' (σ.set r (.raw (.deferred none)))) (nxt:=λcalls w=>.go (G ⟨f,η,todo,calls++θ,fm,τ,none⟩ (c::μ)) w) ?_ ?_ ?_
       . grind
       . intro w v w' q
         cases fm with
         |run=>simp_all
         |_=>simp only[G,stepG,unwind];rw[show(Instr.takeDeferred r).runT P w #[]=(((Instr.takeDeferred r).runT P w #[]).1,((Instr.takeDeferred r).runT P w #[]).2)from rfl,q]
       obtain⟨x,hx,S⟩:=t.1 r _ h1 (by simp)
       cases S with
       |raw _ hc=>unfold Instr.takeDeferred;refine af (s:=getObj r) ⟨_,hx,rfl,?_⟩;refine af (s:=setObj r _) ⟨⟨_,hx,rfl⟩,rfl,ag ⟨rfl,rfl,?_⟩⟩;exact t.set (.raw _ rfl)
     | call g cap args=>
       obtain⟨cc,ca,rfl,U,W⟩:=j
       have:=A Q k O ⟨f,η,todo,θ,fm,τ,none⟩ (c::μ) cc.toList ca.toList b a U W t λk' O' X σ' u o E Y Z=>ih X σ' k' O' η todo θ u z (H.mono o) Y (N.mono o) E Z (λ_ _ _ _ _ h=>B _ _ _ _ _ (o.trans h)) (λ_ _ _ _ _ h=>I _ _ _ _ _ (o.trans h))
       omega
def dG(args:adQ):Env:=λt=>args.getD t .cJ
def uH{k cargs args}(h:Vs k cargs args)  n :gh k (cargs.toArray++Array.replicate n undef) (dG args):=λt d=>by
 by_cases a:t<cargs.length
 . have b:t<args.length:=by rw[<-h.1];exact a
   have:(cargs.toArray++Array.replicate n undef).getD t undef=cargs[t]:=by simp_all
   rw[this];have c:dG args t=args[t]:=by simp[dG,wN,b]
   rw[c];exact h.2 t _ _ (by simp[a]) (by simp[b])
 have:dG args t=.cJ:=by
  unfold dG;rw[wN,abW (by rw[<-h.1];omega)];rfl
 rw[this];exact .cJ _
def TS{P}(L:jJ P)(m:Mo)(rs:List ResultVar)(a:adw):adt
 |.leave none,s=>s.rc=.no/\Ly L m rs s.env a s.D .ret s.σ
 |.leave (some .ret),s=>s.rc=.no/\Ly L m rs s.env a s.D .ret s.σ
 |.leave _,_=>False
 |.panic v,s=>s.rc=.no/\Ly L m rs s.env a s.D (.Sr v) s.σ
def PY{Q j n τ c μ}(hf:P.funcs[f]?=some fn)(b:fn.results.all (ResultVar.ok n)=true)(a:τ≠.early){k}
 (q:∀k' O' e g σ',k.Le k'->V k' e g->Rel k' O' σ'->j (.val g) σ'->T P m Q k' O' (kH τ c μ e))
 (r:∀k' O' e g σ',k.Le k'->V k' e g->Rel k' O' σ'->j (.panic g) σ'->T P m Q k' O' (G (c.raise [⟨e,false,false⟩]) μ)):
 xy P m Q f n none τ (c::μ) (TS L m fn.results.toList j) k where
 leave k' O' η θ s todo d hle hs t i:=by
  have key:s.rc=.no/\Ly L m fn.results.toList s.env j s.D .ret s.σ/\(d=none\/d=some .ret):=by
   rcases t with⟨_,rfl⟩|⟨_,_,rfl⟩|⟨_,_,_,_,rfl⟩
   . exact⟨i.1,i.2,.inl rfl⟩
   . exact⟨i.1,i.2,.inr rfl⟩
   exact i.elim
  obtain⟨l,o,u⟩:=key;rw[l];refine T.dA (g':=G ⟨f,η,todo,θ,.returning,τ,none⟩ (c::μ)) rfl (λw=>?_) ?_
  . rcases t with⟨rfl,rfl⟩|⟨v,rfl,rfl⟩|⟨_,_,_,_,rfl⟩
    . simp[G,stepG,stepG.exec,gJ]
    . simp[G,stepG,stepG.exec,gJ]
    grind
  exact DG L hf b a s.D .ret s.σ k' O' η todo θ .returning hs.size hs.env hs.rel hs.ds trivial o (λ_ _ _ _ _ h=>q _ _ _ _ _ (hle.trans h)) (λ_ _ _ _ _ h=>r _ _ _ _ _ (hle.trans h))
 panic k' O' η θ s todo e g hle hs p i:=by obtain⟨l,o⟩:=i;rw[l];exact DG L hf b a s.D (.Sr g) s.σ k' O' η todo θ _ hs.size hs.env hs.rel hs.ds ⟨e,rfl,p⟩ o (λ_ _ _ _ _ h=>q _ _ _ _ _ (hle.trans h)) (λ_ _ _ _ _ h=>r _ _ _ _ _ (hle.trans h))
def aB.intro{args σ j body}(l:P.funcs[f]?=some fn)(hb:fn.body=some body)(q:args.length<=fn.ntmps)(g:fn.results.all (ResultVar.ok fn.ntmps)=true)
 (h:Go P m f fn.ntmps none [.code body] ⟨dG args,σ,[],.no⟩ (TS L m fn.results.toList j)):aB P m f args σ j:=λQ k O a c μ τ b d n o p=>by
 have i:(a.toArray++Array.replicate (fn.ntmps-a.length) undef).size=fn.ntmps:=by simp;rw[d.1];omega
 have e:Frame.enter P f a.toArray τ=⟨f,a.toArray++Array.replicate (fn.ntmps-a.length) undef,[.code body],[],.run,τ,none⟩:=by simp[Frame.enter,l,hb]
 rw[e];exact h Q k O _ [] τ (c::μ) b ⟨i,uH d _,n,trivial,trivial⟩ (PY L l g b o p)
def Ws:adQ->adQ->Prop
 |[],[]=>True
 |a::l,b::r=>a.W b/\Ws l r
 |_,_=>False
def Ws.vs{k}:∀{c l l'},Ws l l'->Vs k c l->Vs k c l'
 |[],[],[],_,_=>.nil
 |v::c,a::l,b::r,h,d=>.cons (h.1 k v (d.2 0 v a rfl rfl)) (Ws.vs h.2 ⟨by simpa using d.1,λi x y e f=>d.2 (i+1) x y (by simp_all) (by simp_all)⟩)
 |_,[],_::_,h,_=>h.elim
 |_,_::_,[],h,_=>h.elim
 |[],_::_,_,_,d=>by simp[Vs]at d
 |_::_,[],_,_,d=>by simp[Vs]at d
def cq.func{first cap args σ w}(x:P.funcs[f]?=some fn)(hb:fn.body.isSome=true)(o:(fn.name==  "runtime.NumGoroutine")=false)(h:aB P m f (first++args++cap) σ w):
 cq P m (.fn (.func f) first cap) args σ w:=λQ k O cf b fr cs p d y q r g s z=>by
 cases p with
 | fn _ j n C D E A F B=>
   refine dZ ?_;simp only[Deferred.ofValue];refine af (ag ?_);simp only[invoke,callFunc];refine af (bz ?_);rw[x];have t:fn.body.isNone=false:=by simp_all
   simp only[o,t,zs,zD];refine ag λ_=>⟨g,?_⟩
   have e:j++b.toArray++n=(j.toList++b++n.toList).toArray:=by simp
   rw[e];exact h Q k O (j.toList++b++n.toList) fr cs .normal (by simp) (Vs.append (Vs.append (c:=j.toList) (l:=first) ⟨by omega,λi v a s u=>A i v a (by simp_all) u⟩ d) (c':=n.toList) ⟨by omega,λi v a s u=>B i v a (by simp_all) u⟩) y s z
def cq.mono{g args σ i f}(h:cq P m g args σ i)(j:∀r σ,i r σ->f r σ):cq P m g args σ f:=λQ k O cf e fr cs l n o p q s t u=>h Q k O cf e fr cs l n o p q s (λ_ _ _ _ _ a b c d=>t _ _ _ _ _ a b c (j _ _ d)) (λ_ _ _ _ _ a b c d=>u _ _ _ _ _ a b c (j _ _ d))
def cq.weaken{b args args' σ c}(h:cq P m b args' σ c)(d:Ws args args'):cq P m b args σ c:=λQ k O cf a fr cs e f g i j l n o=>h Q k O cf a fr cs e (d.vs f) g i j l n o
end
section
variable{P:adT}{m:Mo}{ξ n:Nat}{ro:adD}{s:St}{K:adt}{k:adH}
def Go.call{ζ i μ o fo args z}(F:ζ[i]?=some o)(p:o.op=.call ⟨.value fo,args,z⟩)(M:bZ ζ n s.env o)(A:Oper.ok n o=true)
 (h:cq P m (ak s.env fo) (args.toList.map (ak s.env)) s.σ (λr σ'=>match r with
   |.val a=>Go P m ξ n ro (.inRegion ζ μ::k) {s with env:=bp s.env o.dst a,σ:=σ'} K
   |.panic v=>K (.panic v) {s with σ:=σ'})):
 Go P m ξ n ro (.inRegion ζ (i::μ)::k) s K:=λQ kk O η θ τ cs G f H=>by
 refine T.oy (λw=>ew F (iC f.size f.env M) (.inr λc e=>by simp_all) w) ?_
 have g:∀x∈o.op.operands,V kk (Frame.eval ⟨ξ,η,.inRegion ζ (i::μ)::k,θ,.run,τ,ro⟩ x) (ak s.env x):=λx I=>by
  refine V.eval f.env f.size x ?_;simp only[Oper.ok,wL,abn]at A
  simp_all
 have e:execOp (Frame.eval ⟨ξ,η,.inRegion ζ (i::μ)::k,θ,.run,τ,ro⟩) o=(do let d <-Deferred.ofValue (Frame.eval ⟨ξ,η,.inRegion ζ (i::μ)::k,θ,.run,τ,ro⟩ fo) ((args.toList.map (Frame.eval ⟨ξ,η,.inRegion ζ (i::μ)::k,θ,.run,τ,ro⟩)).toArray);invoke d.target d.args):=by
  have N:(args.toList.map (Frame.eval ⟨ξ,η,.inRegion ζ (i::μ)::k,θ,.run,τ,ro⟩)).toArray=args.map (Frame.eval ⟨ξ,η,.inRegion ζ (i::μ)::k,θ,.run,τ,ro⟩):=by grind
  rw[N];simp only[execOp,p,resolve]
 rw[e];refine h Q kk O _ _ _ _ (g fo (by simp[p,Op.operands,Call.operands])) ⟨by simp,λj v a u y=>?_⟩ f.rel rfl G (λd w r s l=>by simp) (λB C J L σ' b q D E=>?_) (λB C J L σ' b q D E=>?_)
 . simp only[abw]at u y
   cases I:args.toList[j]? with
   |none=>simp_all
   |some x=>rw[I]at u y;simp only[abx,kn]at u y;subst u;subst y;exact g x (by simp only[p,Op.operands,Call.operands];grind)
 . obtain⟨t,R,S⟩:=f.put (ξ:=ξ) (ro:=ro) (μ:=μ) (kk:=k) b F q D
   rw[R];exact E Q B C t θ τ cs G S (H.mono b)
 exact H.panic B C η θ {s with σ:=σ'} _ J L b ⟨f.size,f.env.mono b,D,f.ds.mono b,f.rc.mono b⟩ q E
def Go.defer{ζ i μ o fo args r f first cap}(t:ro=none)(B:ζ[i]?=some o)(e:o.op=.defer ⟨.value fo,args,r⟩)(E:bZ ζ n s.env o)(u:Oper.ok n o=true)
 (y:ak s.env fo=.fn f first cap) (h:Go P m ξ n ro (.inRegion ζ μ::k) {s with env:=bp s.env o.dst .cJ,D:=.call f cap (first++args.toList.map (ak s.env))::s.D} K):
 Go P m ξ n ro (.inRegion ζ (i::μ)::k) s K:=λQ kk O η θ τ cs F g H=>by
 refine T.oy (λw=>ew B (iC g.size g.env E) (.inl t) w) (dZ ?_)
 have c:∀x∈o.op.operands,V kk (Frame.eval ⟨ξ,η,.inRegion ζ (i::μ)::k,θ,.run,τ,ro⟩ x) (ak s.env x):=λx C=>by
  refine V.eval g.env g.size x ?_;simp only[Oper.ok,wL,abn]at u
  simp_all
 have z:=c fo (by simp[e,Op.operands,Call.operands]);rw[y]at z;generalize I:Frame.eval _ fo=cf at z;cases z with
 | fn _ q A R S U J W L=>
   simp only[execOp,e,resolve,I,Deferred.ofValue];refine af (ag (ag λ_=>?_));obtain⟨b,M,p⟩:=g.put (ξ:=ξ) (ro:=ro) (μ:=μ) (kk:=k) (v:=undef) (a:=.cJ) (.refl _) B (.cJ _) g.rel
   have N:Frame.finish ⟨ξ,η,.inRegion ζ (i::μ)::k,{target:=.fn f A,args:=q++args.map (Frame.eval ⟨ξ,η,.inRegion ζ (i::μ)::k,θ,.run,τ,ro⟩)}::θ,.run,τ,ro⟩ undef=
    ⟨ξ,b,.inRegion ζ μ::k,{target:=.fn f A,args:=q++args.map (Frame.eval ⟨ξ,η,.inRegion ζ (i::μ)::k,θ,.run,τ,ro⟩)}::θ,.run,τ,ro⟩:=by
    simp only[Frame.finish,Frame.mk.injEq]at M ⊢;omega
   show T P m Q kk O (G _ _);rw[N];refine h Q kk O b _ τ cs F ⟨p.size,p.env,p.rel,⟨⟨A,_,rfl,⟨by omega,λi v a l d=>L i v a (by simp_all) d⟩,?_⟩,p.ds⟩,p.rc⟩ H;have:(q++args.map (Frame.eval ⟨ξ,η,.inRegion ζ (i::μ)::k,θ,.run,τ,ro⟩)).toList=q.toList++args.toList.map (Frame.eval ⟨ξ,η,.inRegion ζ (i::μ)::k,θ,.run,τ,ro⟩):=by simp
   rw[this];refine Vs.append ⟨by omega,λi v a l d=>J i v a (by simp_all) d⟩ ⟨by simp,λj v a l d=>?_⟩;simp only[abw]at l d;cases C:args.toList[j]? with
   |none=>simp_all
   |some x=>rw[C]at l d;simp only[abx,kn]at l d;subst l;subst d;exact c x (by simp only[e,Op.operands,Call.operands];grind)
end
def nB (env:Env):List Tmp->adQ->Env
 | t :: b,a :: as=>nB (env.upd t a) b as
 | _,_=>env
def xO {k}:∀  b   vs   as   η   env ,Vs k vs as->gh k η env ->
 ((b.zip vs).foldl (fun η  x  => η.setIfInBounds x.1 x.2) η).size=η.size∧gh k ((b.zip vs).foldl (fun η  x  => η.setIfInBounds x.1 x.2) η) (nB env b as)
 | [],vs,as,η,env,_,d=>by cases as <;> exact⟨rfl,d⟩
 | t :: b,[],as,η,env,c,d=>by
   have:as=[]:=by have:=c.1;grind
   subst this;exact⟨rfl,d⟩
 | t :: b,v :: vs,[],η,env,c,d=>by simp[Vs] at c
 | t :: b,v :: vs,a :: as,η,env,c,d=>by
   have e:V k v a:=c.2 0 v a rfl rfl;have f:Vs k vs as:=⟨by simpa using c.1,fun i x y h j=>c.2 (i+1) x y (by simp_all) (by simp_all)⟩
   obtain⟨l,g⟩:=xO b vs as (η.setIfInBounds t v) (env.upd t a) f (d.upd e);exact⟨by simp_all,by simpa only [List.zip_cons_cons,abB,nB] using g⟩
section
variable{P:adT}{m:Mo}{ξ n:Nat}{s:St}{K:adt}{k:adH}
def mU{kk O Kp σ l a R}(c:Rel kk O σ)(d:σ l=some (.loop a))(e:∀η,η.size=a.n->gh kk η a.env->R ⟨a.state,a.pending,a.fn,η,a.params,a.assign,a.body,a.defers⟩ kk O):
 dT P (Instr.getLoop l) kk O R Kp:=by
 obtain⟨x,f,b⟩:=c.1 l _ d (by simp);cases b with
 |loop _ η g h=>unfold Instr.getLoop;exact af (s:=getObj l) ⟨_,f,rfl,ag (e η g h)⟩
def Go.rangeFunc{f params assign body}(hf:Operand.ok n f=true)
 (h:∀ r l,s.σ r=none->s.σ l=none->r≠l->cq P m (ak s.env f) [.fn (.yield l) [] []] ((s.σ.set r (.raw (.deferred (some [])))).set l (.loop ⟨.ready,none,ξ,n,s.env,params,assign,body,r⟩))
   (fun res σ'=>match res with
     |.val _=>∃a,σ' l=some (.loop a)/\a.state≠.busy/\Go P m ξ n none ((a.pending.map Item.code).toList++k) {s with σ:=σ'.del l,D:=.mark r::s.D} K
     |.panic v=>K (.panic v) {s with σ:=σ',D:=.mark r::s.D})):Go P m ξ n none (.code (.rangeFunc f params assign body)::k) s K:=
 λQ kk O η θ τ cs h1 g h3=>by
 refine .step (λt u x=>T P m Q t u x) rfl (λ_ _ _ h=>h) λw hw=>?_
 have z:dT P (Instr.enterLoop ξ η params assign body none) kk O (λx H J=>∃r l,x=(l,[{target:=.collected r,args:=#[]}])/\s.σ r=none/\s.σ l=none/\r≠l/\kk.Le H/\
  Rel H J ((s.σ.set r (.raw (.deferred (some [])))).set l (.loop ⟨.ready,none,ξ,n,s.env,params,assign,body,r⟩))) (λ_ _ _=>False):=by
  unfold Instr.enterLoop;refine af (af (s:=newObj _) ⟨rfl,λr hr=>ag (ag ?_)⟩)
  refine af (s:=newObj _) ⟨rfl,λl L=>ag (ag ⟨r,l,rfl,g.rel.isNone hr.1 hr.2.2,?_,?_,.refl _,?_⟩)⟩
  . have:=L.1
    by_cases e:l=r
    . subst e;simp[aj.set]at this
    simp only[aj.set,e,zD]at this;have A:=L.2.2;simp only[ar.made]at A;exact g.rel.isNone this A
  . intro e
    subst e;have:=L.1;simp[aj.set]at this
  exact(g.rel.set (.raw _ rfl)).set (.loop ⟨.ready,none,ξ,n,s.env,params,assign,body,r⟩ η g.size g.env)
 obtain⟨H,J,w1,l1,e1,s1,ad,c1⟩:=uE _ #[] z hw
 rcases c1 with⟨x,hx,r,l,rfl,B,C,M,c,E⟩|⟨_,_,hF⟩
 . have hv:=V.eval (fr:=⟨ξ,η,.inRangeFunc l::k,{target:=.collected r,args:=#[]}::θ,.run,τ,none⟩) (g.env.mono c) g.size f hf
   have y:=h r l B C M Q H J _ [.func (.yield l) #[] #[]] ⟨ξ,η,.inRangeFunc l::k,{target:=.collected r,args:=#[]}::θ,.run,τ,none⟩ (gJ s.rc cs) hv (.cons (.fn _ _ _ _ _ rfl (λi v a N=>by simp at N) rfl (λi v a N=>by simp at N)) .nil) E rfl h1 (λd w r s l=>by simp)
    (λt u cv av σ' b F p R=>?_) (λt u cv av σ' b F p R=>?_) w1 s1
   . obtain⟨g',w',es,t,u,a1,a2,a3,a4⟩:=y
     refine⟨g',w',seen P ξ ((Instr.enterLoop ξ η params assign body none).runT P w #[]).2++es,t,u,?_,?_,a3,a4⟩
     . simp only[G,stepG,stepG.exec]
       rw[show(Instr.enterLoop ξ η params assign body none).runT P w #[]=(((Instr.enterLoop ξ η params assign body none).runT P w #[]).1,((Instr.enterLoop ξ η params assign body none).runT P w #[]).2)from rfl,hx]
       simp only
       have S:stepG.apply P true ⟨ξ,η,.inRangeFunc l::k,[{target:=.collected r,args:=#[]}]++θ,.run,τ,none⟩ (gJ s.rc cs) none (do let d <-resolve (Frame.eval ⟨ξ,η,.inRangeFunc l::k,[{target:=.collected r,args:=#[]}]++θ,.run,τ,none⟩) {callee:=.value f,args:=#[.const (.func (.yield l) #[] #[])],argTypes:=#[]} 0;invoke d.target d.args) w1=.go g' w' es:=by rw[<-a1];simp[resolve,Frame.eval]
       rw[S];rfl
     refine(Eff.trans e1 a2).sub λe he=>?_
     rw[Array.toList_append]at he
     rcases KD.1 he with he|he
     . have:=xz (by simp_all:e∈seen P ξ ((Instr.enterLoop ξ η params assign body none).runT P w #[]).2)
       grind
     simp_all
   ·
    obtain⟨a,ha,hb,U⟩:=R
    have al:∀w,stepG P m.main (G ⟨ξ,η,.endRangeFunc l::k,{target:=.collected r,args:=#[]}::θ,.run,τ,none⟩ (gJ s.rc cs)) w=GStep.after (seen P ξ ((Instr.endLoop l).runT P w #[]).2) (match ((Instr.endLoop l).runT P w #[]).1 with
     |.ok q w=>.go (G ⟨ξ,η,(q.map Item.code).toList++k,{target:=.collected r,args:=#[]}::θ,.run,τ,none⟩ (gJ s.rc cs)) w
     |.halt (.panic v) w=>.go (G (Frame.raise ⟨ξ,η,.endRangeFunc l::k,{target:=.collected r,args:=#[]}::θ,.run,τ,none⟩ [{v,recovered:=false}]) (gJ s.rc cs)) w
     |.halt _ w=>.ended (.stuck  "range over a function: no such loop" (Frame.pos P ⟨ξ,η,.endRangeFunc l::k,{target:=.collected r,args:=#[]}::θ,.run,τ,none⟩)) w):=λw=>by
     simp only[G,stepG,stepG.exec];rfl
    show T P m Q t u (G ⟨ξ,η,.endRangeFunc l::k,{target:=.collected r,args:=#[]}::θ,.run,τ,none⟩ (gJ s.rc cs));refine T.DF (ξ:=ξ) (s:=Instr.endLoop l) rfl (K:=λj I W=>j=a.pending/\I=t/\Rel I W (σ'.del l)) (nxt:=λq w=>.go (G ⟨ξ,η,(q.map Item.code).toList++k,{target:=.collected r,args:=#[]}::θ,.run,τ,none⟩ (gJ s.rc cs)) w) ?_ ?_ ?_
    . rintro j I W w2 _ _ ⟨rfl,rfl,X⟩
      exact⟨_,rfl,U Q I W η ({target:=.collected r,args:=#[]}::θ) τ cs h1 ⟨g.size,g.env.mono (c.trans b),X,⟨rfl,g.ds.mono (c.trans b)⟩,g.rc.mono (c.trans b)⟩ (h3.mono (c.trans b))⟩
    . simp_all
    unfold Instr.endLoop;refine af (mU p ha λY _ _=>?_)
    have Z:(a.state==LoopState.busy)=false:=by simp_all
    simp only[Z,zs,zD];obtain⟨x,a7,a8⟩:=p.1 l _ ha (by simp)
    have a9:∃o,x=.obj o/\ji o=false:=by
     cases a8 with
     |loop _ _ _ _=>exact⟨_,rfl,rfl⟩
    obtain⟨o,rfl,ho⟩:=a9;refine af (s:=setObj l _) ⟨⟨o,a7,ho⟩,rfl,ag ⟨rfl,rfl,?_⟩⟩;exact p.drop l _
   exact h3.panic t u η ({target:=.collected r,args:=#[]}::θ) {s with σ:=σ',D:=.mark r::s.D} _ cv av (c.trans b) ⟨g.size,g.env.mono (c.trans b),p,⟨rfl,g.ds.mono (c.trans b)⟩,g.rc.mono (c.trans b)⟩ F R
 simp_all
def LQ(l:Nat)(c:adw):adt
 |.leave b,s=>s.D=[]/\s.rc=.no/\∃a,s.σ l=some (.loop a)/\c (.val (.lit (.bool b.isNone))) (s.σ.set l (.loop {a with state:=if b.isNone then .ready else .done,pending:=b}))
 |.panic v,s=>s.D=[]/\s.rc=.no/\c (.panic v) s.σ
def cq.yield{l args σ Y a fn}(hf:P.funcs[a.fn]?=some fn)(hl:σ l=some (.loop a))(hn:args.length=a.params.size)
 (h:Go P m a.fn a.n (some l) [.code a.assign,.beginRound,.code a.body] ⟨nB a.env a.params.toList args,σ,[],.no⟩ (LQ l Y)):cq P m (.fn (.yield l) [] []) args σ Y:=λQ Z O cf c fr cs z f hr A B C hv hp=>by
 cases z with
 | fn _ c1 c2 l1 l2 g1 g2 g3 g4=>
   have e1:c1=#[]:=by simp_all
   have e2:c2=#[]:=by simp_all
   subst e1 e2;refine dZ ?_;simp only[Deferred.ofValue];refine af (ag ?_);simp only[invoke,Instr.yield];refine af (mU hr hl λη hs he=>?_)
   have D:¬(#[]++c.toArray).size≠a.params.size:=by simp;rw[f.1,hn]
   simp only[zA D];refine ag λ_=>?_
   obtain⟨q1,q2⟩:=xO a.params.toList c args η a.env f he
   have E:(a.params.zip (#[]++c.toArray)).foldl (λη (x:Tmp × Value)=>match x with|(t,a)=>η.setIfInBounds t a) η=(a.params.toList.zip c).foldl (λη (x:Tmp × Value)=>η.setIfInBounds x.1 x.2) η:=by rw[<-Array.foldl_toList];simp_all
   show T P m Q Z O (G (Frame.round l a.fn _ a.assign a.body .normal) (fr::cs));rw[E];refine h Q Z O _ [] .normal (fr::cs) (by simp) ⟨by rw[q1,hs],q2,hr,trivial,trivial⟩ ⟨λu F d θ s' todo b i e H I=>?_,λu F d θ s' todo J av i e L I=>?_⟩
   . obtain⟨hD,j,a',q,k⟩:=I
     rw[j];show T P m Q u F (G ⟨a.fn,d,todo,θ,.run,.normal,some l⟩ (fr::cs))
     refine T.DF (ξ:=a.fn) (s:=Instr.endRound l b) rfl (K:=λv y M=>v=.bool b.isNone/\y=u/\Rel y M (s'.σ.set l (.loop {a' with state:=if b.isNone then .ready else .done,pending:=b})))
      (nxt:=λv w=>.go (G (fr.finish v) cs) w) ?_ ?_ ?_
     . rintro v y M w2 _ _ ⟨rfl,rfl,N⟩
       exact⟨_,rfl,hv y M _ _ _ i (.lit _) N k⟩
     . intro w v w' g
       rcases H with⟨rfl,rfl⟩|⟨R,rfl,rfl⟩|⟨id,R,rfl,hex,rfl⟩
       . simp only[G,stepG,stepG.exec]
         rw[show(Instr.endRound l none).runT P w #[]=(((Instr.endRound l none).runT P w #[]).1,((Instr.endRound l none).runT P w #[]).2)from rfl,g]
         rfl
       . simp only[G,stepG,stepG.exec]
         rw[show(Instr.endRound l (some .ret)).runT P w #[]=(((Instr.endRound l (some .ret)).runT P w #[]).1,((Instr.endRound l (some .ret)).runT P w #[]).2)from rfl,g]
         rfl
       simp only[G,stepG,stepG.exec,hex,Option.elim];rw[show(Instr.endRound l (some (.exit id))).runT P w #[]=(((Instr.endRound l (some (.exit id))).runT P w #[]).1,((Instr.endRound l (some (.exit id))).runT P w #[]).2)from rfl,g]
       rfl
     unfold Instr.endRound;refine af (mU e.rel q λp S U=>?_)
     obtain⟨x,V,W⟩:=e.rel.1 l _ q (by simp)
     have X:∃o,x=.obj o/\ji o=false:=by
      cases W with
      |loop _ _ _ _=>exact⟨_,rfl,rfl⟩
     obtain⟨o,rfl,ho⟩:=X;exact af (s:=setObj l _) ⟨⟨o,V,ho⟩,rfl,ag ⟨rfl,rfl,e.rel.set (.loop {a' with state:=if b.isNone then .ready else .done,pending:=b} p S U)⟩⟩
   obtain⟨hD,j,k⟩:=I;rw[j]
   have hd:θ=[]:=by
    have:=e.ds;rw[hD]at this;cases θ with
    |nil=>rfl
    |cons _ _=>exact this.elim
   subst hd;refine T.dA (g':=G (fr.raise [⟨J,false,false⟩]) cs) rfl (λw=>?_) (hp u F J av _ i L e.rel k)
   have r:Frame.catches P ⟨a.fn,d,todo,[],.panicking [⟨J,false,false⟩],.normal,some l⟩=false:=by simp[Frame.catches,hf]
   simp only[G,stepG,unwind,r,gJ];rfl
def Go.beginRound{l a}(j:s.σ l=some (.loop a))(p:a.state=.ready)(h:Go P m ξ n (some l) k {s with σ:=s.σ.set l (.loop {a with state:=.busy})} K):Go P m ξ n (some l) (.beginRound::k) s K:=
 λQ q O η θ τ cs r b t=>by
 refine T.oy (s:=(do (Option.elim (some l) (stuck  "beginRound: no round") Instr.beginRound);pure .skip)) (λw=>by simp only[G,stepG,stepG.exec]) (dZ ?_)
 simp only[Option.elim];refine af ?_;unfold Instr.beginRound;refine af (mU b.rel j λc d e=>?_);obtain⟨x,f,g⟩:=b.rel.1 l _ j (by simp)
 have i:∃o,x=.obj o/\ji o=false:=by
  cases g with
  |loop _ _ _ _=>exact⟨_,rfl,rfl⟩
 obtain⟨o,rfl,u⟩:=i;refine af (s:=setObj l _) ⟨⟨o,f,u⟩,rfl,?_⟩;simp only[p];refine ag (ag (ag λ_=>?_));exact h Q q _ η θ τ cs r ⟨b.size,b.env,b.rel.set (.loop {a with state:=.busy} c d e),b.ds,b.rc⟩ t
def hQ{α}{g:adT->Sem α}{w es}:(program >>=g).runT P w es=(g P).runT P w es:=rfl
def rJ.func{f fn cap args l σ B}(D:P.funcs[f]?=some fn)(hb:fn.body.isSome=true)(q:(fn.name==  "runtime.NumGoroutine")=false)
 (h:aB P m f (args++cap) σ (λr σ'=>match r with|.val _=>B l σ'|.panic _=>False)):rJ P m (.func f) cap args l σ B:=λQ k O fr cs i j s a t u E F=>by
 refine .step (λn o x=>T P m Q n o x) rfl (λ_ _ _ h=>h) λw H=>?_
 have y:fn.body.isNone=false:=by simp_all
 have hinv:(invoke (.fn (.func f) i.toArray) j.toArray).runT P w #[]=(.ok (.enter f (j++i).toArray) w,#[]):=by show Sem.runT P (callFunc f (j.toArray++i.toArray)) w #[]=_;unfold callFunc;rw[hQ,D];simp only[q,y,zs,zD];simp
 have b:∀C,stepG P m.main (G {fr with defers:={target:=.fn (.func f) i.toArray,args:=j.toArray}::fr.defers} cs) w=.go (G (Frame.enter P f (j++i).toArray .deferred) (fr::cs)) w #[]\/C:=λC=>by
  left;have M:fr.mode≠.run:=λe=>by rw[e]at a;cases l<;>exact a.elim
  obtain⟨I,η,todo,θ,mode,τ,ro⟩:=fr;cases mode with
  |run=>simp_all
  |_=>simp only[G,stepG,unwind,callDeferred,hinv];simp;rfl
 refine⟨_,w,#[],k,O,(b False).resolve_right (λx=>x),.refl ..,H,?_⟩
 refine h Q k O (j++i) fr cs .deferred (by simp) (u.append t) E (λn o J K σ' c z p d=>?_) (λn o J K σ' c z p d=>d.elim)
 have g:lK fr=fr:=by
  unfold lK;cases A:fr.mode with
  | panicking ch=>
    rw[A]at a;cases l with
    |ret=>exact a.elim
    |Sr v=>obtain⟨L,rfl,_⟩:=a;rfl
  |_=>rfl
 show T P m Q n o (G (lK fr) cs);rw[g];have:=F n o l σ' fr.mode c (a.mono c) p d;omega
end
def fits(n:Int):Prop:=-9223372036854775808<=n/\n<=9223372036854775807
def se(op:BinOp)(kd:IntKind)(a b:Int)(R:Value->Prop):Prop:=
 match op,kd with
 |.add,.i64=>fits (a+b)/\R (.int .i64 (a+b))
 |.sub,.i64=>fits (a-b)/\R (.int .i64 (a-b))
 |.mul,.i64=>fits (a*b)/\R (.int .i64 (a*b))
 |.eql,_=>R (.bool (a==b))
 |.neq,_=>R (.bool (a !=b))
 |.lss,_=>R (.bool (decide (a<b)))
 |.leq,_=>R (.bool (decide (a<=b)))
 |.gtr,_=>R (.bool (decide (a>b)))
 |.geq,_=>R (.bool (decide (a>=b)))
 |.shl,_=>0<=b/\R (.int kd (kd.wrap (a*2 ^ (min b.toNat kd.bits))))
 |.shr,_=>0<=b/\R (.int kd (a.fdiv (2 ^ (min b.toNat kd.bits))))
 |op,kd=>∃v,pM op kd a b=some v/\R v
section
variable{P:adT}(L:jJ P)
def sW(o:Oper):Bool:=
 match o.op with
 |.move _|.assign _|.pick _ _ _|.alloc _|.box _ _|.load _ _|.store _ _ _|.makeInterface _ _|.makeFunc _ _ _|.extract _ _|.field _ _ _|.fieldAddr _ _ _|.nilCheck _|.panic _|.unOp .not _ _|.build _ _=>true
 |.indexAddr t _ _=>match L.tt t with|some ⟨.slice _,_,_,_,_⟩=>true|some ⟨.array _ _,_,_,_,_⟩=>true|_=>false
 |.index t _ _=>match L.tt t with|some ⟨.array _ _,_,_,_,_⟩=>true|_=>false
 |.binOp _ t _ _ _=>match L.tt t with|some ⟨.int _,_,_,_,_⟩=>true|_=>false
 |.convert s t _=>match L.tt s,L.tt t with|some ⟨.int _,_,_,_,_⟩,some ⟨.int _,_,_,_,_⟩=>true|_,_=>false
 |.typeAssert _ _ t true=>match L.tt t with|some ⟨.iface,_,_,_,_⟩=>false|some _=>true|none=>false
 | .call c=>match c.callee,c.args.toList with
   |.builtin .len,[_]=>(match c.argTypes[0]? with|some t=>(match L.tt t with|some ⟨.slice _,_,_,_,_⟩=>true|_=>false)|none=>false)
   |.builtin .min,[_,_]=>true
   |.builtin .max,[_,_]=>true
   |_,_=>false
 |_=>false
def UT(mu:adL)(o:Oper)(env:Env)(σ:ab)(K Kp:adv):Prop:=
 match o.op with
 |.move x|.assign x=>K (ak env x) σ
 | .pick c a b=>match ak env c with
   |.lit (.bool x)=>K (if x then ak env a else ak env b) σ
   |_=>False
 | .alloc t=>match L.tt t with
   |some i=>(lY i.zero).cells.all AV.flat=true/\∀b,σ b=none->K (.ref b 0) (σ.set b (.cells (lY i.zero).cells))
   |none=>False
 |.box _ x=>(ak env x).cells.all AV.flat=true/\(if(match o.dst with|some d=>mu.contains d|none=>false)then ∀b,σ b=none->K (.ref b 0) (σ.set b (.cells (ak env x).cells))else K (.cp (ak env x) 0) σ)
 | .load t p=>match L.tt t with
   |some i=>∃a,rH i σ (ak env p)=some a/\K a σ
   |none=>False
 | .store t p x=>match L.tt t with
   |some i=>∃m,sc i σ (ak env p) (ak env x)=some m/\K (.lit undef) m
   |none=>False
 | .fieldAddr s x j=>match L.tt s with
   | some ⟨.struct,_,_,_,kj⟩=>(match kj[j]? with
     |some f=>f.2.1≠0/\∃a,sQ (ak env x) f.1=some a/\K a σ
     |none=>False)
   |_=>False
 | .field s x j=>match L.tt s,ak env x with
   | some ⟨.struct,_,_,_,kj⟩,.agg l=>(match kj[j]? with
     |some f=>(match L.tt f.2.2 with|some q=>∃a,cW l f.1 q.size q.agg=some a/\K a σ|none=>False)
     |none=>False)
   |_,_=>False
 | .indexAddr t x n=>match L.tt t with
   | some ⟨.slice e,_,_,_,_⟩=>(match L.tt e,ak env x,ak env n with
     |some h,.sl r es _,.lit (.int _ z)=>r=h.size/\0<=z/\∃a,es[z.toNat]?=some a/\K (.cp a 0) σ
     |some h,.fN b off len _,.lit (.int _ z)=>(0<=z/\z<len)/\K (.ref b (off+z.toNat*h.size)) σ
     |_,_,_=>False)
   | some ⟨.array k e,_,_,_,_⟩=>(match L.tt e,ak env n with
     |some h,.lit (.int _ z)=>(0<=z/\z<k)/\∃a,sQ (ak env x) (z.toNat*h.size)=some a/\K a σ
     |_,_=>False)
   |_=>False
 | .index t x n=>match L.tt t with
   | some ⟨.array k e,_,_,_,_⟩=>(match L.tt e,ak env x,ak env n with
     |some h,.agg l,.lit (.int _ z)=>(0<=z/\z<k)/\∃a,cW l (z.toNat*h.size) h.size h.agg=some a/\K a σ
     |_,_,_=>False)
   |_=>False
 | .binOp op _ x y _=>match ak env x,ak env y with
   |.lit (.int kd a),.lit (.int g b)=>(kd=g\/op=.shl\/op=.shr)/\se op kd a b λv=>K (.lit v) σ
   |_,_=>False
 | .unOp .not _ x=>match ak env x with
   |.lit (.bool b)=>K (.lit (.bool !b)) σ
   |_=>False
 | .convert _ t x=>match L.tt t,ak env x with
   |some ⟨.int kd,_,_,_,_⟩,.lit (.int _ a)=>K (.lit (.int kd (kd.wrap a))) σ
   |_,_=>False
 | .makeInterface t x=>match L.tt t with
   |some i=>i.kind≠.iface/\K (.mL t (ak env x)) σ
   |none=>False
 |.makeFunc f fs cs=>K (.fn f (fs.toList.map (ak env)) (cs.toList.map (ak env))) σ
 | .extract x j=>match ak env x with
   |.cH l=>∃a,l[j]?=some a/\K a σ
   |_=>False
 | .typeAssert x _ t true=>match L.tt t,ak env x with
   |some i,.mL d y=>i.kind≠.iface/\K (if d=t then .cH [y,.lit (.bool true)]else .cH [lY i.zero,.lit (.bool false)]) σ
   |_,_=>False
 |.nilCheck x=>(match ak env x with|.cp _ _=>True|.ref _ _=>True|.kp _ _ _ _=>True|.fn (.func _) _ _=>True|_=>False)/\K (ak env x) σ
 | .panic x=>match ak env x with
   |.mL t y=>Kp (.mL t y) σ
   |_=>False
 | .build t parts=>match L.tt t with
   |some i=>i.kind=.struct/\(lY i.zero).cells.all AV.flat=true/\∃l,lx (λj=>(i.kj[j]?).map λx=>(x.1,x.2.1)) (lY i.zero).cells (parts.toList.map λp=>(p.1,ak env p.2))=some l/\K (.agg l) σ
   |none=>False
 | .call c=>match c.callee,c.args.toList with
   | .builtin .len,[x]=>(match ak env x with
     |.sl _ es _=>K (.lit (.int .i64 es.length)) σ
     |.lit (.slice none 0 0)=>K (.lit (.int .i64 0)) σ
     |.fN _ _ len _=>K (.lit (.int .i64 len)) σ
     |_=>False)
   | .builtin .min,[x,y]=>(match ak env x,ak env y with
     |.lit (.int kd a),.lit (.int g b)=>kd=g/\K (.lit (.int kd (if b<a then b else a))) σ
     |_,_=>False)
   | .builtin .max,[x,y]=>(match ak env x,ak env y with
     |.lit (.int kd a),.lit (.int g b)=>kd=g/\K (.lit (.int kd (if b>a then b else a))) σ
     |_,_=>False)
   |_,_=>False
 |_=>False
def aJ.mono{P o env σ K d Kp}(h:aJ P o env σ K Kp)(e:∀a σ,K a σ->d a σ):aJ P o env σ d Kp:=λk O f i j=>jL _ (h k O f i j) (λ_ _ _ ⟨v,l,m,n,g,b,a,c,x,y,z⟩=>⟨v,l,m,n,g,b,a,c,x,y,e _ _ z⟩) (λ_ _ _ h=>h)
def lL{c:Call}{b l}(a:c.callee=.builtin b)(d:c.args.toList=l):c=⟨.builtin b,l.toArray,c.argTypes⟩:=by obtain⟨ce,args,e⟩:=c;simp only at a d;subst a;subst d;simp
def Jc{mu o env σ K Kp}(C:sW L o=true)(h:UT L mu o env σ K Kp):aJ P o env σ K Kp:=by
 unfold UT at h;unfold sW at C;split at h
 . next x g=>exact wU (.inl g) h
 . next x g=>exact wU (.inr g) h
 . next c a b g=>
   split at h
   . next x m=>exact HS g m h
   exact h.elim
 . next t g=>
   split at h
   . next i B=>exact Dt L g B h.1 h.2
   exact h.elim
 . next t x g=>
   obtain⟨A,u⟩:=h;generalize (match o.dst with|some d=>mu.contains d|none=>false)=q at u;cases q
   . simp only[zs,zD]at u
     exact LL g A u
   simp only[Rp]at u;exact xD g A u
 . next t p g=>
   split at h
   . next i B=>obtain⟨a,A,u⟩:=h;exact BX L g B A u
   exact h.elim
 . next t p x g=>
   split at h
   . next i B=>obtain⟨a,A,u⟩:=h;exact Ds L g B A u
   exact h.elim
 . next s x j g=>
   split at h
   . next H I J kj B=>
     split at h
     . next f S=>obtain⟨A,a,u,Q⟩:=h;exact sR L g B rfl S A u Q
     exact h.elim
   exact h.elim
 . next s x j g=>
   split at h
   . next H I J kj l B m=>
     split at h
     . next f S=>
       split at h
       . next fi T=>obtain⟨a,A,u⟩:=h;exact Du L g B rfl S T m A u
       exact h.elim
     exact h.elim
   exact h.elim
 . next t x X g=>
   split at h
   . next e H I J R B=>
     split at h
     . next U kk es sp kd z G m D=>obtain⟨rfl,E,a,A,u⟩:=h;exact xH L g B rfl G m D E A u
     . next U b off len cap kd z G m D=>exact vF L g B rfl G m D h.1 h.2
     exact h.elim
   . next k e H I J R B=>
     split at h
     . next U kd z G D=>obtain⟨E,a,A,u⟩:=h;exact vE L g B rfl G D E A u
     exact h.elim
   exact h.elim
 . next t x X g=>
   split at h
   . next k e H I J R B=>
     split at h
     . next U l kd z G m D=>obtain⟨E,a,A,u⟩:=h;exact Dv L g B rfl G m D E A u
     exact h.elim
   exact h.elim
 . next op t x y t2 g=>
   split at h
   . next kd a F b m w=>
     obtain⟨Y,h⟩:=h;have n:(op≠.shl/\op≠.shr)->F=kd:=λhh=>by simp_all
     unfold se at h;split at h
     . rw[n (by simp)]at w;exact nN g m w (.inl ⟨rfl,rfl⟩) h.1 h.2
     . rw[n (by simp)]at w;exact nN g m w (.inr (.inl ⟨rfl,rfl⟩)) h.1 h.2
     . rw[n (by simp)]at w;exact nN g m w (.inr (.inr ⟨rfl,rfl⟩)) h.1 h.2
     . rw[n (by simp)]at w;exact dp g m w rfl h
     . rw[n (by simp)]at w;exact dp g m w rfl h
     . rw[n (by simp)]at w;exact dp g m w rfl h
     . rw[n (by simp)]at w;exact dp g m w rfl h
     . rw[n (by simp)]at w;exact dp g m w rfl h
     . rw[n (by simp)]at w;exact dp g m w rfl h
     . exact sS g m w h.1 (.inl ⟨rfl,rfl⟩) h.2
     . exact sS g m w h.1 (.inr ⟨rfl,rfl⟩) h.2
     next A u Q W h5 h6 h7 h8 h9 Z a7=>
     obtain⟨v,hv,hK⟩:=h;rw[n ⟨λe=>by simp_all,λe=>by simp_all⟩]at w;exact dp g m w hv hK
   exact h.elim
 . next t x g=>
   split at h
   . next b m=>exact LO g m h
   exact h.elim
 . next s t x g=>
   simp only[g]at C;split at h
   . next kd H I J R F a M m=>
     split at C
     . next ks b1 b2 b3 b4 kt c1 c2 c3 c4 hs V=>rw[M]at V;exact xI L g hs M rfl rfl m h
     cases C
   exact h.elim
 . next t x g=>
   split at h
   . next i B=>exact nO L g B h.1 h.2
   exact h.elim
 . next f fs cs g=>exact vG g h
 . next x j g=>
   split at h
   . next l m=>obtain⟨a,A,u⟩:=h;exact xJ g m A u
   exact h.elim
 . next x xt t g=>
   split at h
   . next i d y B m=>exact rI L g B h.1 m h.2
   exact h.elim
 . next x g=>
   obtain⟨A,u⟩:=h;split at A
   . next v off m=>exact fY g (.inl ⟨_,_,m⟩) u
   . next b off m=>exact fY g (.inr (.inl ⟨_,_,m⟩)) u
   . next b l hole off m=>exact fY g (.inr (.inr (.inr ⟨_,_,_,_,m⟩))) u
   . next f l r m=>exact fY g (.inr (.inr (.inl ⟨_,_,_,m⟩))) u
   exact A.elim
 . next x g=>
   split at h
   . next t y m=>exact Dw g m h
   exact h.elim
 . next t parts g=>
   split at h
   . next i B=>obtain⟨A,u,l,Q,W⟩:=h;exact Dy L g B A u Q W
   exact h.elim
 . next c g=>
   simp only[g]at C;split at h
   . next x N O=>
     simp only[N,O]at C;have e:=lL N O;split at C
     . next t E=>
       split at C
       . next e' H I J R M=>
         rw[e]at g;split at h
         . next kk es sp m=>exact BY L g E M rfl (.inl m) h
         . next m=>exact BY L (kk:=0) (sp:=.any) (es:=[]) g E M rfl (.inr ⟨m,rfl⟩) h
         . next b off len cap m=>exact AF L g E M rfl m h
         grind
       cases C
     cases C
   . next x y N O=>
     rw[lL N O]at g;split at h
     . next kd a F b m w=>obtain⟨rfl,h⟩:=h;exact qP g m w (.inl ⟨rfl,rfl⟩) h
     exact h.elim
   . next x y N O=>
     rw[lL N O]at g;split at h
     . next kd a F b m w=>obtain⟨rfl,h⟩:=h;exact qP g m w (.inr ⟨rfl,rfl⟩) h
     exact h.elim
   exact h.elim
 exact h.elim
def sf(ζ:adC)(n:Nat)(env:Env)(o:Oper)(go no:Prop):Prop:=
 match o.guard with
 |none=>go
 | some (j,b)=>match (ζ[j]?).bind (·.dst)with
   | some d=>d<n/\(match env d with
     |.lit (.bool x)=>(x=b->go)/\(x≠b->no)
     |.lit (.tuple _)=>no
     |_=>False)
   |none=>False
def sX{ζ n env o go no}(h:sf ζ n env o go no):
 (bZ ζ n env o/\go)\/∃j b x d c,o.guard=some (j,b)/\ζ[j]?=some c/\c.dst=some d/\d<n/\env d=.lit x/\US x b/\no:=by
 unfold sf at h;split at h
 . next g=>exact .inl ⟨by unfold bZ;simp_all,h⟩
 next j b g=>
 split at h
 . next d hd=>
   obtain⟨c,k,e⟩:=acE.1 hd;obtain⟨f,h⟩:=h;split at h
   . next x i=>
     by_cases a:x=b
     . exact .inl ⟨by unfold bZ;simp_all,h.1 a⟩
     exact .inr ⟨j,b,_,d,c,g,k,e,f,i,a,h.2 a⟩
   . next x i=>exact .inr ⟨j,b,_,d,c,g,k,e,f,i,trivial,h⟩
   simp_all
 simp_all
end
@[simp] theorem AV.TU  v :(AV.lit v).cells=[AV.lit v]:=rfl
@[simp] theorem AV.flat_lit  v :(AV.lit v).flat=ck.flat v:=rfl
@[simp] theorem AV.Ss :(AV.cJ).cells=[AV.cJ]:=rfl
@[simp] theorem AV.TV :(AV.cJ).flat=false:=rfl
@[simp] theorem AV.TW  l :(AV.agg l).cells=l:=rfl
@[simp] theorem AV.flat_agg  l :(AV.agg l).flat=false:=rfl
@[simp] theorem AV.TX  l :(AV.cH l).cells=[AV.cH l]:=rfl
@[simp] theorem AV.UU  l :(AV.cH l).flat=false:=rfl
@[simp] theorem AV.UW  k   es   sp :(AV.sl k es sp).cells=[AV.sl k es sp]:=rfl
@[simp] theorem AV.Xj  k   es   sp :(AV.sl k es sp).flat=true:=rfl
@[simp] theorem AV.UX  v   off :(AV.cp v off).cells=[AV.cp v off]:=rfl
@[simp] theorem AV.UY  b   l   hole   off :(AV.kp b l hole off).cells=[AV.kp b l hole off]:=rfl
@[simp] theorem AV.Xk  b   l   hole   off :(AV.kp b l hole off).flat=true:=rfl
@[simp] theorem AV.Xl  v   off :(AV.cp v off).flat=true:=rfl
@[simp] theorem AV.TY  b off :(AV.ref b off).cells=[AV.ref b off]:=rfl
@[simp] theorem AV.UZ  b off :(AV.ref b off).flat=true:=rfl
@[simp] theorem AV.TZ  b off len cap :(AV.fN b off len cap).cells=[AV.fN b off len cap]:=rfl
@[simp] theorem AV.U1  b off len cap :(AV.fN b off len cap).flat=true:=rfl
@[simp] theorem AV.U2  f   x y :(AV.fn f x y).cells=[AV.fn f x y]:=rfl
@[simp] theorem AV.Xm  f   x y :(AV.fn f x y).flat=true:=rfl
@[simp] theorem AV.T2  t   v :(AV.mL t v).cells=[AV.mL t v]:=rfl
@[simp] theorem AV.U3  t   v :(AV.mL t v).flat=true:=rfl
@[simp] theorem AV.T3  b :(AV.map b).cells=[AV.map b]:=rfl
@[simp] theorem AV.U4  b :(AV.map b).flat=true:=rfl
@[simp] theorem AV.Su  b :(AV.chan b).cells=[AV.chan b]:=rfl
@[simp] theorem AV.T4  b :(AV.chan b).flat=true:=rfl
attribute [simp] dG ak sf sW UT List.range List.range.loop Oper.ok Operand.ok Op.operands Call.operands se bp Env.upd TS Ly fy Dz oneOf exitTo rH sc sQ cW flat TI.agg lY lx fits

/- Part 5 of the proof. -/
import Derived.Laws.Sem
import Derived.Test.YtalogdafegmilaaGreatDoorC4
set_option linter.all false
namespace Go.aN
open Go.Conc
theorem wO(off:Nat):∀(l:List Value) (s:Nat) (c:Array Value),off+s+l.length<=c.size ->
 ((l.zipIdx s).foldl (λcs (x:Value × Nat)=>cs.setIfInBounds (off+x.2) x.1) c).size=c.size/\
 ∀j:Nat,((l.zipIdx s).foldl (λcs (x:Value × Nat)=>cs.setIfInBounds (off+x.2) x.1) c)[j]?=if off+s<=j/\j<off+s+l.length then l[j-(off+s)]? else c[j]?
 | [],s,c,_=>⟨rfl,λj=>by
   have:¬(off+s<=j/\j<off+s+([]:List Value).length):=by simp
   rw[if_neg this];rfl⟩
 | v ::l,s,c,h=>by
   simp only[List.length_cons]at h;obtain⟨h1,h2⟩:=wO off l (s+1) (c.setIfInBounds (off+s) v) (by simp;omega);simp only[List.zipIdx_cons,List.foldl_cons];refine⟨by rw[h1];simp,λj=>?_⟩;rw[h2 j];by_cases hj:j=off+s
   . subst hj
     have hlt:off+s<c.size:=by omega
     rw[if_neg (by omega),if_pos (by simp)];simp[hlt]
   . rw[Array.getElem?_setIfInBounds_ne (Ne.symm hj)]
     by_cases hk:off+(s+1)<=j/\j<off+(s+1)+l.length
     . rw[if_pos hk,if_pos (by simp;omega),show j-(off+s)=(j-(off+(s+1)))+1 by omega,List.getElem?_cons_succ]
     . rw[if_neg hk,if_neg (by simp;omega)]
def me(place:Nat->Option (Nat × Nat))(l:List AV):List (Nat × AV)->Option (List AV)
 |[]=>some l
 | (i,a)::rest=>match place i with
   |none=>none
   |some (off,size)=>if a.cells.length=size/\off+size<=l.length/\a.cells.all AV.flat=true then me place (aS l off a.cells) rest else none
def qB(k:ag)(c:Array Value)(l:List AV):Prop:=c.size=l.length/\(∀(i:Nat) v a,c[i]?=some v->l[i]?=some a->V k v a)/\∀(i:Nat) v,c[i]?=some v->aN.flat v=true
theorem yg{k:ag}{place:Nat->Option (Nat × Nat)}:∀(ps:List (Nat × Value)) (qs:List (Nat × AV)) (c:Array Value) (l l':List AV),ps.length=qs.length->(∀(i:Nat) p q,ps[i]?=some p->qs[i]?=some q->p.1=q.1/\V k p.2 q.2) ->
 qB k c l->me place l qs=some l'->∃c',Instr.fill place c ps=some c'/\qB k c' l'
 |[],[],c,l,l',_,_,hc,h=>by simp only[me,Option.some.injEq]at h;subst h;exact⟨c,rfl,hc⟩
 | (i, v) :: ps,(i',a)::qs,c,l,l',hl,hv,hc,h=>by
   obtain⟨he,hva⟩:=hv 0 (i,v) (i',a) rfl rfl;simp only at he hva;subst he;unfold me at h;unfold Instr.fill;cases hp:place i with
   |none=>rw[hp]at h;cases h
   | some os=>
     obtain⟨off,size⟩:=os;rw[hp]at h;simp only at h ⊢;split at h
     . next hcond=>
       obtain⟨h1,h2,h3⟩:=hcond;obtain⟨q1,q2,q3⟩:=hva.cells h3;have hsz:off+v.cells.size<=c.size:=by rw[q1,h1,hc.1];exact h2
       have hneg:¬((decide (v.cells.size≠size)||decide (off+v.cells.size>c.size))=true):=by simp;exact⟨by rw[q1,h1],by omega⟩
       rw[if_neg hneg];have hfold:=wO off v.cells.toList 0 c (by simpa using hsz)
       have hconv:(v.cells.zipIdx.foldl (λcs (x:Value × Nat)=>match x with|(c,j)=>cs.setIfInBounds (off+j) c) c)=((v.cells.toList.zipIdx 0).foldl (λcs (x:Value × Nat)=>cs.setIfInBounds (off+x.2) x.1) c):=by rw[<-Array.foldl_toList,Array.toList_zipIdx]
       rw[hconv];refine yg ps qs _ (aS l off a.cells) l' (by simpa using hl) (λj p q hp hq=>hv (j+1) p q (by simpa using hp) (by simpa using hq)) ⟨?_,?_,?_⟩ h
       . rw[hfold.1,lN (by omega)];exact hc.1
       . intro j u x hu hx
         rw[hfold.2]at hu;rw[um (by omega)]at hx
         simp only[Nat.add_zero,Array.length_toList,q1]at hu
         by_cases hj:off<=j/\j<off+a.cells.length
         . rw[if_pos hj]at hu hx
           exact q2 _ u x (by simpa using hu) hx
         . rw[if_neg hj]at hu hx
           exact hc.2.1 j u x hu hx
       . intro j u hu
         rw[hfold.2]at hu;split at hu
         . exact q3 _ u (by simpa using hu)
         . exact hc.2.2 j u hu
     . cases h
 |[],_::_,_,_,_,hl,_,_,_=>by simp at hl
 |_::_,[],_,_,_,hl,_,_,_=>by simp at hl
theorem wP{k:ag}{ρ:Operand->Value}{env:Env}{parts:Array (Nat × Operand)}(h:∀p∈parts,V k (ρ p.2) (ap env p.2)):
 (parts.map λ(i,x)=>(i,ρ x)).toList.length=(parts.toList.map λp=>(p.1,ap env p.2)).length/\
 ∀(i:Nat) p q,(parts.map λ(i,x)=>(i,ρ x)).toList[i]?=some p->(parts.toList.map λp=>(p.1,ap env p.2))[i]?=some q->p.1=q.1/\V k p.2 q.2:=by
 refine⟨by simp,λi p q hp hq=>?_⟩;simp only[Array.getElem?_toList,Array.getElem?_map,List.getElem?_map]at hp hq;cases hx:parts[i]? with
 |none=>rw[hx]at hp;cases hp
 |some x=>rw[hx]at hp hq;simp at hp hq;subst hp;subst hq;exact⟨rfl,h x (Array.mem_of_getElem? hx)⟩
section
variable{P:Program}(L:iE P){o:Oper}{env:Env}{σ:aa}{K:AV->aa->Prop}{Kp:AV->aa->Prop}
theorem uu{k:ag}{O:ah}{Kp:Value->ag->ah->Prop}:∀(fs:List Field) (ps:List (Nat × Nat × Nat)) (K:List (Nat × Nat)->ag->ah->Prop),
 (fs.map λf=>(f.offset,(P.info? f.type).map (·.size),f.type))=(ps.map λx=>(x.1,some x.2.1,x.2.2))->K (ps.map λx=>(x.1,x.2.1)) k O ->
 eE P (fs.mapM λf=>(do pure (f.offset,<-sizeOf f.type):Sem (Nat × Nat))) k O K Kp
 |[],[],K,_,hK=>aj hK
 |f::fs,x::ps,K,h,hK=>by simp only[List.map_cons,List.cons.injEq,Prod.mk.injEq]at h;obtain⟨⟨h1,h2,_⟩,h4⟩:=h;obtain⟨info,hi,hs⟩:=Option.map_eq_some_iff.1 h2;rw[List.mapM_cons];refine af (af (sL hi (aj ?_)));refine af (uu fs ps _ h4 (aj ?_));rw[h1,hs];exact hK
 |[],_::_,_,h,_=>by simp at h
 |_::_,[],_,h,_=>by simp at h
theorem qC{i:TI}{d:TypeDesc}(h:di P i d=true)(hk:i.kind=.struct):∃fs,d=.struct fs/\(fs.toList.map λf=>(f.offset,(P.info? f.type).map (·.size),f.type))=(i.iK.map λx=>(x.1,some x.2.1,x.2.2)):=by
 cases d with
 |struct fs=>simp only[di,Bool.and_eq_true,beq_iff_eq]at h;exact⟨fs,rfl,h.2⟩
 |_=>simp[di,hk]at h
theorem yh{k:ag}{z:Value}(h:(lO z).cells.all AV.flat=true):qB k z.cells (lO z).cells:=(V.lO k z).cells h
theorem zM{t:Nat}{parts:Array (Nat × Operand)}{i:TI}{l:List AV}(ho:o.op=.build t parts)(ht:L.tt t=some i)(hk:i.kind=.struct)(hz:(lO i.zero).cells.all AV.flat=true)
 (hf:me (λj=>(i.iK[j]?).map λx=>(x.1,x.2.1)) (lO i.zero).cells (parts.toList.map λp=>(p.1,ap env p.2))=some l) (hK:K (.agg l) σ):aG P o env σ K Kp:=
 aG.val (s:=λρ=>Instr.build t (parts.map λ(i,x)=>(i,ρ x))) (λρ=>by simp[execOp,ho]) λk O ρ hv hr=>by
  obtain⟨hl,hp⟩:=wP (k:=k) (ρ:=ρ) (env:=env) (parts:=parts) λp hp=>hv p.2 (by simp[ho,Op.operands];exact⟨p.1,hp⟩)
  obtain⟨c',hc,hrel⟩:=yg _ _ i.zero.cells _ l hl hp (yh hz) hf;unfold Instr.build;refine af (cX L ht (af (aB L ht λd _ hd=>?_)))
  obtain⟨fs,rfl,hfs⟩:=qC hd hk;dsimp only;refine af ?_;rw[Array.mapM_eq_mapM_toList,map_eq_pure_bind];refine af (uu fs.toList i.iK _ hfs (aj ?_))
  have hplace:(λj:Nat=>((i.iK.map λx=>(x.1,x.2.1)).toArray[j]?:Option (Nat × Nat)))=λj=>(i.iK[j]?).map λx=>(x.1,x.2.1):=by funext j;simp
  rw[hplace,hc];exact aj (.here ⟨.refl k,.agg l,σ,.agg _ _ hrel.1 hrel.2.1,hr,hK⟩)
theorem wh{t len e:Nat}{parts:Array (Nat × Operand)}{it ie:TI}{es:List AV}(ho:o.op=.buildSlice t len parts)(ht:L.tt t=some it)(hk:it.kind=.slice e)(he:L.tt e=some ie)(hsmall:len*ie.size<=16777216)
 (hz:(lO ie.zero).cells.all AV.flat=true) (hpos:len*ie.size=0\/(lO ie.zero).cells.length=ie.size) (hes:es.length=len/\∀e∈es,e.cells.length=ie.size)
 (hf:me (λj=>some (j*ie.size,ie.size)) ((List.range (len*ie.size)).map λj=>(lO ie.zero).cells.getD (j % (lO ie.zero).cells.length) .bL) (parts.toList.map λp=>(p.1,ap env p.2))=some (flatten es)) (hK:K (.sl ie.size es .exact) σ):aG P o env σ K Kp:=
 aG.val (s:=λρ=>Instr.buildSlice t len (parts.map λ(i,x)=>(i,ρ x))) (λρ=>by simp[execOp,ho]) λk O ρ hv hr=>by
  obtain⟨hl,hp⟩:=wP (k:=k) (ρ:=ρ) (env:=env) (parts:=parts) λp hp=>hv p.2 (by simp[ho,Op.operands];exact⟨p.1,hp⟩)
  have hzr:=yh (k:=k) hz;unfold Instr.buildSlice;refine af (aB L ht λd _ hd=>?_)
  rw[bF hd hk];dsimp only;refine af (ck L he ?_);rw[if_neg (by omega)]
  have fin:∀(z:Array Value),(len*ie.size=0\/z=ie.zero.cells)->eE P (do
   let some cells:=Instr.fill (λi=>some (i*ie.size,ie.size)) ((Array.range (len*ie.size)).map (z[· % z.size]!)) (parts.map λ(i,x)=>(i,ρ x)).toList|stuck  "buildSlice: a part of the wrong size"
   pure (.slice (some (<-newRow e cells)) len len):Sem Value) k O (λv k' O'=>l8 k' O' λk2 O2=>k.Le k2/\∃a σ',V k2 v a/\Rel k2 O2 σ'/\K a σ') (λv k' O'=>k.Le k'/\∃a σ',V k' v a/\Rel k' O' σ'/\Kp a σ'):=by
   intro z hz0
   have hc0:qB k ((Array.range (len*ie.size)).map (z[· % z.size]!)) ((List.range (len*ie.size)).map λj=>(lO ie.zero).cells.getD (j % (lO ie.zero).cells.length) .bL):=by
    refine⟨by simp,λj v a h1 h2=>?_,λj v h1=>?_⟩
    . have hj:j<len*ie.size:=by simpa using(Array.getElem?_eq_some_iff.1 h1).1
      rcases hz0 with h0|rfl
      . omega
      . have hne:(lO ie.zero).cells.length≠0:=by
         rcases hpos with h|h
         . omega
         . rw[h];intro q;rw[q]at hj;simp at hj
        have hm:j % (lO ie.zero).cells.length<(lO ie.zero).cells.length:=Nat.mod_lt _ (by omega)
        simp only[Array.getElem?_map,Array.getElem?_range,hj,if_true,Option.map_some,Option.some.injEq,List.getElem?_map,List.getElem?_range]at h1 h2;have e1:=hzr.1;subst h1;subst h2;refine hzr.2.1 (j % (lO ie.zero).cells.length) _ _ ?_ ?_
        . rw[<-e1];rw[<-e1]at hm
          rw[getElem!_pos ie.zero.cells _ hm];simp[hm]
        . simp[List.getD_eq_getElem?_getD,hm]
    . have hj:j<len*ie.size:=by simpa using(Array.getElem?_eq_some_iff.1 h1).1
      rcases hz0 with h0|rfl
      . omega
      . have hne:(lO ie.zero).cells.length≠0:=by
         rcases hpos with h|h
         . omega
         . rw[h];intro q;rw[q]at hj;simp at hj
        have hm:j % ie.zero.cells.size<ie.zero.cells.size:=by rw[hzr.1];exact Nat.mod_lt _ (by omega)
        simp only[Array.getElem?_map,Array.getElem?_range,hj,if_true,Option.map_some,Option.some.injEq]at h1;subst h1;refine hzr.2.2 (j % ie.zero.cells.size) _ ?_;rw[getElem!_pos ie.zero.cells _ hm];simp[hm]
   obtain⟨c',hc,hrel⟩:=yg _ _ _ _ _ hl hp hc0 hf;rw[hc];dsimp only;refine af (l9 λr k' O' hn htt=>aj ?_)
   obtain⟨k2,O2,g,hkk,hcell,hsh,hrl⟩:=htt;refine⟨k2,O2,g,hkk,.sl ie.size es .exact,σ,?_,hrl σ hr,hK⟩;have hfl:=bc hes.2;rw[show len=es.length from hes.1.symm]
   refine V.ofRow (Nat.le_refl _) hsh (by rw[hrel.1,hfl];omega) hes.2 (λj a ha=>?_) rfl
   have hj:j<c'.size:=by rw[hrel.1];exact(List.getElem?_eq_some_iff.1 ha).1
   have hcj:c'[j]?=some c'[j]:=by simp[hj]
   exact⟨c'[j],by rw[Nat.zero_add];exact hcell j _ hcj,(hrel.2.1 j _ a hcj ha).mono hkk,hrel.2.2 j _ hcj⟩
  by_cases h0:len*ie.size=0
  . rw[if_pos h0]
    exact af (aj (fin #[] (.inl h0)))
  . rw[if_neg h0]
    exact af (cX L he (af (aj (fin _ (.inr rfl)))))
end
inductive Md where
 |ret
 |Ly (v:AV)
def uv(k:ag):FrameMode->Md->Prop
 |.returning,.ret=>True
 |.panicking c,.Ly v=>∃cv,c=[⟨cv,false,false⟩]/\V k cv v
 |_,_=>False
theorem uv.mono{k k':ag}(hk:k.Le k'){fm:FrameMode}{md:Md}(h:uv k fm md):uv k' fm md:=by
 cases fm<;>cases md<;>simp only[uv]at h ⊢;obtain⟨cv,h1,h2⟩:=h;exact⟨cv,h1,h2.mono hk⟩
def uw(P:Program)(m:Mo)(f:Fn)(cap args:List AV)(md:Md)(σ:aa)(KD:Md->aa->Prop):Prop:=
 ∀ Q k O (fr:Frame) cs cc ca,fr.kind≠.early->uv k fr.mode md->Vs k cc cap->Vs k ca args->Rel k O σ ->
   (∀k' O' md' σ' mode',k.Le k'->uv k' mode' md'->Rel k' O' σ'->KD md' σ'->T P m Q k' O' (G {fr with mode:=mode'} cs)) ->
   T P m Q k O (G {fr with defers:={target:=.fn f cc.toArray,args:=ca.toArray}::fr.defers} cs)
def yi{P:Program}(L:iE P)(env:Env)(σ:aa):ResultVar->Option AV
 |.tmp t=>some (env t)
 |.cell a t=>match L.tt t with|some i=>nu i σ (env a)|none=>none
def eF{P:Program}(L:iE P)(env:Env)(σ:aa):List ResultVar->Option (List AV)
 |[]=>some []
 |r::rs=>match yi L env σ r,eF L env σ rs with|some a,some l=>some (a::l)|_,_=>none
def oneOf:List AV->AV
 |[a]=>a
 |l=>.c9 l
def ResultVar.ok(n:Nat):ResultVar->Bool
 |.tmp t=>t<n
 |.cell a _=>a<n
def Jv{P:Program}(L:iE P)(m:Mo)(rs:List ResultVar)(env:Env)(KF:cL->aa->Prop):List kL->Md->aa->Prop
 |[],.ret,σ=>∃l,eF L env σ rs=some l/\KF (.val (oneOf l)) σ
 |[],.Ly v,σ=>KF (.panic v) σ
 |.mark r::D,md,σ=>σ r=some (.raw (.deferred (some [])))/\Jv L m rs env KF D md (σ.set r (.raw (.deferred none)))
 |.call f cap args::D,md,σ=>uw P m f cap args md σ λmd' σ'=>Jv L m rs env KF D md' σ'
section
variable{P:Program}(L:iE P){m:Mo}{f:FuncId}{fn:Func}
theorem zN{α β:Type}{k:ag}{O:ah}{Kp:Value->ag->ah->Prop}(g:α->Sem β):∀(l:List α) (K:List β->ag->ah->Prop) (R:α->β->Prop),
 (∀x∈l,∀(K':β->ag->ah->Prop),(∀y,R x y->K' y k O)->eE P (g x) k O K' Kp)->(∀r:List β,r.length=l.length->(∀(i:Nat) x y,l[i]?=some x->r[i]?=some y->R x y)->K r k O)->eE P (l.mapM g) k O K Kp
 |[],K,R,_,h=>aj (h [] rfl (λi x y hx=>by simp at hx))
 | x::l,K,R,hg,h=>by
   rw[List.mapM_cons];refine af (hg x (by simp) _ λy hy=>?_);refine af (zN g l _ R (λz hz=>hg z (by simp[hz])) λr hr1 hr2=>?_);refine aj (h (y::r) (by simp[hr1]) λi a b ha hb=>?_);cases i with
   |zero=>simp at ha hb;subst ha;subst hb;exact hy
   |succ i=>exact hr2 i a b (by simpa using ha) (by simpa using hb)
theorem qD{env:Env}{σ:aa}:∀{rs:List ResultVar}{l:List AV},eF L env σ rs=some l->l.length=rs.length/\∀(i:Nat) r a,rs[i]?=some r->l[i]?=some a->yi L env σ r=some a
 |[],l,h=>by simp only[eF,Option.some.injEq]at h;subst h;exact⟨rfl,λi r a h=>by simp at h⟩
 | r :: rs,l,h=>by
   unfold eF at h;cases h1:yi L env σ r with
   |none=>rw[h1]at h;cases h
   | some a=>
     cases h2:eF L env σ rs with
     |none=>rw[h1,h2]at h;cases h
     | some l'=>
       rw[h1,h2]at h;simp only[Option.some.injEq]at h;subst h;obtain⟨g1,g2⟩:=qD h2;refine⟨by simp[g1],λi x b hx hb=>?_⟩;cases i with
       |zero=>simp at hx hb;subst hx;subst hb;exact h1
       |succ i=>exact g2 i x b (by simpa using hx) (by simpa using hb)
theorem zO{k:ag}{O:ah}{Kp:Value->ag->ah->Prop}{K:Value->ag->ah->Prop}{tmps:Array Value}{env:Env}{σ:aa}{l:List AV}(he:fe k tmps env)(hn:fn.results.all (ResultVar.ok tmps.size)=true)(hr:Rel k O σ)
 (hl:eF L env σ fn.results.toList=some l) (hK:∀v,V k v (oneOf l)->K v k O):eE P (results fn tmps) k O K Kp:=by
 obtain⟨g1,g2⟩:=qD L hl;unfold results;refine af ?_;rw[Array.mapM_eq_mapM_toList,map_eq_pure_bind]
 have hok:∀r∈fn.results.toList,ResultVar.ok tmps.size r=true:=λr h=>by simp only[Array.all_eq_true_iff_forall_mem]at hn;exact hn r (by simpa using h)
 refine af (zN _ fn.results.toList _ (λr v=>∀a,yi L env σ r=some a->V k v a) (λr hr' K' hK'=>?_) λvs hvs hvv=>aj ?_)
 . have hrok:=hok r hr'
   cases r with
   |tmp t=>exact aj (hK' _ λa ha=>by simp only[yi,Option.some.injEq]at ha;subst ha;exact he t (by simpa[ResultVar.ok]using hrok))
   | cell a t=>
     obtain⟨j,hj,hje⟩:=List.mem_iff_getElem.1 hr';have hlt:j<l.length:=by rw[g1];exact hj
     have hres:=g2 j _ l[j] (List.getElem?_eq_getElem hj) (by simp[hlt])
     rw[hje]at hres;simp only[yi]at hres;cases ht:L.tt t with
     |none=>rw[ht]at hres;cases hres
     | some i=>
       rw[ht]at hres;simp only at hres;have hp:=he a (by simpa[ResultVar.ok]using hrok)
       obtain⟨ad,e⟩:=hp.Gq (wJ hres);rw[e]at hp;obtain⟨b,base,off,row,rfl,hrow,hs⟩:=zC hr hp hres;show eE P (do loadVar t (<-asAddr (tmps.getD a undef))) k O K' Kp;rw[e];refine af (aj (sK L hrow ht hs λv hv=>hK' v λa' ha'=>?_))
       simp only[yi,ht,hres,Option.some.injEq]at ha';subst ha';exact hv
 . refine aj (hK _ ?_)
   have hvl:∀(i:Nat) v a,vs[i]?=some v->l[i]?=some a->V k v a:=λi v a hv ha=>by
    have hi:i<fn.results.toList.length:=by rw[<-hvs];exact(List.getElem?_eq_some_iff.1 hv).1
    exact hvv i _ v (List.getElem?_eq_getElem hi) hv a (g2 i _ a (List.getElem?_eq_getElem hi) ha)
   have hlen:vs.length=l.length:=by rw[hvs,g1]
   by_cases h1:vs.toArray.size=1
   . rw[dif_pos h1]
     match l,vs,hlen,hvl with
     |[a],[v],_,hvl=>exact hvl 0 v a rfl rfl
     |[],[],_,_=>simp at h1
     |a::b::l,u::v::vs,_,_=>simp at h1
   . rw[dif_neg h1]
     match l,vs,hlen,hvl with
     |[],[],_,hvl=>exact .c9 _ _ rfl (λi v a h=>by simp at h)
     |[a],[v],_,hvl=>simp at h1
     |a::b::l,u::v::vs,hlen,hvl=>exact .c9 _ _ (by simpa using hlen) (λi v a hv ha=>hvl i v a (by simpa using hv) ha)
theorem T.zP{α:Type}{Q:ag->ah->Goroutine->Prop}{k:ag}{O:ah}{g:Goroutine}{s:Sem α}{fid:FuncId}(hr:g.status=.running){K:α->ag->ah->Prop}{nxt:α->World->GStep}(hnx:∀a k' O' w',k.Le k'->Sat k' O' w'->K a k' O'->∃g',nxt a w'=.go g' w' #[]/\T P m Q k' O' g')
 (hs:∀w a w',(s.runT P w #[]).1=.ok a w'->stepG P m.main g w=GStep.after (seen P fid (s.runT P w #[]).2) (nxt a w')) (h:eE P s k O K (λ_ _ _=>False)):T P m Q k O g:=
 .step (λk' O' x=>T P m Q k' O' x) hr (λ_ _ _ h=>h) λw hw=>by
  obtain⟨k',O',w',l,h1,h2,h3,h4⟩:=rL s #[] h hw;rcases h4 with⟨a,ha,hK⟩|⟨v,_,hF⟩
  . obtain⟨g',e1,e2⟩:=hnx a k' O' w' h1.le h2 hK
    refine⟨g',w',seen P fid (s.runT P w #[]).2,k',O',?_,h1.sub (λe he=>?_),h2,e2⟩
    . rw[hs w a w' ha,e1];simp[GStep.after]
    . have:=uk (by simpa using he:e∈seen P fid (s.runT P w #[]).2)
      rw[<-Array.mem_toList_iff,h3]at this;simpa using this
  . exact hF.elim
theorem zQ{Q:ag->ah->Goroutine->Prop}{KF:cL->aa->Prop}{n:Nat}{kind:CallKind}{c:Frame}{rest:List Frame}(hf:P.funcs[f]?=some fn)(hres:fn.results.all (ResultVar.ok n)=true)(hkind:kind≠.early){env:Env}:
 ∀ (D:List kL) (md:Md) (σ:aa) (k:ag) (O:ah) (tmps:Array Value) (todo:List Item) (defs:List Deferred) (fm:FrameMode),tmps.size=n->fe k tmps env->Rel k O σ->wH k defs D->uv k fm md->Jv L m fn.results.toList env KF D md σ ->
   (∀k' O' cv av σ',k.Le k'->V k' cv av->Rel k' O' σ'->KF (.val av) σ'->T P m Q k' O' (jT kind c rest cv)) ->
   (∀k' O' cv av σ',k.Le k'->V k' cv av->Rel k' O' σ'->KF (.panic av) σ'->T P m Q k' O' (G (c.raise [⟨cv,false,false⟩]) rest)) ->
   T P m Q k O (G ⟨f,tmps,todo,defs,fm,kind,none⟩ (c::rest)):=by
 intro D
 induction D with
 | nil =>
   intro md σ k O tmps todo defs fm hsz he hr hd hmd hu hv hp;cases defs with
   |cons _ _=>exact hd.elim
   | nil =>
     cases fm with
     |run=>cases md<;>exact hmd.elim
     | returning=>
       cases md with
       |Ly v=>exact hmd.elim
       | ret=>
         obtain⟨l,hl,hK⟩:=hu;refine T.zP (fid:=f) (s:=results fn tmps) rfl (K:=λv k' O'=>k'=k/\O'=O/\V k v (oneOf l)) (nxt:=λv w=>doReturn P m.main ⟨f,tmps,todo,[],.returning,kind,none⟩ (c::rest) none v w) ?_ ?_ ?_
         . rintro v k' O' w' _ _ ⟨rfl,rfl,hvv⟩
           have ht:=hv k' O' v _ σ (.refl _) hvv hr hK;cases kind<;>first|exact absurd rfl hkind|exact⟨_,rfl,ht⟩
         . intro w v w' hrun
           simp only[G,stepG,unwind,hf];rw[show(results fn tmps).runT P w #[]=(((results fn tmps).runT P w #[]).1,((results fn tmps).runT P w #[]).2)from rfl,hrun]
         . exact zO L he (by rw[hsz];exact hres) hr hl λv hv=>⟨rfl,rfl,hv⟩
     | panicking ch=>
       cases md with
       |ret=>exact hmd.elim
       | Ly v=>
         obtain⟨cv,rfl,hcv⟩:=hmd;refine T.dD (g':=G (c.raise [⟨cv,false,false⟩]) rest) rfl (λw=>?_) (hp k O cv v σ (.refl _) hcv hr hu)
         have hcat:Frame.catches P ⟨f,tmps,todo,[],.panicking [⟨cv,false,false⟩],kind,none⟩=false:=by simp[Frame.catches,hf]
         simp only[G,stepG,unwind,hcat];rfl
 | cons d D ih=>
   intro md σ k O tmps todo defs fm hsz he hr hd hmd hu hv hp;cases defs with
   |nil=>exact hd.elim
   | cons df defs=>
     obtain⟨hd1,hd2⟩:=hd;have hmode:fm≠.run:=λe=>by subst e;cases md<;>exact hmd.elim
     cases d with
     | mark r=>
       obtain⟨h1,h2⟩:=hu;have hd1:df={target:=.collected r,args:=#[]}:=hd1;subst hd1;refine T.zP (fid:=f) (s:=Instr.takeDeferred r) rfl (K:=λcalls k' O'=>calls=[]/\k'=k/\Rel k O' (σ.set r (.raw (.deferred none)))) (nxt:=λcalls w=>.go (G ⟨f,tmps,todo,calls++defs,fm,kind,none⟩ (c::rest)) w) ?_ ?_ ?_
       . rintro calls k' O' w' _ _ ⟨rfl,rfl,hr'⟩
         exact⟨_,rfl,ih md _ k' O' tmps todo defs fm hsz he hr' hd2 hmd h2 hv hp⟩
       . intro w v w' hrun
         cases fm with
         |run=>exact absurd rfl hmode
         |_=>simp only[G,stepG,unwind];rw[show(Instr.takeDeferred r).runT P w #[]=(((Instr.takeDeferred r).runT P w #[]).1,((Instr.takeDeferred r).runT P w #[]).2)from rfl,hrun]
       . obtain⟨x,hx,hxr⟩:=hr.1 r _ h1 (by simp)
         cases hxr with
         |raw _ hc=>unfold Instr.takeDeferred;refine af (s:=getObj r) ⟨_,hx,rfl,?_⟩;refine af (s:=setObj r _) ⟨⟨_,hx,rfl⟩,rfl,aj ⟨rfl,rfl,?_⟩⟩;exact hr.set (.raw _ rfl)
     | call g cap args=>
       obtain⟨cc,ca,rfl,hcc,hca⟩:=hd1
       have:=hu Q k O ⟨f,tmps,todo,defs,fm,kind,none⟩ (c::rest) cc.toList ca.toList hkind hmd hcc hca hr λk' O' md' σ' mode' hle hmd' hr' hk'=>ih md' σ' k' O' tmps todo defs mode' hsz (he.mono hle) hr' (hd2.mono hle) hmd' hk' (λ_ _ _ _ _ h=>hv _ _ _ _ _ (hle.trans h)) (λ_ _ _ _ _ h=>hp _ _ _ _ _ (hle.trans h))
       simpa using this
def dK(args:List AV):Env:=λt=>args.getD t .bL
theorem rN{k:ag}{cargs:List Value}{args:List AV}(h:Vs k cargs args)(n:Nat):fe k (cargs.toArray++Array.replicate n undef) (dK args):=λt ht=>by
 by_cases hlt:t<cargs.length
 . have hl2:t<args.length:=by rw[<-h.1];exact hlt
   have:(cargs.toArray++Array.replicate n undef).getD t undef=cargs[t]:=by
    simp only[Array.getD_eq_getD_getElem?];rw[Array.getElem?_append_left (by simpa using hlt)];simp[hlt]
   rw[this];have e2:dK args t=args[t]:=by simp[dK,List.getD_eq_getElem?_getD,hl2]
   rw[e2];exact h.2 t _ _ (by simp[hlt]) (by simp[hl2])
 . have:dK args t=.bL:=by
    unfold dK;rw[List.getD_eq_getElem?_getD,List.getElem?_eq_none (by rw[<-h.1];omega)];rfl
   rw[this];exact .bL _
def Nj{P:Program}(L:iE P)(m:Mo)(rs:List ResultVar)(KF:cL->aa->Prop):Exit->St->Prop
 |.leave none,s=>s.rc=.no/\Jv L m rs s.env KF s.D .ret s.σ
 |.leave (some .ret),s=>s.rc=.no/\Jv L m rs s.env KF s.D .ret s.σ
 |.leave _,_=>False
 |.panic v,s=>s.rc=.no/\Jv L m rs s.env KF s.D (.Ly v) s.σ
theorem JF{Q:ag->ah->Goroutine->Prop}{KF:cL->aa->Prop}{n:Nat}{kind:CallKind}{c:Frame}{rest:List Frame}(hf:P.funcs[f]?=some fn)(hres:fn.results.all (ResultVar.ok n)=true)(hkind:kind≠.early){k:ag}
 (hv:∀k' O' cv av σ',k.Le k'->V k' cv av->Rel k' O' σ'->KF (.val av) σ'->T P m Q k' O' (jT kind c rest cv))
 (hp:∀k' O' cv av σ',k.Le k'->V k' cv av->Rel k' O' σ'->KF (.panic av) σ'->T P m Q k' O' (G (c.raise [⟨cv,false,false⟩]) rest)):
 x9 P m Q f n none kind (c::rest) (Nj L m fn.results.toList KF) k where
 leave k' O' tmps defs s todo jump hle hs hl hK:=by
  have key:s.rc=.no/\Jv L m fn.results.toList s.env KF s.D .ret s.σ/\(jump=none\/jump=some .ret):=by
   rcases hl with⟨_,rfl⟩|⟨_,_,rfl⟩|⟨_,_,_,_,rfl⟩
   . exact⟨hK.1,hK.2,.inl rfl⟩
   . exact⟨hK.1,hK.2,.inr rfl⟩
   . exact hK.elim
  obtain⟨h1,h2,h3⟩:=key;rw[h1];refine T.dD (g':=G ⟨f,tmps,todo,defs,.returning,kind,none⟩ (c::rest)) rfl (λw=>?_) ?_
  . rcases hl with⟨rfl,rfl⟩|⟨kk,rfl,rfl⟩|⟨_,_,_,_,rfl⟩
    . simp[G,stepG,stepG.exec,fM]
    . simp[G,stepG,stepG.exec,fM]
    . simp at h3
  . exact zQ L hf hres hkind s.D .ret s.σ k' O' tmps todo defs .returning hs.size hs.env hs.rel hs.ds trivial h2 (λ_ _ _ _ _ h=>hv _ _ _ _ _ (hle.trans h)) (λ_ _ _ _ _ h=>hp _ _ _ _ _ (hle.trans h))
 panic k' O' tmps defs s todo cv av hle hs hcv hK:=by obtain⟨h1,h2⟩:=hK;rw[h1];exact zQ L hf hres hkind s.D (.Ly av) s.σ k' O' tmps todo defs _ hs.size hs.env hs.rel hs.ds ⟨cv,rfl,hcv⟩ h2 (λ_ _ _ _ _ h=>hv _ _ _ _ _ (hle.trans h)) (λ_ _ _ _ _ h=>hp _ _ _ _ _ (hle.trans h))
theorem aA.intro{args:List AV}{σ:aa}{KF:cL->aa->Prop}{body:Code}(hf:P.funcs[f]?=some fn)(hb:fn.body=some body)(hn:args.length<=fn.ntmps)(hres:fn.results.all (ResultVar.ok fn.ntmps)=true)
 (h:Go P m f fn.ntmps none [.code body] ⟨dK args,σ,[],.no⟩ (Nj L m fn.results.toList KF)):aA P m f args σ KF:=λQ k O cargs c rest kind hkind hargs hr hv hp=>by
 have hsz:(cargs.toArray++Array.replicate (fn.ntmps-cargs.length) undef).size=fn.ntmps:=by simp;rw[hargs.1];omega
 have e:Frame.enter P f cargs.toArray kind=⟨f,cargs.toArray++Array.replicate (fn.ntmps-cargs.length) undef,[.code body],[],.run,kind,none⟩:=by simp[Frame.enter,hf,hb]
 rw[e];exact h Q k O _ [] kind (c::rest) hkind ⟨hsz,rN hargs _,hr,trivial,trivial⟩ (JF L hf hres hkind hv hp)
def Ws:List AV->List AV->Prop
 |[],[]=>True
 |a::l,b::r=>a.W b/\Ws l r
 |_,_=>False
theorem Ws.vs{k:ag}:∀{c:List Value}{l l':List AV},Ws l l'->Vs k c l->Vs k c l'
 |[],[],[],_,_=>.nil
 |v::c,a::l,b::r,h,hv=>.cons (h.1 k v (hv.2 0 v a rfl rfl)) (Ws.vs h.2 ⟨by simpa using hv.1,λi x y hx hy=>hv.2 (i+1) x y (by simpa using hx) (by simpa using hy)⟩)
 |_,[],_::_,h,_=>h.elim
 |_,_::_,[],h,_=>h.elim
 |[],_::_,_,_,hv=>by simp[Vs]at hv
 |_::_,[],_,_,hv=>by simp[Vs]at hv
theorem dC.func{first cap args:List AV}{σ:aa}{KF:cL->aa->Prop}(hf:P.funcs[f]?=some fn)(hb:fn.body.isSome=true)(hnm:(fn.name==  "runtime.NumGoroutine")=false)(h:aA P m f (first++args++cap) σ KF):
 dC P m (.fn (.func f) first cap) args σ KF:=λQ k O cf cargs fr cs hcf hargs hr hmode hkind htodo hv hp=>by
 cases hcf with
 | fn _ c1 c2 l1 l2 g1 g2 g3 g4=>
   refine fg ?_;simp only[Deferred.ofValue];refine af (aj ?_);simp only[invoke,callFunc];refine af (bN ?_);rw[hf];have hb':fn.body.isNone=false:=by cases hx:fn.body<;>simp_all
   simp only[hnm,hb',Bool.false_eq_true,if_false];refine aj λ_=>⟨htodo,?_⟩
   have e:c1++cargs.toArray++c2=(c1.toList++cargs++c2.toList).toArray:=by simp
   rw[e];exact h Q k O (c1.toList++cargs++c2.toList) fr cs .normal (by simp) (Vs.append (Vs.append (c:=c1.toList) (l:=first) ⟨by simpa using g1,λi v a hv ha=>g2 i v a (by simpa using hv) ha⟩ hargs) (c':=c2.toList) ⟨by simpa using g3,λi v a hv ha=>g4 i v a (by simpa using hv) ha⟩) hr hv hp
theorem dC.mono{fv:AV}{args:List AV}{σ:aa}{KF KF':cL->aa->Prop}(h:dC P m fv args σ KF)(hk:∀r σ,KF r σ->KF' r σ):dC P m fv args σ KF':=λQ k O cf cargs fr cs h1 h2 h3 h4 h5 h6 h7 h8=>h Q k O cf cargs fr cs h1 h2 h3 h4 h5 h6 (λ_ _ _ _ _ a b c d=>h7 _ _ _ _ _ a b c (hk _ _ d)) (λ_ _ _ _ _ a b c d=>h8 _ _ _ _ _ a b c (hk _ _ d))
theorem dC.weaken{fv:AV}{args args':List AV}{σ:aa}{KF:cL->aa->Prop}(h:dC P m fv args' σ KF)(hw:Ws args args'):dC P m fv args σ KF:=λQ k O cf cargs fr cs h1 h2 h3 h4 h5 h6 h7 h8=>h Q k O cf cargs fr cs h1 (hw.vs h2) h3 h4 h5 h6 h7 h8
end
section
variable{P:Program}{m:Mo}{fid n:Nat}{ro:Option Nat}{s:St}{K:Exit->St->Prop}{k:List Item}
theorem Go.call{ops:Array Oper}{i:Nat}{rest:List Nat}{o:Oper}{fo:Operand}{args:Array Operand}{tys:Array TypeId}(ho:ops[i]?=some o)(hop:o.op=.call ⟨.value fo,args,tys⟩)(hw:bS ops n s.env o)(hok:Oper.ok n o=true)
 (h:dC P m (ap s.env fo) (args.toList.map (ap s.env)) s.σ (λr σ'=>match r with
   |.val a=>Go P m fid n ro (.inRegion ops rest::k) {s with env:=bd s.env o.dst a,σ:=σ'} K
   |.panic v=>K (.panic v) {s with σ:=σ'})):
 Go P m fid n ro (.inRegion ops (i::rest)::k) s K:=λQ kk O tmps defs kind cs h1 h2 h3=>by
 refine T.ov (λw=>dT ho (iq h2.size h2.env hw) (.inr λc e=>by rw[hop]at e;cases e) w) ?_
 have hops:∀x∈o.op.operands,V kk (Frame.eval ⟨fid,tmps,.inRegion ops (i::rest)::k,defs,.run,kind,ro⟩ x) (ap s.env x):=λx hx=>by refine V.eval h2.env h2.size x ?_;simp only[Oper.ok,Bool.and_eq_true,Array.all_eq_true_iff_forall_mem]at hok;exact hok.1 x hx
 have e:execOp (Frame.eval ⟨fid,tmps,.inRegion ops (i::rest)::k,defs,.run,kind,ro⟩) o=(do let d <-Deferred.ofValue (Frame.eval ⟨fid,tmps,.inRegion ops (i::rest)::k,defs,.run,kind,ro⟩ fo) ((args.toList.map (Frame.eval ⟨fid,tmps,.inRegion ops (i::rest)::k,defs,.run,kind,ro⟩)).toArray);invoke d.target d.args):=by
  have ea:(args.toList.map (Frame.eval ⟨fid,tmps,.inRegion ops (i::rest)::k,defs,.run,kind,ro⟩)).toArray=args.map (Frame.eval ⟨fid,tmps,.inRegion ops (i::rest)::k,defs,.run,kind,ro⟩):=by apply Array.ext';simp
  rw[ea];simp only[execOp,hop,resolve]
 rw[e];refine h Q kk O _ _ _ _ (hops fo (by simp[hop,Op.operands,Call.operands])) ⟨by simp,λj v a hv ha=>?_⟩ h2.rel rfl h1 (λd w r s l=>by simp) (λk' O' cv av σ' hle hcv hr hK=>?_) (λk' O' cv av σ' hle hcv hr hK=>?_)
 . simp only[List.getElem?_map]at hv ha
   cases hx:args.toList[j]? with
   |none=>rw[hx]at hv;cases hv
   |some x=>rw[hx]at hv ha;simp only[Option.map_some,Option.some.injEq]at hv ha;subst hv;subst ha;exact hops x (by simp only[hop,Op.operands,Call.operands];exact Array.mem_append.2 (.inr (by simpa using List.mem_of_getElem? hx)))
 . obtain⟨tmps',e1,e2⟩:=h2.put (fid:=fid) (ro:=ro) (rest:=rest) (kk:=k) hle ho hcv hr
   rw[e1];exact hK Q k' O' tmps' defs kind cs h1 e2 (h3.mono hle)
 . exact h3.panic k' O' tmps defs {s with σ:=σ'} _ cv av hle ⟨h2.size,h2.env.mono hle,hr,h2.ds.mono hle,h2.rc.mono hle⟩ hcv hK
theorem Go.defer{ops:Array Oper}{i:Nat}{rest:List Nat}{o:Oper}{fo:Operand}{args:Array Operand}{tys:Array TypeId}{f:Fn}{first cap:List AV}(hro:ro=none)(ho:ops[i]?=some o)(hop:o.op=.defer ⟨.value fo,args,tys⟩)(hw:bS ops n s.env o)(hok:Oper.ok n o=true)
 (hfo:ap s.env fo=.fn f first cap) (h:Go P m fid n ro (.inRegion ops rest::k) {s with env:=bd s.env o.dst .bL,D:=.call f cap (first++args.toList.map (ap s.env))::s.D} K):
 Go P m fid n ro (.inRegion ops (i::rest)::k) s K:=λQ kk O tmps defs kind cs h1 h2 h3=>by
 refine T.ov (λw=>dT ho (iq h2.size h2.env hw) (.inl hro) w) (fg ?_)
 have hops:∀x∈o.op.operands,V kk (Frame.eval ⟨fid,tmps,.inRegion ops (i::rest)::k,defs,.run,kind,ro⟩ x) (ap s.env x):=λx hx=>by refine V.eval h2.env h2.size x ?_;simp only[Oper.ok,Bool.and_eq_true,Array.all_eq_true_iff_forall_mem]at hok;exact hok.1 x hx
 have hf:=hops fo (by simp[hop,Op.operands,Call.operands])
 rw[hfo]at hf;generalize hq:Frame.eval _ fo=cf at hf;cases hf with
 | fn _ c1 c2 l1 l2 g1 g2 g3 g4=>
   simp only[execOp,hop,resolve,hq,Deferred.ofValue];refine af (aj (aj λ_=>?_))
   obtain⟨tmps',e1,e2⟩:=h2.put (fid:=fid) (ro:=ro) (rest:=rest) (kk:=k) (v:=undef) (a:=.bL) (.refl _) ho (.bL _) h2.rel
   have e3:Frame.finish ⟨fid,tmps,.inRegion ops (i::rest)::k,{target:=.fn f c2,args:=c1++args.map (Frame.eval ⟨fid,tmps,.inRegion ops (i::rest)::k,defs,.run,kind,ro⟩)}::defs,.run,kind,ro⟩ undef=
    ⟨fid,tmps',.inRegion ops rest::k,{target:=.fn f c2,args:=c1++args.map (Frame.eval ⟨fid,tmps,.inRegion ops (i::rest)::k,defs,.run,kind,ro⟩)}::defs,.run,kind,ro⟩:=by
    simp only[Frame.finish,Frame.mk.injEq]at e1 ⊢;simp[e1.2.1]
   show T P m Q kk O (G _ _);rw[e3];refine h Q kk O tmps' _ kind cs h1 ⟨e2.size,e2.env,e2.rel,⟨⟨c2,_,rfl,⟨by simpa using g3,λi v a hv ha=>g4 i v a (by simpa using hv) ha⟩,?_⟩,e2.ds⟩,e2.rc⟩ h3
   have:(c1++args.map (Frame.eval ⟨fid,tmps,.inRegion ops (i::rest)::k,defs,.run,kind,ro⟩)).toList=c1.toList++args.toList.map (Frame.eval ⟨fid,tmps,.inRegion ops (i::rest)::k,defs,.run,kind,ro⟩):=by simp
   rw[this];refine Vs.append ⟨by simpa using g1,λi v a hv ha=>g2 i v a (by simpa using hv) ha⟩ ⟨by simp,λj v a hv ha=>?_⟩
   simp only[List.getElem?_map]at hv ha;cases hx:args.toList[j]? with
   |none=>rw[hx]at hv;cases hv
   |some x=>rw[hx]at hv ha;simp only[Option.map_some,Option.some.injEq]at hv ha;subst hv;subst ha;exact hops x (by simp only[hop,Op.operands,Call.operands];exact Array.mem_append.2 (.inr (by simpa using List.mem_of_getElem? hx)))
end
def fI (env:Env):List Tmp->List AV->Env
 | t :: ts,a :: as=>fI (env.upd t a) ts as
 | _,_=>env
theorem ux {k:ag}:∀ (ts:List Tmp) (vs:List Value) (as:List AV) (tmps:Array Value) (env:Env),Vs k vs as->fe k tmps env ->
 ((ts.zip vs).foldl (fun tmps (x:Tmp × Value)=>tmps.setIfInBounds x.1 x.2) tmps).size=tmps.size∧fe k ((ts.zip vs).foldl (fun tmps (x:Tmp × Value)=>tmps.setIfInBounds x.1 x.2) tmps) (fI env ts as)
 | [],vs,as,tmps,env,_,he=>by cases as <;> exact⟨rfl,he⟩
 | t :: ts,[],as,tmps,env,hv,he=>by
   have:as=[]:=by have:=hv.1;simp at this;exact List.eq_nil_of_length_eq_zero this.symm
   subst this;exact⟨rfl,he⟩
 | t :: ts,v :: vs,[],tmps,env,hv,he=>by simp[Vs] at hv
 | t :: ts,v :: vs,a :: as,tmps,env,hv,he=>by
   have h1:V k v a:=hv.2 0 v a rfl rfl;have h2:Vs k vs as:=⟨by simpa using hv.1,fun i x y hx hy=>hv.2 (i+1) x y (by simpa using hx) (by simpa using hy)⟩
   obtain⟨g1,g2⟩:=ux ts vs as (tmps.setIfInBounds t v) (env.upd t a) h2 (he.upd h1);exact⟨by simp only[List.zip_cons_cons,List.foldl_cons];rw[g1];simp,by simpa only [List.zip_cons_cons,List.foldl_cons,fI] using g2⟩
section
variable{P:Program}{m:Mo}{fid n:Nat}{s:St}{K:Exit->St->Prop}{k:List Item}
theorem lr{kk:ag}{O:ah}{Kp:Value->ag->ah->Prop}{σ:aa}{l:Nat}{a:ln}{R:Loop->ag->ah->Prop}(hr:Rel kk O σ)(hl:σ l=some (.loop a))(hR:∀tmps,tmps.size=a.n->fe kk tmps a.env->R ⟨a.state,a.pending,a.fn,tmps,a.params,a.assign,a.body,a.defers⟩ kk O):
 eE P (Instr.getLoop l) kk O R Kp:=by
 obtain⟨x,hx,hxr⟩:=hr.1 l _ hl (by simp);cases hxr with
 |loop _ tmps h1 h2=>unfold Instr.getLoop;exact af (s:=getObj l) ⟨_,hx,rfl,aj (hR tmps h1 h2)⟩
theorem Go.rangeFunc{f:Operand}{params:Array Tmp}{assign body:Code}(hf:Operand.ok n f=true)
 (h:∀ r l,s.σ r=none->s.σ l=none->r≠l->dC P m (ap s.env f) [.fn (.yield l) [] []] ((s.σ.set r (.raw (.deferred (some [])))).set l (.loop ⟨.ready,none,fid,n,s.env,params,assign,body,r⟩))
   (fun res σ'=>match res with
     |.val _=>∃a,σ' l=some (.loop a)/\a.state≠.busy/\Go P m fid n none ((a.pending.map Item.code).toList++k) {s with σ:=σ'.del l,D:=.mark r::s.D} K
     |.panic v=>K (.panic v) {s with σ:=σ',D:=.mark r::s.D})):Go P m fid n none (.code (.rangeFunc f params assign body)::k) s K:=
 λQ kk O tmps defs kind cs h1 h2 h3=>by
 refine .step (λk' O' x=>T P m Q k' O' x) rfl (λ_ _ _ h=>h) λw hw=>?_
 have hswp:eE P (Instr.enterLoop fid tmps params assign body none) kk O (λx k1 O1=>∃r l,x=(l,[{target:=.collected r,args:=#[]}])/\s.σ r=none/\s.σ l=none/\r≠l/\kk.Le k1/\
  Rel k1 O1 ((s.σ.set r (.raw (.deferred (some [])))).set l (.loop ⟨.ready,none,fid,n,s.env,params,assign,body,r⟩))) (λ_ _ _=>False):=by
  unfold Instr.enterLoop;refine af (af (s:=newObj _) ⟨rfl,λr hr=>aj (aj ?_)⟩)
  refine af (s:=newObj _) ⟨rfl,λl hl=>aj (aj ⟨r,l,rfl,h2.rel.isNone hr.1 hr.2.2,?_,?_,.refl _,?_⟩)⟩
  . have:=hl.1
    by_cases e:l=r
    . subst e;simp[ah.set]at this
    . simp only[ah.set,e,if_false]at this
      have hsh:=hl.2.2;simp only[ag.made,ag.dN,e,if_false]at hsh;exact h2.rel.isNone this hsh
  . intro e
    subst e;have:=hl.1;simp[ah.set]at this
  . exact(h2.rel.set (.raw _ rfl)).set (.loop ⟨.ready,none,fid,n,s.env,params,assign,body,r⟩ tmps h2.size h2.env)
 obtain⟨k1,O1,w1,l1,e1,s1,ev1,c1⟩:=rL _ #[] hswp hw
 rcases c1 with⟨x,hx,r,l,rfl,hσr,hσl,hrl,hle,hrel⟩|⟨_,_,hF⟩
 . have hv:=V.eval (fr:=⟨fid,tmps,.inRangeFunc l::k,{target:=.collected r,args:=#[]}::defs,.run,kind,none⟩) (h2.env.mono hle) h2.size f hf
   have hcall:=h r l hσr hσl hrl Q k1 O1 _ [.func (.yield l) #[] #[]] ⟨fid,tmps,.inRangeFunc l::k,{target:=.collected r,args:=#[]}::defs,.run,kind,none⟩ (fM s.rc cs) hv (.cons (.fn _ _ _ _ _ rfl (λi v a hh=>by simp at hh) rfl (λi v a hh=>by simp at hh)) .nil) hrel rfl h1 (λd w r s l=>by simp)
    (λk' O' cv av σ' hle' hcv hr' hK=>?_) (λk' O' cv av σ' hle' hcv hr' hK=>?_) w1 s1
   . obtain⟨g',w',es,k',O',a1,a2,a3,a4⟩:=hcall
     refine⟨g',w',seen P fid ((Instr.enterLoop fid tmps params assign body none).runT P w #[]).2++es,k',O',?_,?_,a3,a4⟩
     . simp only[G,stepG,stepG.exec]
       rw[show(Instr.enterLoop fid tmps params assign body none).runT P w #[]=(((Instr.enterLoop fid tmps params assign body none).runT P w #[]).1,((Instr.enterLoop fid tmps params assign body none).runT P w #[]).2)from rfl,hx]
       simp only
       have a1':stepG.apply P true ⟨fid,tmps,.inRangeFunc l::k,[{target:=.collected r,args:=#[]}]++defs,.run,kind,none⟩ (fM s.rc cs) none (do let d <-resolve (Frame.eval ⟨fid,tmps,.inRangeFunc l::k,[{target:=.collected r,args:=#[]}]++defs,.run,kind,none⟩) {callee:=.value f,args:=#[.const (.func (.yield l) #[] #[])],argTypes:=#[]} 0;invoke d.target d.args) w1=.go g' w' es:=by rw[<-a1];simp[resolve,Frame.eval]
       rw[a1'];rfl
     . refine (Eff.trans e1 a2).sub λe he=>?_
       rw[Array.toList_append]at he
       rcases List.mem_append.1 he with he|he
       . have:=uk (by simpa using he:e∈seen P fid ((Instr.enterLoop fid tmps params assign body none).runT P w #[]).2)
         rw[<-Array.mem_toList_iff,ev1]at this;exact List.mem_append.2 (.inl (by simpa using this))
       . exact List.mem_append.2 (.inr he)
   ·
    obtain⟨a,ha,hb,hgo⟩:=hK
    have hst:∀w,stepG P m.main (G ⟨fid,tmps,.endRangeFunc l::k,{target:=.collected r,args:=#[]}::defs,.run,kind,none⟩ (fM s.rc cs)) w=GStep.after (seen P fid ((Instr.endLoop l).runT P w #[]).2) (match ((Instr.endLoop l).runT P w #[]).1 with
     |.ok jump w=>.go (G ⟨fid,tmps,(jump.map Item.code).toList++k,{target:=.collected r,args:=#[]}::defs,.run,kind,none⟩ (fM s.rc cs)) w
     |.halt (.panic v) w=>.go (G (Frame.raise ⟨fid,tmps,.endRangeFunc l::k,{target:=.collected r,args:=#[]}::defs,.run,kind,none⟩ [{v,recovered:=false}]) (fM s.rc cs)) w
     |.halt _ w=>.ended (.stuck  "range over a function: no such loop" (Frame.pos P ⟨fid,tmps,.endRangeFunc l::k,{target:=.collected r,args:=#[]}::defs,.run,kind,none⟩)) w):=λw=>by
     simp only[G,stepG,stepG.exec];rfl
    show T P m Q k' O' (G ⟨fid,tmps,.endRangeFunc l::k,{target:=.collected r,args:=#[]}::defs,.run,kind,none⟩ (fM s.rc cs));refine T.zP (fid:=fid) (s:=Instr.endLoop l) rfl (K:=λj k2 O2=>j=a.pending/\k2=k'/\Rel k2 O2 (σ'.del l)) (nxt:=λjump w=>.go (G ⟨fid,tmps,(jump.map Item.code).toList++k,{target:=.collected r,args:=#[]}::defs,.run,kind,none⟩ (fM s.rc cs)) w) ?_ ?_ ?_
    . rintro j k2 O2 w2 _ _ ⟨rfl,rfl,hr2⟩
      exact⟨_,rfl,hgo Q k2 O2 tmps ({target:=.collected r,args:=#[]}::defs) kind cs h1 ⟨h2.size,h2.env.mono (hle.trans hle'),hr2,⟨rfl,h2.ds.mono (hle.trans hle')⟩,h2.rc.mono (hle.trans hle')⟩ (h3.mono (hle.trans hle'))⟩
    . intro w j w' hrun
      rw[hst,hrun]
    . unfold Instr.endLoop
      refine af (lr hr' ha λtmps' _ _=>?_)
      have hb':(a.state==LoopState.busy)=false:=by simpa using hb
      simp only[hb',Bool.false_eq_true,if_false];obtain⟨x,hx1,hx2⟩:=hr'.1 l _ ha (by simp)
      have hxo:∃o,x=.obj o/\gY o=false:=by
       cases hx2 with
       |loop _ _ _ _=>exact⟨_,rfl,rfl⟩
      obtain⟨o,rfl,ho⟩:=hxo;refine af (s:=setObj l _) ⟨⟨o,hx1,ho⟩,rfl,aj ⟨rfl,rfl,?_⟩⟩;exact hr'.drop l _
   . exact h3.panic k' O' tmps ({target:=.collected r,args:=#[]}::defs) {s with σ:=σ',D:=.mark r::s.D} _ cv av (hle.trans hle') ⟨h2.size,h2.env.mono (hle.trans hle'),hr',⟨rfl,h2.ds.mono (hle.trans hle')⟩,h2.rc.mono (hle.trans hle')⟩ hcv hK
 . exact hF.elim
def Gw(l:Nat)(KF:cL->aa->Prop):Exit->St->Prop
 |.leave jump,s=>s.D=[]/\s.rc=.no/\∃a,s.σ l=some (.loop a)/\KF (.val (.lit (.bool jump.isNone))) (s.σ.set l (.loop {a with state:=if jump.isNone then .ready else .done,pending:=jump}))
 |.panic v,s=>s.D=[]/\s.rc=.no/\KF (.panic v) s.σ
theorem dC.yield{l:Nat}{args:List AV}{σ:aa}{KF:cL->aa->Prop}{a:ln}{fn:Func}(hf:P.funcs[a.fn]?=some fn)(hl:σ l=some (.loop a))(hn:args.length=a.params.size)
 (h:Go P m a.fn a.n (some l) [.code a.assign,.beginRound,.code a.body] ⟨fI a.env a.params.toList args,σ,[],.no⟩ (Gw l KF)):dC P m (.fn (.yield l) [] []) args σ KF:=λQ kk O cf cargs fr cs hcf hargs hr hmode hkind htodo hv hp=>by
 cases hcf with
 | fn _ c1 c2 l1 l2 g1 g2 g3 g4=>
   have e1:c1=#[]:=by simpa using g1
   have e2:c2=#[]:=by simpa using g3
   subst e1 e2;refine fg ?_;simp only[Deferred.ofValue];refine af (aj ?_);simp only[invoke,Instr.yield];refine af (lr hr hl λtmps hs he=>?_)
   have hsz:¬(#[]++cargs.toArray).size≠a.params.size:=by simp;rw[hargs.1,hn]
   simp only[if_neg hsz];refine aj λ_=>?_
   obtain⟨q1,q2⟩:=ux a.params.toList cargs args tmps a.env hargs he
   have etm:(a.params.zip (#[]++cargs.toArray)).foldl (λtmps (x:Tmp × Value)=>match x with|(t,a)=>tmps.setIfInBounds t a) tmps=(a.params.toList.zip cargs).foldl (λtmps (x:Tmp × Value)=>tmps.setIfInBounds x.1 x.2) tmps:=by rw[<-Array.foldl_toList];simp[Array.toList_zip]
   show T P m Q kk O (G (Frame.round l a.fn _ a.assign a.body .normal) (fr::cs));rw[etm];refine h Q kk O _ [] .normal (fr::cs) (by simp) ⟨by rw[q1,hs],q2,hr,trivial,trivial⟩ ⟨λk' O' tmps' defs s' todo jump hle hsr hlv hK=>?_,λk' O' tmps' defs s' todo cv av hle hsr hcv hK=>?_⟩
   . obtain⟨hD,hrc,a',ha',hKF⟩:=hK
     rw[hrc];show T P m Q k' O' (G ⟨a.fn,tmps',todo,defs,.run,.normal,some l⟩ (fr::cs))
     refine T.zP (fid:=a.fn) (s:=Instr.endRound l jump) rfl (K:=λv k2 O2=>v=.bool jump.isNone/\k2=k'/\Rel k2 O2 (s'.σ.set l (.loop {a' with state:=if jump.isNone then .ready else .done,pending:=jump})))
      (nxt:=λv w=>.go (G (fr.finish v) cs) w) ?_ ?_ ?_
     . rintro v k2 O2 w2 _ _ ⟨rfl,rfl,hr2⟩
       exact⟨_,rfl,hv k2 O2 _ _ _ hle (.lit _) hr2 hKF⟩
     . intro w v w' hrun
       rcases hlv with⟨rfl,rfl⟩|⟨kk2,rfl,rfl⟩|⟨id,kk2,rfl,hex,rfl⟩
       . simp only[G,stepG,stepG.exec]
         rw[show(Instr.endRound l none).runT P w #[]=(((Instr.endRound l none).runT P w #[]).1,((Instr.endRound l none).runT P w #[]).2)from rfl,hrun]
         rfl
       . simp only[G,stepG,stepG.exec]
         rw[show(Instr.endRound l (some .ret)).runT P w #[]=(((Instr.endRound l (some .ret)).runT P w #[]).1,((Instr.endRound l (some .ret)).runT P w #[]).2)from rfl,hrun]
         rfl
       . simp only[G,stepG,stepG.exec,hex,Option.elim]
         rw[show(Instr.endRound l (some (.exit id))).runT P w #[]=(((Instr.endRound l (some (.exit id))).runT P w #[]).1,((Instr.endRound l (some (.exit id))).runT P w #[]).2)from rfl,hrun]
         rfl
     . unfold Instr.endRound
       refine af (lr hsr.rel ha' λtmps2 hs2 he2=>?_)
       obtain⟨x,hx1,hx2⟩:=hsr.rel.1 l _ ha' (by simp)
       have hxo:∃o,x=.obj o/\gY o=false:=by
        cases hx2 with
        |loop _ _ _ _=>exact⟨_,rfl,rfl⟩
       obtain⟨o,rfl,ho⟩:=hxo;exact af (s:=setObj l _) ⟨⟨o,hx1,ho⟩,rfl,aj ⟨rfl,rfl,hsr.rel.set (.loop {a' with state:=if jump.isNone then .ready else .done,pending:=jump} tmps2 hs2 he2)⟩⟩
   . obtain⟨hD,hrc,hKF⟩:=hK
     rw[hrc]
     have hd:defs=[]:=by
      have:=hsr.ds;rw[hD]at this;cases defs with
      |nil=>rfl
      |cons _ _=>exact this.elim
     subst hd;refine T.dD (g':=G (fr.raise [⟨cv,false,false⟩]) cs) rfl (λw=>?_) (hp k' O' cv av _ hle hcv hsr.rel hKF)
     have hcat:Frame.catches P ⟨a.fn,tmps',todo,[],.panicking [⟨cv,false,false⟩],.normal,some l⟩=false:=by simp[Frame.catches,hf]
     simp only[G,stepG,unwind,hcat,fM];rfl
theorem Go.beginRound{l:Nat}{a:ln}(hl:s.σ l=some (.loop a))(ha:a.state=.ready)(h:Go P m fid n (some l) k {s with σ:=s.σ.set l (.loop {a with state:=.busy})} K):Go P m fid n (some l) (.beginRound::k) s K:=
 λQ kk O tmps defs kind cs h1 h2 h3=>by
 refine T.ov (s:=(do (Option.elim (some l) (stuck  "beginRound: no round") Instr.beginRound);pure .skip)) (λw=>by simp only[G,stepG,stepG.exec]) (fg ?_)
 simp only[Option.elim];refine af ?_;unfold Instr.beginRound;refine af (lr h2.rel hl λtmps2 hs2 he2=>?_);obtain⟨x,hx1,hx2⟩:=h2.rel.1 l _ hl (by simp)
 have hxo:∃o,x=.obj o/\gY o=false:=by
  cases hx2 with
  |loop _ _ _ _=>exact⟨_,rfl,rfl⟩
 obtain⟨o,rfl,ho⟩:=hxo;refine af (s:=setObj l _) ⟨⟨o,hx1,ho⟩,rfl,?_⟩;simp only[ha];refine aj (aj (aj λ_=>?_));exact h Q kk _ tmps defs kind cs h1 ⟨h2.size,h2.env,h2.rel.set (.loop {a with state:=.busy} tmps2 hs2 he2),h2.ds,h2.rc⟩ h3
theorem iN{α:Type}{g:Program->Sem α}{w:World}{es:Array Event}:(program >>=g).runT P w es=(g P).runT P w es:=rfl
theorem uw.func{f:FuncId}{fn:Func}{cap args:List AV}{md:Md}{σ:aa}{KD:Md->aa->Prop}(hf:P.funcs[f]?=some fn)(hb:fn.body.isSome=true)(hnm:(fn.name==  "runtime.NumGoroutine")=false)
 (h:aA P m f (args++cap) σ (λr σ'=>match r with|.val _=>KD md σ'|.panic _=>False)):uw P m (.func f) cap args md σ KD:=λQ k O fr cs cc ca hkind hmd hcc hca hr hK=>by
 refine .step (λk' O' x=>T P m Q k' O' x) rfl (λ_ _ _ h=>h) λw hw=>?_
 have hb':fn.body.isNone=false:=by cases hx:fn.body<;>simp_all
 have hinv:(invoke (.fn (.func f) cc.toArray) ca.toArray).runT P w #[]=(.ok (.enter f (ca++cc).toArray) w,#[]):=by show Sem.runT P (callFunc f (ca.toArray++cc.toArray)) w #[]=_;unfold callFunc;rw[iN,hf];simp only[hnm,hb',Bool.false_eq_true,if_false];simp
 have hstep:∀g',stepG P m.main (G {fr with defers:={target:=.fn (.func f) cc.toArray,args:=ca.toArray}::fr.defers} cs) w=.go (G (Frame.enter P f (ca++cc).toArray .deferred) (fr::cs)) w #[]\/g':=λg'=>by
  left;have hm:fr.mode≠.run:=λe=>by rw[e]at hmd;cases md<;>exact hmd.elim
  obtain⟨fn',tmps,todo,defs,mode,kind,ro⟩:=fr;cases mode with
  |run=>exact absurd rfl hm
  |_=>simp only[G,stepG,unwind,callDeferred,hinv];simp;rfl
 refine⟨_,w,#[],k,O,(hstep False).resolve_right (λx=>x),.refl ..,hw,?_⟩
 refine h Q k O (ca++cc) fr cs .deferred (by simp) (hca.append hcc) hr (λk' O' cv av σ' hle hcv hr' hKv=>?_) (λk' O' cv av σ' hle hcv hr' hKv=>hKv.elim)
 have hback:kw fr=fr:=by
  unfold kw;cases hmm:fr.mode with
  | panicking ch=>
    rw[hmm]at hmd;cases md with
    |ret=>exact hmd.elim
    |Ly v=>obtain⟨cv',rfl,_⟩:=hmd;rfl
  |_=>rfl
 show T P m Q k' O' (G (kw fr) cs);rw[hback];have:=hK k' O' md σ' fr.mode hle (hmd.mono hle) hr' hKv;simpa using this
end
end Go.aN

/- Part 12 of the proof. -/
import Derived.Carry
import Derived.Test.YtigilmjkokbblaaGreatDoorK11
set_option linter.all false
namespace Go.bd
open Go.Conc Go.ChangeShapes Go.WideShapes Go.RowKit
def nk(P:Program):Nat->TypeId->AV->Prop
 |0,_,_=>False
 | n+1,t,b=>match P.underlying t with
   |some (.int k)=>k=.i64/\∃z:Int,b=.lit (.int .i64 z)/\-9223372036854775808<=z/\z<=9223372036854775807
   |some .bool=>∃z:Bool,b=.lit (.bool z)
   |some (.slice e)=>∃l:List AV,b=.sl (P.cellsOf e) l .any/\l.length<1152921504606846976/\∀a∈l,nk P n e a
   |some (.struct fs)=>∃l:List AV,b=.agg (flatten l)/\l.length=fs.size/\∀(i:Nat) (f:Field) a,fs[i]?=some f->l[i]?=some a->nk P n f.type a
   |_=>False
def mq(P:Program)(tot:Nat):Nat->List Field->Bool
 |off,[]=>off==tot
 |off,f::r=>f.offset==off && mq P tot (off+P.cellsOf f.type) r
def kM(P:Program):Nat->TypeId->Bool
 |0,_=>false
 | n+1,t=>match P.underlying t with
   |some (.int k)=>k==.i64 && P.cellsOf t==1
   |some .bool=>P.cellsOf t==1
   |some (.slice e)=>P.cellsOf t==1 && decide (0<P.cellsOf e/\0<P.bytesOf e) && kM P n e
   |some (.struct fs)=>mq P (P.cellsOf t) 0 fs.toList && fs.all λf=>kM P n f.type
   |_=>false
theorem nk.toInt{P:Program}{n:Nat}{t:TypeId}{a:AV}(b:P.underlying t=some (.int .i64))(h:nk P (n+1) t a):∃z:Int,a=.lit (.int .i64 z):=by simp only[nk,b]at h;obtain⟨_,z,h,_⟩:=h;exact⟨z,h⟩
theorem nk.toSlice{P:Program}{n kk:Nat}{t e:TypeId}{b:AV}(c:P.underlying t=some (.slice e))(d:P.cellsOf e=kk)(h:nk P (n+1) t b):∃l:List AV,b=.sl kk l .any/\l.length<1152921504606846976/\∀a∈l,nk P n e a:=by unfold nk at h;simp only[c]at h;subst d;exact h
theorem nk.yv{P:Program}{n:Nat}{t:TypeId}{fs:Array Field}{ts:List TypeId}{d:AV}(e:P.underlying t=some (.struct fs))(c:fs.toList.map (·.type)=ts)(h:nk P (n+1) t d):∃l:List AV,d=.agg (flatten l)/\l.length=ts.length/\∀(i:Nat) t a,ts[i]?=some t->l[i]?=some a->nk P n t a:=by
 unfold nk at h;simp only[e]at h;subst c;obtain⟨l,g,j,k⟩:=h;refine⟨l,g,by simpa using j,λi t a b m=>?_⟩;simp only[List.getElem?_map,Option.map_eq_some_iff,Array.getElem?_toList]at b;obtain⟨f,b,rfl⟩:=b;exact k i f a b m
theorem vR{α:Type}{p:α->Prop}{f:α->AV}:∀{l:List AV},(∀a∈l,∃x,a=f x/\p x)->∃xs:List α,l=xs.map f/\∀x∈xs,p x
 |[],_=>⟨[],rfl,by simp⟩
 | a::l,h=>by
   obtain⟨x,rfl,c⟩:=h a (by simp);obtain⟨xs,rfl,b⟩:=vR (l:=l) λa d=>h a (by simp[d])
   exact⟨x::xs,rfl,by simpa using⟨c,b⟩⟩
section
variable{H:Type}{enc:TypeId × Value->H}{P:Program}{W:World}
theorem fN{base:Nat}{a:Addr}{n:Nat}{l:List Value}(h:W.cells? base a n=some l):l.length=n/\∀i,i<n->W.cell? (a.add i)=l[i]?:=by
 unfold World.cells? at h;split at h
 . exact⟨by have:=mapM_some_length h;rwa [List.length_range]at this,λi b=>mapM_some_get h i i (List.getElem?_range b)⟩
 . cases h
theorem kN{a:Addr}{v:Value}(h:W.cell? a=some v):a.spot=none/\∃E N,W.shape? a.block=some (E,N)/\a.off<N:=by
 unfold World.cell? at h;unfold World.shape?;split at h
 . next c e fr d=>
   split at h
   . cases h
   . next b=>refine⟨by simpa using b,e,c.size,rfl,(Array.getElem?_eq_some_iff.1 h).1⟩
 . cases h
def rV(W:World)(cs:List Value)(b:AV):Prop:=b.cells.length=cs.length/\∀(j:Nat) v a,cs[j]?=some v->b.cells[j]?=some a->V (ah.all W) v a/\bd.flat v=true
theorem rV.app{cs b:List Value}{l c:List AV}(h:l.length=cs.length/\∀(j:Nat) v a,cs[j]?=some v->l[j]?=some a->V (ah.all W) v a/\bd.flat v=true)
 (f:c.length=b.length/\∀(j:Nat) v a,b[j]?=some v->c[j]?=some a->V (ah.all W) v a/\bd.flat v=true):
 (l++c).length=(cs++b).length/\∀(j:Nat) v a,(cs++b)[j]?=some v->(l++c)[j]?=some a->V (ah.all W) v a/\bd.flat v=true:=by
 refine⟨by simp[h.1,f.1],λj v a d e=>?_⟩;by_cases g:j<cs.length
 . rw[List.getElem?_append_left g]at d
   rw[List.getElem?_append_left (by rw[h.1];exact g)]at e;exact h.2 j v a d e
 . rw[List.getElem?_append_right (by omega)]at d
   rw[List.getElem?_append_right (by rw[h.1];omega),h.1]at e;exact f.2 _ v a d e
theorem p9{tot:Nat}{cs:List Value}{Q:Field->List Value->AV->Prop}(e:cs.length=tot):∀(fs:List Field) (off:Nat),mq P tot off fs=true->off<=tot ->
 (∀f∈fs,∃a,Q f ((cs.drop f.offset).take (P.cellsOf f.type)) a/\rV W ((cs.drop f.offset).take (P.cellsOf f.type)) a/\((cs.drop f.offset).take (P.cellsOf f.type)).length=P.cellsOf f.type) ->
 ∃ l:List AV,l.length=fs.length/\(∀(i:Nat) (f:Field) a,fs[i]?=some f->l[i]?=some a->Q f ((cs.drop f.offset).take (P.cellsOf f.type)) a)/\(flatten l).length=(cs.drop off).length/\
   ∀(j:Nat) v a,(cs.drop off)[j]?=some v->(flatten l)[j]?=some a->V (ah.all W) v a/\bd.flat v=true
 |[],off,h,_,_=>by simp[mq]at h;subst h;refine⟨[],rfl,λi f a k=>by simp at k,by simp[flatten,e],λj v a k o=>by simp[flatten]at o⟩
 | f ::fs,off,h,u,c=>by
   simp only[mq,Bool.and_eq_true,beq_iff_eq]at h;obtain⟨k,o⟩:=h;subst k;obtain⟨a,p,q,r⟩:=c f (by simp)
   have g:f.offset+P.cellsOf f.type<=tot:=by simp only[List.length_take,List.length_drop]at r;omega
   obtain⟨l,w,x,y,z⟩:=p9 e fs _ o g λs t=>c s (by simp[t])
   have b:cs.drop f.offset=(cs.drop f.offset).take (P.cellsOf f.type)++cs.drop (f.offset+P.cellsOf f.type):=by rw[<-List.drop_drop,List.take_append_drop]
   have d:=rV.app (W:=W) q ⟨y,z⟩;refine⟨a::l,by simp[w],λi s A m n=>?_,?_,?_⟩
   . cases i with
     |zero=>simp at m n;subst m;subst n;exact p
     |succ i=>simp at m n;exact x i s A m n
   . rw[b];simpa[flatten]using d.1
   . rw[b];simpa[flatten]using d.2
theorem kO{e:TypeId}{d:DataW H}:∀{ds:List (DataW H)},d∈ds->∀k∈d.weights P e,k∈DataW.weightsAll P e ds
 | d0::ds,hd,k,a=>by
   simp only[DataW.weightsAll,List.mem_append];rcases List.mem_cons.1 hd with rfl|h
   . exact .inl a
   . exact .inr (kO h k a)
theorem kP:∀{ts us:List TypeId}{ds gs:List (DataW H)},∀k∈DataW.weightsEach P ts ds,k∈DataW.weightsEach P (ts++us) (ds++gs)
 | t::ts,us,d::ds,gs,k,a=>by
   simp only[DataW.weightsEach,List.mem_append,List.cons_append]at a ⊢;rcases a with h|h
   . exact .inl h
   . exact .inr (kP k h)
 |[],_,_,_,_,a=>by simp[DataW.weightsEach]at a
 |_::_,_,[],_,_,a=>by simp[DataW.weightsEach]at a
theorem rW:∀ (n:Nat) (t:TypeId) (fuel:Nat) (cs:List Value) (x:DataW H × List MemPlace),kM P n t=true->(∀k∈x.1.weights P t,k<=reachBytes)->DataW.trod enc P W 0 (λ_=>true) true fuel t cs=some x ->
 cs.length=P.cellsOf t/\∃d,nk P n t d/\rV W cs d
 |0,_,_,_,_,h,_,_=>by cases h
 | n + 1, t, fuel,cs,x,y,hz,h=>by
   unfold kM at y;unfold nk;split at y
   . next k s=>
     simp only[Bool.and_eq_true,beq_iff_eq]at y;obtain⟨rfl,hc⟩:=y;obtain⟨z,rfl,_,T⟩:=DataW.trod_int s h
     have hb:-9223372036854775808<=z/\z<=9223372036854775807:=by simp[Lit.wf,IntKind.min,IntKind.max,IntKind.signed,IntKind.bits]at T;omega
     refine⟨by simp[hc],_,⟨rfl,z,rfl,hb.1,hb.2⟩,rfl,λj v a g q=>?_⟩
     cases j with
     |zero=>simp[AV.cells]at g q;subst g;subst q;exact⟨.lit _,rfl⟩
     |succ j=>simp at g
   . next s=>
     simp only[beq_iff_eq]at y;obtain⟨z,rfl,_⟩:=DataW.trod_bool s h;refine⟨by simp[y],_,⟨z,rfl⟩,rfl,λj v a g q=>?_⟩
     cases j with
     |zero=>simp[AV.cells]at g q;subst g;subst q;exact⟨.lit _,rfl⟩
     |succ j=>simp at g
   . next e s=>
     simp only[Bool.and_eq_true,beq_iff_eq,decide_eq_true_eq]at y;obtain⟨⟨hc,r,ad⟩,al⟩:=y
     rcases DataW.trod_slice s h with⟨rfl,_⟩|⟨a,len,cap,elems,rest,m,rfl,rfl,K,_,U,hm,b5,he,hr,_⟩
     . refine⟨by simp[hc],_,⟨[],rfl,by simp,by simp⟩,rfl,λj v a g q=>?_⟩
       cases j with
       |zero=>simp[AV.cells]at g q;subst g;subst q;exact⟨.Uw _,rfl⟩
       |succ j=>simp at g
     . obtain ⟨b6,hr⟩:=hr rfl
       subst K
       have key:∀i,i<len->∃d,nk P n e d/\∃l,W.cells? 0 (a.add (i*P.cellsOf e)) (P.cellsOf e)=some l/\rV W l d:=λi w=>by
        have g:=he i w;rw[List.getElem?_eq_getElem (by omega),Option.bind_eq_some_iff]at g
        obtain⟨l,o,A⟩:=g;obtain⟨_,d,p,X⟩:=rW n e m l _ al (λk hk=>hz k (by show k∈DataW.weights P t (.slice _ _);rw[DataW.weights,s];simp only[List.mem_cons,List.mem_append];exact .inr (.inl (kO (List.mem_map_of_mem (List.getElem_mem _)) k hk)))) A
        exact⟨d,p,l,o,X⟩
       have G:∀i,i<cap->∃l,W.cells? 0 (a.add (i*P.cellsOf e)) (P.cellsOf e)=some l:=λi w=>by
        by_cases C:i<len
        . obtain⟨_,_,l,o,_⟩:=key i C
          exact⟨l,o⟩
        . have g:=hr (i-len) (by omega)
          rw[List.getElem?_eq_getElem (by omega),Option.bind_eq_some_iff]at g
          obtain⟨l,o,_⟩:=g;rw[show len+(i-len)=i by omega]at o
          exact⟨l,o⟩
       have M:∃L:List AV,L.length=len/\∀i d,L[i]?=some d->nk P n e d/\∃l,W.cells? 0 (a.add (i*P.cellsOf e)) (P.cellsOf e)=some l/\rV W l d:=by
        have:∀k,k<=len->∃L:List AV,L.length=k/\∀i d,L[i]?=some d->nk P n e d/\∃l,W.cells? 0 (a.add (i*P.cellsOf e)) (P.cellsOf e)=some l/\rV W l d:=by
         intro k
         induction k with
         |zero=>intro _;exact⟨[],rfl,λi d h=>by simp at h⟩
         | succ k ih=>
           intro hk;obtain⟨L,D,B⟩:=ih (by omega)
           obtain⟨d,p⟩:=key k (by omega)
           refine⟨L++[d],by simp[D],λi ax h=>?_⟩
           by_cases w:i<L.length
           . rw[List.getElem?_append_left w]at h;exact B i ax h
           . rw[List.getElem?_append_right (by omega)]at h
             have:i=L.length:=by have:=(List.getElem?_eq_some_iff.1 h).1;simp at this;omega
             subst this;simp at h;subst h;rw[D];exact p
        exact this len (Nat.le_refl _)
       obtain⟨L,D,B⟩:=M
       have F:L.length<1152921504606846976:=by
        have g:=hz ((elems.length+rest.length)*P.bytesOf e) (by show _∈DataW.weights P t (.slice _ _);rw[DataW.weights,s];simp)
        have q:(elems.length+rest.length)*1<=(elems.length+rest.length)*P.bytesOf e:=Nat.mul_le_mul_left _ ad;have:=reachBytes_lt;omega
       refine⟨by simp[hc],.sl (P.cellsOf e) L .any,⟨L,rfl,F,λd p=>?_⟩,rfl,λj v d g q=>?_⟩
       . obtain⟨i,w⟩:=List.mem_iff_getElem?.1 p
         exact(B i d w).1
       . cases j with
         |succ j=>simp at g
         |zero=>
         simp[AV.cells]at g q;subst g;subst q;refine⟨?_,rfl⟩
         rcases Nat.eq_zero_or_pos cap with h0|h0
         . have O:len=0:=by omega
           have:L=[]:=List.eq_nil_of_length_eq_zero (by omega)
           subst this;subst h0;subst O;exact .slnil _ _ _ (.inl rfl)
         . obtain⟨b,off,sp⟩:=a
           have Y:∀i j,i<cap->j<P.cellsOf e->∃u,W.cell? ⟨b,off+i*P.cellsOf e+j,none⟩=some u/\sp=none:=λi j w hj=>by
            obtain⟨l0,O⟩:=G 0 h0;obtain⟨q1,q2⟩:=fN O;have Z:=q2 0 r;rw[List.getElem?_eq_getElem (by omega)]at Z
            simp[Addr.add]at Z;have hs:sp=none:=(kN Z).1;subst hs;obtain⟨l,U⟩:=G i w;obtain⟨r1,r2⟩:=fN U;have r3:=r2 j hj;rw[List.getElem?_eq_getElem (by omega),add_plain,add_plain]at r3
            exact⟨_,r3,rfl⟩
           obtain⟨_,_,hs⟩:=Y 0 0 h0 r;subst hs;obtain⟨u,s,_⟩:=Y (cap-1) (P.cellsOf e-1) (by omega) (by omega)
           obtain⟨_,E,N,ay,hN⟩:=kN s
           have b0:off+cap*P.cellsOf e<=N:=by
            have hN:off+(cap-1)*P.cellsOf e+(P.cellsOf e-1)<N:=hN
            have:cap*P.cellsOf e=(cap-1)*P.cellsOf e+P.cellsOf e:=by
             obtain⟨c,rfl⟩:∃c,cap=c+1:=⟨cap-1,by omega⟩
             rw[Nat.add_mul];simp
            omega
           have T:∀d∈L,d.cells.length=P.cellsOf e:=λd p=>by obtain⟨i,w⟩:=List.mem_iff_getElem?.1 p;obtain⟨_,l,o,A⟩:=B i d w;rw[A.1,(fN o).1]
           have b1:=aZ T
           have R:∀(j:Nat) d,(flatten L)[j]?=some d->∃u,(ah.all W).cell b (off+j)=some u/\V (ah.all W) u d/\bd.flat u=true:=λj d hj=>by
            have a7:=(List.getElem?_eq_some_iff.1 hj).1;rw[b1]at a7;have hdiv:j / P.cellsOf e<L.length:=(Nat.div_lt_iff_lt_mul r).2 a7;have I:j % P.cellsOf e<P.cellsOf e:=Nat.mod_lt _ r;have b2:j=j / P.cellsOf e*P.cellsOf e+j % P.cellsOf e:=by rw[Nat.mul_comm];exact(Nat.div_add_mod _ _).symm
            have J:=iO T (List.getElem?_eq_getElem hdiv) (j % P.cellsOf e) I;rw[<-b2,hj]at J;obtain⟨_,l,o,A⟩:=B _ _ (List.getElem?_eq_getElem hdiv);obtain⟨r1,r2⟩:=fN o;have r3:=r2 _ I;rw[List.getElem?_eq_getElem (by omega),add_plain,add_plain]at r3
            have hv:=A.2 _ _ d (List.getElem?_eq_getElem (by omega)) J.symm
            refine⟨_,?_,hv⟩;show W.cell? ⟨b,off+j,none⟩=_;rw[<-r3];congr 2;omega
           have a8:=V.ofRow (k:=ah.all W) (b:=b) (off:=off) (cap:=cap) (kk:=P.cellsOf e) (N:=N) (E:=E) (es:=L) (sp:=.any) (by omega) ay b0 T R trivial
           rw[D]at a8;exact a8
   . next fs s=>
     rw[Bool.and_eq_true,Array.all_eq_true_iff_forall_mem]at y;obtain⟨b3,a9⟩:=y;obtain⟨xs,m,rfl,K,U,b4,hx⟩:=DataW.trod_struct s h;subst K;refine⟨U,?_⟩
     obtain⟨l,g1,g2,g3,g4⟩:=p9 (P:=P) (W:=W) (tot:=P.cellsOf t) (cs:=cs) (Q:=λf _ a=>nk P n f.type a) U fs.toList 0 b3 (Nat.zero_le _) λf hf=>by
      obtain⟨i,w⟩:=List.mem_iff_getElem?.1 hf;have S:fs[i]?=some f:=by simpa using w
      have g:=hx i f S;have C:i<xs.length:=by rw[b4];exact(Array.getElem?_eq_some_iff.1 S).1
      rw[List.getElem?_eq_getElem C]at g;obtain⟨q1,a,q2,Z⟩:=rW n f.type m _ _ (a9 f (by simpa using hf)) (λk hk=>hz k (by show k∈DataW.weights P t (.agg _);rw[DataW.weights,s];exact DataW.weights_mem_each (j:=i) (t:=f.type) (by simp[S]) (by simp[List.getElem?_eq_getElem C]) k hk)) g
      exact⟨a,q2,Z,q1⟩
     refine⟨.agg (flatten l),⟨l,rfl,by simpa using g1,λi f a g q=>g2 i f a (by simpa using g) q⟩,?_⟩
     rw[List.drop_zero]at g3 g4;exact⟨g3,g4⟩
   . cases y
theorem Nl{n base:Nat}{t:TypeId}{v:Value}{d:DataW H}{p:List MemPlace}(q:kM P n t=true)(r:∀k∈d.weights P t,k<=reachBytes)(b:Value.okWide P W .any base t v)(h:DataW.Trod enc P W 0 (λ_=>true) true t v d p):∃g,nk P n t g/\V (ah.all W) v g:=by
 obtain⟨fuel,s⟩:=h;obtain⟨u,g,c,f⟩:=rW n t fuel _ _ q r s;refine⟨g,c,?_⟩;have one:v.cells=#[v]->g.cells=[g]->V (ah.all W) v g:=λm o=>(f.2 0 v g (by rw[m];rfl) (by rw[o];rfl)).1
 cases n with
 |zero=>cases q
 |succ n=>
 unfold nk at c;split at c
 . next k j=>obtain⟨rfl,z,rfl,_⟩:=c;refine one ?_ rfl;simp only[Value.okWide,j,Cell.okWide,Cell.ok]at b;cases v<;>first|rfl|exact b.elim
 . next j=>obtain⟨z,rfl⟩:=c;refine one ?_ rfl;simp only[Value.okWide,j,Cell.okWide,Cell.ok]at b;cases v<;>first|rfl|exact b.elim
 . next e j=>obtain⟨l,rfl,_⟩:=c;refine one ?_ rfl;simp only[Value.okWide,j,Cell.okWide,Cell.ok]at b;cases v<;>first|rfl|exact b.elim
 . next fs j=>obtain⟨l,rfl,_⟩:=c;simp only[Value.okWide,j]at b;obtain⟨cs,rfl,_⟩:=b;exact .agg cs _ (by simpa[Value.cells,AV.cells]using f.1.symm) λi v a m o=>(f.2 i v a (by simpa[Value.cells]using m) o).1
 . cases c
theorem yw{n base:Nat}:∀(ts:List TypeId) (vs:List Value) (ds:List (DataW H)) (l:List MemPlace),DataW.TrodAll enc P W 0 (λ_=>true) true ts vs ds l->(∀t∈ts,kM P n t=true)->(∀k∈DataW.weightsEach P ts ds,k<=reachBytes) ->
 (∀(j:Nat) t v,ts[j]?=some t->vs[j]?=some v->Value.okWide P W .any base t v)->∃b:List AV,b.length=ts.length/\(∀(i:Nat) t a,ts[i]?=some t->b[i]?=some a->nk P n t a)/\Vs (ah.all W) vs b
 |[],vs,ds,l,h,_,_,_=>by obtain⟨rfl,_,_⟩:=trodAll_nil h;exact⟨[],rfl,λi t a h=>by simp at h,.nil⟩
 | t::ts,vs,ds,l,h,y,z,e=>by
   obtain⟨v,m,d,o,p,q,rfl,rfl,rfl,hd,c⟩:=trodAll_cons h;obtain⟨a,r,s⟩:=Nl (y t (by simp)) (λk u=>z k (by simp[DataW.weightsEach,u])) (e 0 t v rfl rfl) hd;obtain⟨b,w,x,A⟩:=yw ts m o q c (λt B=>y t (by simp[B])) (λk u=>z k (by simp[DataW.weightsEach,u])) λj t v w x=>e (j+1) t v (by simpa using w) (by simpa using x)
   refine⟨a::b,by simp[w],λi C D f g=>?_,.cons s A⟩;cases i with
   |zero=>simp at f g;subst f;subst g;exact r
   |succ i=>simp at f g;exact x i C D f g
theorem qa:∀(ts:List TypeId) (vs:List Value) (ds:List (DataW H)) (b:List MemPlace),DataW.TrodAll enc P W 0 (λ_=>true) true ts vs ds b->ds.length=ts.length
 |[],vs,ds,b,h=>by obtain⟨rfl,rfl,rfl⟩:=trodAll_nil h;rfl
 |t::ts,vs,ds,b,h=>by obtain⟨v,c,d,e,p,q,rfl,rfl,rfl,hd,a⟩:=trodAll_cons h;simp[qa ts c e q a]
theorem nX{l:World}(m:laidOutB P=true)(a:∀p:MemPlace,p.block<W.heap.size->W.sameAt l p):∀(ts:List TypeId) (vs:List Value) (ds:List (DataW H)) (f:List MemPlace),DataW.TrodAll enc P W 0 (λ_=>true) true ts vs ds f->(∀t∈ts,P.readableRec t=true/\t<P.types.size) ->
 DataW.TrodAll enc P l 0 (λb=>decide (b<W.heap.size)) true ts vs ds f
 |[],vs,ds,f,h,_=>by obtain⟨rfl,rfl,rfl⟩:=trodAll_nil h;exact trodAll_mk0
 |t::ts,vs,ds,f,h,g=>by have e:=DataW.TrodAll.lt h;obtain⟨v,i,d,j,p,q,rfl,rfl,rfl,hd,c⟩:=trodAll_cons h;exact⟨p,q,WideElems.Trod_stays m (g t (by simp)).1 (g t (by simp)).2 hd (λx k=>a x (e x (by simp[k]))) (λx k=>by simpa using e x (by simp[k])),nX m a ts i j q c (λt n=>g t (by simp[n])),rfl⟩
end
section
variable{H:Type}{enc:TypeId × Value->H}
theorem uD{C:Checked}(L:iG C.prog){f:FuncId}{fn:Func}{s:ChangeSpec}{tb:TypeId}{r n:Nat}{apart fresh:Bool}{σ0:aa}(A:C.prog.funcs[f]?=some fn)(V:C.prog.inits.idxOf? f=none)(B:laidOutB C.prog=true)
 (d:fn.params.toList.all (λt=>kM C.prog n t && C.prog.readableRec t && decide (t<C.prog.types.size))=true) (D:fn.resultTypes=#[tb]) (E:C.prog.underlying tb=some .bool) (m:fn.results=#[.tmp r]) (X:r<fn.ntmps) (e:s.vars=[]) (c:∀ds:List (DataW H),ds.length=fn.params.size->s.fn H ds={results:=[.lit (.bool true)],args:=ds})
 (law:∀g:List AV,g.length=fn.params.size->(∀(i:Nat) t a,fn.params[i]?=some t->g[i]?=some a->nk C.prog n t a)->oY C.prog L ye f g σ0 (λres _=>res=.val (.lit (.bool true))))
 (W:World) (Y:Rel (ah.all W) ai.bot σ0) (base:Nat) (args:Array Value) (ds gs:List (DataW H)) (before:List MemPlace)
 (u:∀(j:Nat) t v,fn.params[j]?=some t->args[j]?=some v->Value.okWide C.prog W .any base t v)
 (Q:DataW.Whole enc C.prog fn.params.toList s.vars apart W args.toList ds gs before)
 (Z:(DataW.weightsEach C.prog (fn.params.toList++s.plain.varTypes C.prog) (ds++gs)).all (·<=reachBytes)=true):
 ∃ M last o w' z,runNT C.prog (M+1) (solo (G (Frame.enter C.prog f args .normal) []) W) #[]=(.ended o w',z)/\runN C.prog M (solo (G (Frame.enter C.prog f args .normal) []) W)=.next last/\
   step C.prog last=.ended o w'/\Conc.Good C.prog (λv R=>s.post enc C.prog fn apart fresh false false W args v {R with os:=W.os}/\ConcM.OsLater W.os R.os) last o w' z:=by
 have F:=Q;obtain⟨p,q,I,S,rfl,_,_⟩:=Q;have J:DataW.TrodAll enc C.prog W 0 (λ_=>true) true fn.params.toList args.toList ds p:=I
 rw[e]at S;obtain⟨rfl,rfl⟩:=trodVars_none S;rw[List.all_eq_true]at d
 have T:∀t∈fn.params.toList,kM C.prog n t=true/\C.prog.readableRec t=true/\t<C.prog.types.size:=λt y=>by have:=d t y;simp only[Bool.and_eq_true,decide_eq_true_eq]at this;exact⟨this.1.1,this.1.2,this.2⟩
 have hlen:=qa _ _ _ _ J;obtain⟨g,h1,h2,h3⟩:=yw fn.params.toList args.toList ds p J (λt y=>(T t y).1) (λk hk=>by simpa using List.all_eq_true.1 Z k (kP k hk)) λj t v K N=>u j t v (by simpa using K) (by simpa using N)
 obtain⟨M,last,o,w',z,g1,g2,g3,g4⟩:=Hk L (cargs:=args.toList) A V m X (law g (by simpa using h1) λi t a K N=>h2 i t a (by simpa using K) N) (W:=W) h3 Y
 refine⟨M,last,o,w',z,g1,g2,g3,g4.mono λv hp=>?_⟩
 obtain⟨⟨k,av,σ,O,P⟩,l⟩:=hp;cases P;cases O;refine⟨⟨ds,[],_,[],p,[],F,?_,?_,?_,l.kept _,λh=>by cases h⟩,l.os⟩
 . rw[D]
   rw[List.append_nil];show DataW.TrodAll enc C.prog _ _ _ _ [tb] [.bool true] (s.fn H ds).results [];rw[c ds (by rw[hlen];simp)]
   exact trodAll_mk1 (shut_bool E true)
 . rw[List.append_nil]
   show DataW.TrodAll enc C.prog _ _ _ _ _ _ (s.fn H ds).args _;rw[c ds (by rw[hlen];simp)]
   refine nX B (λx U=>?_) _ _ _ _ J λt y=>(T t y).2
   cases x with
   |cell b o=>exact World.cell?_of_block (w:=W) (l.block b U)
   |map b=>exact l.block b U
 . rw[e]
   rw[List.append_nil];show DataW.TrodVars enc C.prog _ _ [] (s.fn H ds).vars [];rw[c ds (by rw[hlen];simp)]
   rfl
end
end Go.bd
namespace Go.Proofs.YtigilmjkokbblaaGreatDoor
open Go.Proofs.Tryz (prog)
open Go Go.bd
set_option maxRecDepth 100000
theorem lf{n:Nat}{a:AV}(h:nk prog (n+1) 3 a):∃z,a=int z:=h.toInt Tryz.underlying3
theorem vS{n:Nat}{b:AV}(h:nk prog (n+2) 28 b):∃l,b=ints l/\l.length<1152921504606846976:=by
 obtain⟨l,rfl,c,d⟩:=h.toSlice (kk:=1) Tryz.underlying28 (by kernel_rfl);obtain⟨xs,rfl,_⟩:=vR (l:=l) (f:=int) (p:=λ_=>True) λa e=>(lf (d a e)).imp λz h=>⟨h,trivial⟩
 exact⟨xs,rfl,by simpa using c⟩
theorem Ej{n:Nat}{j:AV}(h:nk prog (n+3) 30 j):∃e:gX,j=aW e/\e.marks.length<1152921504606846976:=by
 obtain⟨l,rfl,k,a⟩:=h.yv (ts:=[3,3,3,28,3,3]) Tryz.underlying30 (by kernel_rfl)
 obtain⟨b,c,d,f,g,i,rfl⟩:∃b c d f g i,l=[b,c,d,f,g,i]:=by
  match l,k with
  |[b,c,d,f,g,i],_=>exact⟨_,_,_,_,_,_,rfl⟩
 obtain⟨m,rfl⟩:=lf (a 0 _ b rfl rfl);obtain⟨o,rfl⟩:=lf (a 1 _ c rfl rfl);obtain⟨p,rfl⟩:=lf (a 2 _ d rfl rfl);obtain⟨q,rfl,r⟩:=vS (a 3 _ f rfl rfl);obtain⟨s,rfl⟩:=lf (a 4 _ g rfl rfl);obtain⟨t,rfl⟩:=lf (a 5 _ i rfl rfl);exact⟨⟨m,o,p,q,s,t⟩,rfl,r⟩
theorem O9{n:Nat}{q:AV}(h:nk prog (n+5) 27 q):∃f:Fr,q=aC f/\f.Fits:=by
 obtain⟨l,rfl,t,b⟩:=h.yv (ts:=[22,23,25,3,3]) Tryz.underlying27 (by kernel_rfl)
 obtain⟨c,d,e,g,i,rfl⟩:∃c d e g i,l=[c,d,e,g,i]:=by
  match l,t with
  |[c,d,e,g,i],_=>exact⟨_,_,_,_,_,rfl⟩
 obtain⟨u,rfl,v,w⟩:=(b 0 _ c rfl rfl).toSlice (kk:=6) Tryz.underlying22 (by kernel_rfl);obtain⟨es,rfl,m⟩:=vR (l:=u) (f:=aW) λa o=>Ej (w a o)
 obtain⟨x,rfl,y,z⟩:=(b 1 _ d rfl rfl).toSlice (kk:=1) Tryz.underlying23 (by kernel_rfl);obtain⟨rs,rfl,p⟩:=vR (l:=x) (f:=ints) λa o=>vS (z a o)
 obtain⟨r,rfl,A,s⟩:=(b 2 _ e rfl rfl).yv (ts:=[3,3]) Tryz.underlying25 (by kernel_rfl)
 obtain⟨j,k,rfl⟩:∃j k,r=[j,k]:=by
  match r,A with
  |[j,k],_=>exact⟨_,_,rfl⟩
 obtain⟨y0,rfl⟩:=lf (s 0 _ j rfl rfl);obtain⟨B,rfl⟩:=lf (s 1 _ k rfl rfl);obtain⟨C,rfl⟩:=lf (b 3 _ g rfl rfl);obtain⟨D,rfl⟩:=lf (b 4 _ i rfl rfl);exact⟨⟨es,rs,y0,B,C,D⟩,rfl,by simpa using v,by simpa using y,p,m⟩
end Go.Proofs.YtigilmjkokbblaaGreatDoor

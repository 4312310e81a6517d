import Derived.Carry
import Derived.Test.YtkcceaplmgdnfaaGreatDoorK1
set_option linter.all false
namespace Go.bu
open Go.Conc Go.ChangeShapes Go.WideShapes Go.RowKit
def FY(P:Program):Nat->TypeId->AV->Prop
 |0,_,_=>False
 | n+1,t,b=>match P.underlying t with
   |some (.int k)=>k=.i64/\∃z:Int,b=.lit (.int .i64 z)/\-9223372036854775808<=z/\z<=9223372036854775807
   |some .bool=>∃z:Bool,b=.lit (.bool z)
   |some (.slice e)=>∃l:List AV,b=.sl (P.cellsOf e) l .any/\l.length<1152921504606846976/\∀a∈l,FY P n e a
   |some (.struct fs)=>∃l:List AV,b=.agg (flatten l)/\l.length=fs.size/\∀(i:Nat) (f:Field) a,fs[i]?=some f->l[i]?=some a->FY P n f.type a
   |_=>False
def vq(P:Program)(tot:Nat):Nat->List Field->Bool
 |off,[]=>off==tot
 |off,f::r=>f.offset==off && vq P tot (off+P.cellsOf f.type) r
def ti(P:Program):Nat->TypeId->Bool
 |0,_=>false
 | n+1,t=>match P.underlying t with
   |some (.int k)=>k==.i64 && P.cellsOf t==1
   |some .bool=>P.cellsOf t==1
   |some (.slice e)=>P.cellsOf t==1 && decide (0<P.cellsOf e/\0<P.bytesOf e) && ti P n e
   |some (.struct fs)=>vq P (P.cellsOf t) 0 fs.toList && fs.all λf=>ti P n f.type
   |_=>false
section
variable{H:Type}{enc:TypeId × Value->H}{P:Program}{W:World}
theorem mX{base:Nat}{a:Addr}{n:Nat}{l:List Value}(h:W.cells? base a n=some l):l.length=n/\∀i,i<n->W.cell? (a.add i)=l[i]?:=by
 unfold World.cells? at h;split at h
 . exact⟨by have:=mapM_some_length h;grind,λi b=>mapM_some_get h i i (List.getElem?_range b)⟩
 . cases h
theorem tj{a:Addr}{v:Value}(h:W.cell? a=some v):a.spot=none/\∃E N,W.shape? a.block=some (E,N)/\a.off<N:=by
 unfold World.cell? at h;unfold World.shape?;split at h
 . next c e fr b=>
   split at h
   . cases h
   . next d=>refine⟨by simp_all,e,c.size,rfl,(Array.getElem?_eq_some_iff.1 h).1⟩
 . cases h
def C9(W:World)(cs:List Value)(b:AV):Prop:=b.cells.length=cs.length/\∀(j:Nat) v a,cs[j]?=some v->b.cells[j]?=some a->V (ai.all W) v a/\bu.flat v=true
theorem C9.app{cs b:List Value}{l c:List AV}(h:l.length=cs.length/\∀(j:Nat) v a,cs[j]?=some v->l[j]?=some a->V (ai.all W) v a/\bu.flat v=true)
 (d:c.length=b.length/\∀(j:Nat) v a,b[j]?=some v->c[j]?=some a->V (ai.all W) v a/\bu.flat v=true):
 (l++c).length=(cs++b).length/\∀(j:Nat) v a,(cs++b)[j]?=some v->(l++c)[j]?=some a->V (ai.all W) v a/\bu.flat v=true:=by
 grind
theorem AZ{tot:Nat}{cs:List Value}{Q:Field->List Value->AV->Prop}(e:cs.length=tot):∀(fs:List Field) (off:Nat),vq P tot off fs=true->off<=tot ->
 (∀f∈fs,∃a,Q f ((cs.drop f.offset).take (P.cellsOf f.type)) a/\C9 W ((cs.drop f.offset).take (P.cellsOf f.type)) a/\((cs.drop f.offset).take (P.cellsOf f.type)).length=P.cellsOf f.type) ->
 ∃ l:List AV,l.length=fs.length/\(∀(i:Nat) (f:Field) a,fs[i]?=some f->l[i]?=some a->Q f ((cs.drop f.offset).take (P.cellsOf f.type)) a)/\(flatten l).length=(cs.drop off).length/\
   ∀(j:Nat) v a,(cs.drop off)[j]?=some v->(flatten l)[j]?=some a->V (ai.all W) v a/\bu.flat v=true
 |[],off,h,_,_=>by simp[vq]at h;subst h;refine⟨[],rfl,λi f a k=>by simp at k,by simp[flatten,e],λj v a k o=>by simp_all⟩
 | f::fs,off,h,q,c=>by
   simp only[vq,Bool.and_eq_true,beq_iff_eq]at h;obtain⟨k,o⟩:=h;subst k;obtain⟨a,r,m,s⟩:=c f (by simp);have g:f.offset+P.cellsOf f.type<=tot:=by grind
   obtain⟨l,t,x,u,w⟩:=AZ e fs _ o g λp n=>c p (by simp[n])
   have b:cs.drop f.offset=(cs.drop f.offset).take (P.cellsOf f.type)++cs.drop (f.offset+P.cellsOf f.type):=by rw[<-List.drop_drop,List.take_append_drop]
   have d:=C9.app (W:=W) m ⟨u,w⟩;refine⟨a::l,by simp[t],λi p y z A=>?_,?_,?_⟩
   . grind
   . rw[b];simpa[flatten]using d.1
   . rw[b];simpa[flatten]using d.2
theorem tk{e:TypeId}{d:DataW H}:∀{ds:List (DataW H)},d∈ds->∀k∈d.weights P e,k∈DataW.weightsAll P e ds
 | d0::ds,hd,k,a=>by
   simp only[DataW.weightsAll,List.mem_append];rcases List.mem_cons.1 hd with rfl|h
   . grind
   . exact .inr (tk h k a)
theorem tl:∀{b us:List TypeId}{ds gs:List (DataW H)},∀k∈DataW.weightsEach P b ds,k∈DataW.weightsEach P (b++us) (ds++gs)
 | t::b,us,d::ds,gs,k,a=>by
   simp only[DataW.weightsEach,List.mem_append,List.cons_append]at a ⊢;rcases a with h|h
   . exact .inl h
   . exact .inr (tl k h)
 |[],_,_,_,_,a=>by simp[DataW.weightsEach]at a
 |_::_,_,[],_,_,a=>by simp[DataW.weightsEach]at a
theorem C':∀ (n:Nat) (t:TypeId) (fuel:Nat) (cs:List Value) (x:DataW H × List MemPlace),ti P n t=true->(∀k∈x.1.weights P t,k<=reachBytes)->DataW.trod enc P W 0 (λ_=>true) true fuel t cs=some x ->
 cs.length=P.cellsOf t/\∃d,FY P n t d/\C9 W cs d
 |0,_,_,_,_,h,_,_=>by cases h
 | n + 1, t, fuel,cs,x,r,hz,h=>by
   unfold ti at r;unfold FY;split at r
   . next k q=>
     simp only[Bool.and_eq_true,beq_iff_eq]at r;obtain⟨rfl,hc⟩:=r;obtain⟨z,rfl,_,O⟩:=DataW.trod_int q h
     have hb:-9223372036854775808<=z/\z<=9223372036854775807:=by simp[Lit.wf,IntKind.min,IntKind.max,IntKind.signed,IntKind.bits]at O;omega
     refine⟨by simp[hc],_,⟨rfl,z,rfl,hb.1,hb.2⟩,rfl,λj v a g o=>?_⟩
     cases j with
     |zero=>simp[AV.cells]at g o;subst g;subst o;exact⟨.lit _,rfl⟩
     |succ j=>simp at g
   . next q=>
     simp only[beq_iff_eq]at r;obtain⟨z,rfl,_⟩:=DataW.trod_bool q h;refine⟨by simp[r],_,⟨z,rfl⟩,rfl,λj v a g o=>?_⟩
     cases j with
     |zero=>simp[AV.cells]at g o;subst g;subst o;exact⟨.lit _,rfl⟩
     |succ j=>simp at g
   . next e q=>
     simp only[Bool.and_eq_true,beq_iff_eq,decide_eq_true_eq]at r;obtain⟨⟨hc,p,a7⟩,a8⟩:=r
     rcases DataW.trod_slice q h with⟨rfl,_⟩|⟨a,len,cap,elems,rest,m,rfl,rfl,G,_,R,hm,ay,he,hr,_⟩
     . refine⟨by simp[hc],_,⟨[],rfl,by simp,by simp⟩,rfl,λj v a g o=>?_⟩
       cases j with
       |zero=>simp[AV.cells]at g o;subst g;subst o;exact⟨.UG _,rfl⟩
       |succ j=>simp at g
     . obtain ⟨b1,hr⟩:=hr rfl
       subst G
       have key:∀i,i<len->∃d,FY P n e d/\∃l,W.cells? 0 (a.add (i*P.cellsOf e)) (P.cellsOf e)=some l/\C9 W l d:=λi y=>by
        have g:=he i y;rw[List.getElem?_eq_getElem (by omega),Option.bind_eq_some_iff]at g
        obtain⟨l,A,s⟩:=g;obtain⟨_,d,w,ax⟩:=C' n e m l _ a8 (λk hk=>hz k (by show k∈DataW.weights P t (.slice _ _);rw[DataW.weights,q];simp only[List.mem_cons,List.mem_append];exact .inr (.inl (tk (List.mem_map_of_mem (List.getElem_mem _)) k hk)))) s
        grind
       have C:∀i,i<cap->∃l,W.cells? 0 (a.add (i*P.cellsOf e)) (P.cellsOf e)=some l:=λi y=>by
        by_cases S:i<len
        . grind
        . have g:=hr (i-len) (by omega)
          rw[List.getElem?_eq_getElem (by omega),Option.bind_eq_some_iff]at g
          grind
       have I:∃L:List AV,L.length=len/\∀i d,L[i]?=some d->FY P n e d/\∃l,W.cells? 0 (a.add (i*P.cellsOf e)) (P.cellsOf e)=some l/\C9 W l d:=by
        have:∀k,k<=len->∃L:List AV,L.length=k/\∀i d,L[i]?=some d->FY P n e d/\∃l,W.cells? 0 (a.add (i*P.cellsOf e)) (P.cellsOf e)=some l/\C9 W l d:=by
         intro k
         induction k with
         |zero=>simp_all
         | succ k ih=>
           intro hk;obtain⟨L,T,J⟩:=ih (by omega)
           obtain⟨d,w⟩:=key k (by omega)
           refine⟨L++[d],by simp[T],λi b2 h=>?_⟩
           by_cases y:i<L.length
           . grind
           . rw[List.getElem?_append_right (by omega)]at h
             grind
        simp_all
       obtain⟨L,T,J⟩:=I
       have B:L.length<1152921504606846976:=by
        have g:=hz ((elems.length+rest.length)*P.bytesOf e) (by show _∈DataW.weights P t (.slice _ _);rw[DataW.weights,q];simp)
        have o:(elems.length+rest.length)*1<=(elems.length+rest.length)*P.bytesOf e:=Nat.mul_le_mul_left _ a7;have:=reachBytes_lt;omega
       refine⟨by simp[hc],.sl (P.cellsOf e) L .any,⟨L,rfl,B,λd w=>?_⟩,rfl,λj v d g o=>?_⟩
       . obtain⟨i,y⟩:=List.mem_iff_getElem?.1 w
         grind
       . cases j with
         |succ j=>simp at g
         |zero=>
         simp[AV.cells]at g o;subst g;subst o;refine⟨?_,rfl⟩
         rcases Nat.eq_zero_or_pos cap with h0|h0
         . have K:len=0:=by omega
           have:L=[]:=List.eq_nil_of_length_eq_zero (by omega)
           subst this;subst h0;subst K;exact .slnil _ _ _ (.inl rfl)
         . obtain⟨b,off,sp⟩:=a
           have U:∀i j,i<cap->j<P.cellsOf e->∃u,W.cell? ⟨b,off+i*P.cellsOf e+j,none⟩=some u/\sp=none:=λi j y hj=>by
            obtain⟨l0,K⟩:=C 0 h0;obtain⟨q1,q2⟩:=mX K;have q3:=q2 0 p;rw[List.getElem?_eq_getElem (by omega)]at q3
            simp[Addr.add]at q3;have hs:sp=none:=(tj q3).1;subst hs;obtain⟨l,R⟩:=C i y;obtain⟨r1,r2⟩:=mX R;have r3:=r2 j hj;rw[List.getElem?_eq_getElem (by omega),add_plain,add_plain]at r3
            simp_all
           obtain⟨_,_,hs⟩:=U 0 0 h0 p;subst hs;obtain⟨u,q,_⟩:=U (cap-1) (P.cellsOf e-1) (by omega) (by omega)
           obtain⟨_,E,N,a9,hN⟩:=tj q
           have ab:off+cap*P.cellsOf e<=N:=by
            have hN:off+(cap-1)*P.cellsOf e+(P.cellsOf e-1)<N:=hN
            have:cap*P.cellsOf e=(cap-1)*P.cellsOf e+P.cellsOf e:=by
             obtain⟨c,rfl⟩:∃c,cap=c+1:=⟨cap-1,by omega⟩
             grind
            omega
           have O:∀d∈L,d.cells.length=P.cellsOf e:=λd w=>by obtain⟨i,y⟩:=List.mem_iff_getElem?.1 w;obtain⟨_,l,A,s⟩:=J i d y;rw[s.1,(mX A).1]
           have ad:=bc O
           have M:∀(j:Nat) d,(flatten L)[j]?=some d->∃u,(ai.all W).cell b (off+j)=some u/\V (ai.all W) u d/\bu.flat u=true:=λj d hj=>by
            have X:=(List.getElem?_eq_some_iff.1 hj).1;rw[ad]at X;have hdiv:j / P.cellsOf e<L.length:=(Nat.div_lt_iff_lt_mul p).2 X;have D:j % P.cellsOf e<P.cellsOf e:=Nat.mod_lt _ p;have al:j=j / P.cellsOf e*P.cellsOf e+j % P.cellsOf e:=by rw[Nat.mul_comm];exact(Nat.div_add_mod _ _).symm
            have F:=lz O (List.getElem?_eq_getElem hdiv) (j % P.cellsOf e) D;rw[<-al,hj]at F;obtain⟨_,l,A,s⟩:=J _ _ (List.getElem?_eq_getElem hdiv);obtain⟨r1,r2⟩:=mX A;have r3:=r2 _ D;rw[List.getElem?_eq_getElem (by omega),add_plain,add_plain]at r3
            have hv:=s.2 _ _ d (List.getElem?_eq_getElem (by omega)) F.symm
            refine⟨_,?_,hv⟩;show W.cell? ⟨b,off+j,none⟩=_;rw[<-r3];congr 2;omega
           have b3:=V.ofRow (k:=ai.all W) (b:=b) (off:=off) (cap:=cap) (kk:=P.cellsOf e) (N:=N) (E:=E) (es:=L) (sp:=.any) (by omega) a9 ab O M trivial
           simp_all
   . next fs q=>
     rw[Bool.and_eq_true,Array.all_eq_true_iff_forall_mem]at r;obtain⟨ar,Y⟩:=r;obtain⟨xs,m,rfl,G,R,b4,hx⟩:=DataW.trod_struct q h;subst G;refine⟨R,?_⟩
     obtain⟨l,g1,g2,g3,g4⟩:=AZ (P:=P) (W:=W) (tot:=P.cellsOf t) (cs:=cs) (Q:=λf _ a=>FY P n f.type a) R fs.toList 0 ar (Nat.zero_le _) λf hf=>by
      obtain⟨i,y⟩:=List.mem_iff_getElem?.1 hf;have Z:fs[i]?=some f:=by simp_all
      have g:=hx i f Z;have S:i<xs.length:=by grind
      rw[List.getElem?_eq_getElem S]at g;obtain⟨q1,a,q2,q3⟩:=C' n f.type m _ _ (Y f (by simp_all)) (λk hk=>hz k (by show k∈DataW.weights P t (.agg _);rw[DataW.weights,q];exact DataW.weights_mem_each (j:=i) (t:=f.type) (by simp[Z]) (by grind) k hk)) g
      grind
     refine⟨.agg (flatten l),⟨l,rfl,by omega,λi f a g o=>g2 i f a (by simp_all) o⟩,?_⟩
     rw[List.drop_zero]at g3 g4;exact⟨g3,g4⟩
   . cases r
theorem Ra{n base:Nat}{t:TypeId}{v:Value}{d:DataW H}{p:List MemPlace}(q:ti P n t=true)(r:∀k∈d.weights P t,k<=reachBytes)(c:Value.okWide P W .any base t v)(h:DataW.Trod enc P W 0 (λ_=>true) true t v d p):∃g,FY P n t g/\V (ai.all W) v g:=by
 obtain⟨fuel,s⟩:=h;obtain⟨u,g,b,f⟩:=C' n t fuel _ _ q r s;refine⟨g,b,?_⟩;have one:v.cells=#[v]->g.cells=[g]->V (ai.all W) v g:=λm o=>(f.2 0 v g (by rw[m];rfl) (by rw[o];rfl)).1
 cases n with
 |zero=>cases q
 |succ n=>
 unfold FY at b;split at b
 . next k j=>obtain⟨rfl,z,rfl,_⟩:=b;refine one ?_ rfl;simp only[Value.okWide,j,Cell.okWide,Cell.ok]at c;cases v<;>first|rfl|simp_all
 . next j=>obtain⟨z,rfl⟩:=b;refine one ?_ rfl;simp only[Value.okWide,j,Cell.okWide,Cell.ok]at c;cases v<;>first|rfl|simp_all
 . next e j=>obtain⟨l,rfl,_⟩:=b;refine one ?_ rfl;simp only[Value.okWide,j,Cell.okWide,Cell.ok]at c;cases v<;>first|rfl|simp_all
 . next fs j=>obtain⟨l,rfl,_⟩:=b;simp only[Value.okWide,j]at c;obtain⟨cs,rfl,_⟩:=c;exact .agg cs _ (by simpa[Value.cells,AV.cells]using f.1.symm) λi v a m o=>(f.2 i v a (by simpa[Value.cells]using m) o).1
 . cases b
theorem IB{n base:Nat}:∀(c:List TypeId) (vs:List Value) (ds:List (DataW H)) (g:List MemPlace),DataW.TrodAll enc P W 0 (λ_=>true) true c vs ds g->(∀t∈c,ti P n t=true)->(∀k∈DataW.weightsEach P c ds,k<=reachBytes) ->
 (∀(j:Nat) t v,c[j]?=some t->vs[j]?=some v->Value.okWide P W .any base t v)->∃b:List AV,b.length=c.length/\(∀(i:Nat) t a,c[i]?=some t->b[i]?=some a->FY P n t a)/\Vs (ai.all W) vs b
 |[],vs,ds,g,h,_,_,_=>by obtain⟨rfl,_,_⟩:=trodAll_nil h;exact⟨[],rfl,λi t a h=>by simp at h,.nil⟩
 | t::c,vs,ds,g,h,s,u,f=>by
   obtain⟨v,l,d,m,p,q,rfl,rfl,rfl,hd,e⟩:=trodAll_cons h;obtain⟨a,x,o⟩:=Ra (s t (by simp)) (λk r=>u k (by simp[DataW.weightsEach,r])) (f 0 t v rfl rfl) hd;obtain⟨b,w,y,z⟩:=IB c l m q e (λt A=>s t (by simp[A])) (λk r=>u k (by simp[DataW.weightsEach,r])) λj t v w y=>f (j+1) t v (by simp_all) (by simp_all)
   refine⟨a::b,by simp[w],λi B C D E=>?_,.cons o z⟩
   grind
theorem A6:∀(b:List TypeId) (vs:List Value) (ds:List (DataW H)) (c:List MemPlace),DataW.TrodAll enc P W 0 (λ_=>true) true b vs ds c->ds.length=b.length
 |[],vs,ds,c,h=>by obtain⟨rfl,rfl,rfl⟩:=trodAll_nil h;rfl
 |t::b,vs,ds,c,h=>by obtain⟨v,e,d,f,p,q,rfl,rfl,rfl,hd,a⟩:=trodAll_cons h;simp[A6 b e f q a]
theorem yb{l:World}(m:laidOutB P=true)(a:∀p:MemPlace,p.block<W.heap.size->W.sameAt l p):∀(e:List TypeId) (vs:List Value) (ds:List (DataW H)) (f:List MemPlace),DataW.TrodAll enc P W 0 (λ_=>true) true e vs ds f->(∀t∈e,P.readableRec t=true/\t<P.types.size) ->
 DataW.TrodAll enc P l 0 (λb=>decide (b<W.heap.size)) true e vs ds f
 |[],vs,ds,f,h,_=>by obtain⟨rfl,rfl,rfl⟩:=trodAll_nil h;exact trodAll_mk0
 |t::e,vs,ds,f,h,g=>by have i:=DataW.TrodAll.lt h;obtain⟨v,j,d,k,p,q,rfl,rfl,rfl,hd,c⟩:=trodAll_cons h;exact⟨p,q,WideElems.Trod_stays m (g t (by simp)).1 (g t (by simp)).2 hd (λx n=>a x (i x (by simp[n]))) (λx n=>by simp_all),yb m a e j k q c (λt o=>g t (by simp[o])),rfl⟩
end
section
variable{H:Type}{enc:TypeId × Value->H}
theorem FZ{C:Checked}(L:hQ C.prog){f:FuncId}{fn:Func}{s:ChangeSpec}{tb:TypeId}{r n:Nat}{apart fresh:Bool}{σ0:aa}(A:C.prog.funcs[f]?=some fn)(U:C.prog.inits.idxOf? f=none)(B:laidOutB C.prog=true)
 (l:fn.params.toList.all (λt=>ti C.prog n t && C.prog.readableRec t && decide (t<C.prog.types.size))=true) (D:fn.resultTypes=#[tb]) (E:C.prog.underlying tb=some .bool) (m:fn.results=#[.tmp r]) (V:r<fn.ntmps) (d:s.vars=[]) (c:∀ds:List (DataW H),ds.length=fn.params.size->s.fn H ds={results:=[.lit (.bool true)],args:=ds})
 (law:∀e:List AV,e.length=fn.params.size->(∀(i:Nat) t a,fn.params[i]?=some t->e[i]?=some a->FY C.prog n t a)->tp C.prog L A7 f e σ0 (λres _=>res=.val (.lit (.bool true))))
 (W:World) (X:Rel (ai.all W) aj.bot σ0) (base:Nat) (args:Array Value) (ds gs:List (DataW H)) (before:List MemPlace)
 (u:∀(j:Nat) t v,fn.params[j]?=some t->args[j]?=some v->Value.okWide C.prog W .any base t v)
 (O:DataW.Whole enc C.prog fn.params.toList s.vars apart W args.toList ds gs before)
 (Y:(DataW.weightsEach C.prog (fn.params.toList++s.plain.varTypes C.prog) (ds++gs)).all (·<=reachBytes)=true):
 ∃ M last o w' y,runNT C.prog (M+1) (solo (G (Frame.enter C.prog f args .normal) []) W) #[]=(.ended o w',y)/\runN C.prog M (solo (G (Frame.enter C.prog f args .normal) []) W)=.next last/\
   step C.prog last=.ended o w'/\Conc.Good C.prog (λv P=>s.post enc C.prog fn apart fresh false false W args v {P with os:=W.os}/\ConcM.OsLater W.os P.os) last o w' y:=by
 have F:=O;obtain⟨p,q,I,Q,rfl,_,_⟩:=O;have J:DataW.TrodAll enc C.prog W 0 (λ_=>true) true fn.params.toList args.toList ds p:=I;rw[d]at Q;obtain⟨rfl,rfl⟩:=trodVars_none Q;rw[List.all_eq_true]at l;have R:∀t∈fn.params.toList,ti C.prog n t=true/\C.prog.readableRec t=true/\t<C.prog.types.size:=λt z=>by simp_all
 have hlen:=A6 _ _ _ _ J;obtain⟨e,h1,Z,h3⟩:=IB fn.params.toList args.toList ds p J (λt z=>(R t z).1) (λk hk=>by simpa using List.all_eq_true.1 Y k (tl k hk)) λj t v e1 S=>u j t v (by simp_all) (by simp_all)
 obtain⟨M,last,o,w',y,g1,g2,g3,g4⟩:=Mx L (cargs:=args.toList) A U m V (law e (by omega) λi t a e1 S=>Z i t a (by simp_all) S) (W:=W) h3 X;refine⟨M,last,o,w',y,g1,g2,g3,g4.mono λv hp=>?_⟩;obtain⟨⟨k,av,σ,K,N⟩,g⟩:=hp;cases N;cases K;refine⟨⟨ds,[],_,[],p,[],F,?_,?_,?_,g.kept _,λh=>by cases h⟩,g.os⟩
 . rw[D]
   rw[List.append_nil];show DataW.TrodAll enc C.prog _ _ _ _ [tb] [.bool true] (s.fn H ds).results [];rw[c ds (by omega)];exact trodAll_mk1 (shut_bool E true)
 . rw[List.append_nil]
   show DataW.TrodAll enc C.prog _ _ _ _ _ _ (s.fn H ds).args _;rw[c ds (by omega)];refine yb B (λx T=>?_) _ _ _ _ J λt z=>(R t z).2
   cases x with
   |cell b o=>exact World.cell?_of_block (w:=W) (g.block b T)
   |map b=>exact g.block b T
 . rw[d]
   rw[List.append_nil];show DataW.TrodVars enc C.prog _ _ [] (s.fn H ds).vars [];rw[c ds (by omega)];rfl
end
end Go.bu

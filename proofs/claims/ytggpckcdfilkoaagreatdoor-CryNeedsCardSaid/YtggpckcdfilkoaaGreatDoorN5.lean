import Derived.Carry
import Derived.Test.YtggpckcdfilkoaaGreatDoorN4
set_option linter.all false
set_option maxRecDepth 100000
namespace Go.bu
open Go.Conc Go.ChangeShapes Go.WideShapes Go.RowKit
def dh(P:Rg):MC
 |0,_,_=>False
 | n+1,t,b=>match P.underlying t with
   |some (.int k)=>k=.i64/\∃z:Int,b=.lit (.int .i64 z)/\-9223372036854775808<=z/\z<=9223372036854775807
   |some .bool=>∃z:Bool,b=.lit (.bool z)
   |some (.slice e)=>∃l:We,b=.sl (P.cellsOf e) l .any/\l.length<1152921504606846976/\∀a∈l,dh P n e a
   |some (.struct fs)=>∃l:We,b=.agg (RP l)/\l.length=fs.size/\∀(i:Nat) (f:Field) a,fs[i]?=some f->l[i]?=some a->dh P n f.type a
   |_=>False
def fI(P:Rg)(tot:Nat):Nat->List Field->Bool
 |off,[]=>off==tot
 |off,f::r=>f.offset==off && fI P tot (off+P.cellsOf f.type) r
def dS(P:Rg):M9
 |0,_=>false
 | n+1,t=>match P.underlying t with
   |some (.int k)=>k==.i64 && P.cellsOf t==1
   |some .bool=>P.cellsOf t==1
   |some (.slice e)=>P.cellsOf t==1 && decide (0<P.cellsOf e/\0<P.bytesOf e) && dS P n e
   |some (.struct fs)=>fI P (P.cellsOf t) 0 fs.toList && fs.all λf=>dS P n f.type
   |_=>false
def dh.toInt{P n t a}(b:P.underlying t=some (.int .i64))(h:dh P (n+1) t a):∃z ,a=.lit (.int .i64 z):=by
 simp  [dh]at h
 grind
def dh.toSlice{P n kk t e b}(c:P.underlying t=some (.slice e))(d:P.cellsOf e=kk)(h:dh P (n+1) t b):∃l ,b=.sl kk l .any/\l.length<1152921504606846976/\∀a∈l,dh P n e a:=by
 unfold dh at h
 grind
def dh.bU{P n t fs ts b}(d:P.underlying t=some (.struct fs))(c:fs.toList.map (·.type)=ts)(h:dh P (n+1) t b):∃l ,b=.agg (RP l)/\l.length=ts.length/\∀(i:Nat) t a,ts[i]?=some t->l[i]?=some a->dh P n t a:=by
 unfold dh at h
 grind
def cT{α:Type}{p:α->Prop}{f}:∀{l:We},(∀a∈l,∃x,a=f x/\p x)->∃xs:List α,l=xs.map f/\∀x∈xs,p x
 |[],_=>⟨[],rfl,ap⟩
 | a::l,h=>by
   obtain⟨x,rfl,d⟩:=h a ap;obtain⟨xs,rfl,b⟩:=cT (l:=l) λa c=>h a (by simp[c])
   exact⟨x::xs,rfl,am⟩
section
variable{H:Type}{enc:TypeId × Value->H}{P:Rg}{W:World}
def cB{base a n l}(h:W.cells? base a n=some l):l.length=n/\∀i,i<n->W.cell? (a.add i)=l[i]?:=by
 unfold World.cells? at h;split at h
 . exact⟨by have:=mapM_some_length h;grind,λi b=>mapM_some_get h i i am⟩
 grind
def dT{a v}(h:W.cell? a=some v):a.spot=none/\∃E N,W.shape? a.block=some (E,N)/\a.off<N:=by
 unfold World.cell? at h;unfold World.shape?;split at h
 . next c e fr b=>
   split at h
   . cases h
   next d=>refine⟨aq,e,c.size,rfl,am⟩
 grind
def kI(W:World)(cs:EI)(b:AV):Prop:=b.cells.length=cs.length/\∀(j:Nat) v a,cs[j]?=some v->b.cells[j]?=some a->V (az.all W) v a/\bu.flat v=true
def kI.app{cs b:EI}{l c:We}(h:l.length=cs.length/\∀(j:Nat) v a,cs[j]?=some v->l[j]?=some a->V (az.all W) v a/\bu.flat v=true)
 (d:c.length=b.length/\∀(j:Nat) v a,b[j]?=some v->c[j]?=some a->V (az.all W) v a/\bu.flat v=true):
 (l++c).length=(cs++b).length/\∀(j:Nat) v a,(cs++b)[j]?=some v->(l++c)[j]?=some a->V (az.all W) v a/\bu.flat v=true:=by
 grind
def jC{tot}{cs:EI}{Q:Field->EI->AV->Prop}(e:cs.length=tot):∀  fs   off ,fI P tot off fs=true->off<=tot ->
 (∀f∈fs,∃a,Q f ((cs.drop f.offset).take (P.cellsOf f.type)) a/\kI W ((cs.drop f.offset).take (P.cellsOf f.type)) a/\((cs.drop f.offset).take (P.cellsOf f.type)).length=P.cellsOf f.type) ->
 ∃ l ,l.length=fs.length/\(∀(i:Nat)  f  a,fs[i]?=some f->l[i]?=some a->Q f ((cs.drop f.offset).take (P.cellsOf f.type)) a)/\(RP l).length=(cs.drop off).length/\
   ∀(j:Nat) v a,(cs.drop off)[j]?=some v->(RP l)[j]?=some a->V (az.all W) v a/\bu.flat v=true
 |[],off,h,_,_=>by simp[fI]at h;subst h;refine⟨[],rfl,am,by simp[RP,e],am⟩
 | f::fs,off,h,o,c=>by
   simp only[fI,vc,DW]at h;obtain⟨p,q⟩:=h;subst p;obtain⟨a,r,k,s⟩:=c f ap;have g:f.offset+P.cellsOf f.type<=tot:=am
   obtain⟨l,w,x,t,u⟩:=jC e fs _ q g λn m=>c n (by simp[m])
   have b:cs.drop f.offset=(cs.drop f.offset).take (P.cellsOf f.type)++cs.drop (f.offset+P.cellsOf f.type):=by rw[<-List.drop_drop,Ji]
   have d:=kI.app (W:=W) k ⟨t,u⟩;refine⟨a::l,am,λi n y z A=>?_,?_,?_⟩
   . grind
   . rw[b];simpa[RP]using d.1
   rw[b];simpa[RP]using d.2
theorem dU{e d}:∀{ds:List (DataW H)},d∈ds->∀k∈d.weights P e,k∈DataW.weightsAll P e ds
 | d0::ds,hd,k,a=>by
   simp  [DataW.weightsAll];rcases Cv.1 hd with rfl|h
   . grind
   exact .inr (dU h k a)
def dV:∀{ts us}{ds gs:List (DataW H)},∀k∈DataW.weightsEach P ts ds,k∈DataW.weightsEach P (ts++us) (ds++gs)
 | t::ts,us,d::ds,gs,k,a=>by
   simp  [DataW.weightsEach,E4]at a ⊢;rcases a with h|h
   . grind
   exact .inr (dV k h)
 |[],_,_,_,_,a=>by simp[DataW.weightsEach]at a
 |_::_,_,[],_,_,a=>by simp[DataW.weightsEach]at a
def kJ:∀  n   t   fuel   cs   x ,dS P n t=true->(∀k∈x.1.weights P t,k<=reachBytes)->DataW.trod enc P W 0 (λ_=>true) true fuel t cs=some x ->
 cs.length=P.cellsOf t/\∃d,dh P n t d/\kI W cs d
 |0,_,_,_,_,h,_,_=>by cases h
 | n + 1, t, fuel,cs,x,s,Y,h=>by
   unfold dS at s;unfold dh;split at s
   . next k p=>
     simp only[vc,DW]at s;obtain⟨rfl,hc⟩:=s;obtain⟨z,rfl,_,M⟩:=DataW.trod_int p h
     have hb:-9223372036854775808<=z/\z<=9223372036854775807:=by simp[Lit.wf,IntKind.min,IntKind.max,IntKind.signed,IntKind.bits]at M;omega
     refine⟨am,_,⟨rfl,z,rfl,hb.1,hb.2⟩,rfl,λj v a g q=>?_⟩
     cases j with
     |zero=>simp[AV.cells]at g q;subst g;subst q;exact⟨.lit _,rfl⟩
     |succ j=>grind
   . next p=>
     simp only[DW]at s;obtain⟨z,rfl,_⟩:=DataW.trod_bool p h;refine⟨am,_,⟨z,rfl⟩,rfl,λj v a g q=>?_⟩
     cases j with
     |zero=>simp[AV.cells]at g q;subst g;subst q;exact⟨.lit _,rfl⟩
     |succ j=>grind
   . next e p=>
     simp only[vc,DW,wK]at s;obtain⟨⟨hc,o,Z⟩,a7⟩:=s
     rcases DataW.trod_slice p h with⟨rfl,_⟩|⟨a,len,cap,elems,μ,m,rfl,rfl,G,_,O,hm,aF,he,hr,_⟩
     . refine⟨am,_,⟨[],rfl,ap,ap⟩,rfl,λj v a g q=>?_⟩
       cases j with
       |zero=>simp[AV.cells]at g q;subst g;subst q;exact⟨.sl0 _,rfl⟩
       |succ j=>grind
     obtain ⟨aL,hr⟩:=hr rfl
     subst G
     have key:∀i,i<len->∃d,dh P n e d/\∃l,W.cells? 0 (a.add (i*P.cellsOf e)) (P.cellsOf e)=some l/\kI W l d:=λi B=>by
      have g:=he i B;rw[kn ac,I1]at g
      obtain⟨l,w,r⟩:=g;obtain⟨_,d,y,aC⟩:=kJ n e m l _ a7 (λk hk=>Y k (by show k∈DataW.weights P t (.slice _ _);rw[DataW.weights,p];grind [dU,List.mem_map_of_mem,List.getElem_mem])) r
      grind
     have C:∀i,i<cap->∃l,W.cells? 0 (a.add (i*P.cellsOf e)) (P.cellsOf e)=some l:=λi B=>by
      by_cases R:i<len
      . grind
      have g:=hr (i-len) ac
      rw[kn ac,I1]at g
      grind
     have H:∃L:We,L.length=len/\∀i d,L[i]?=some d->dh P n e d/\∃l,W.cells? 0 (a.add (i*P.cellsOf e)) (P.cellsOf e)=some l/\kI W l d:=by
      have:∀k,k<=len->∃L:We,L.length=k/\∀i d,L[i]?=some d->dh P n e d/\∃l,W.cells? 0 (a.add (i*P.cellsOf e)) (P.cellsOf e)=some l/\kI W l d:=by
       intro k
       induction k with
       |zero=>simp_all
       | succ k ih=>
         intro hk;obtain⟨L,a8,I⟩:=ih ac
         obtain⟨d,y⟩:=key k ac
         refine⟨L++[d],am,λi aO h=>?_⟩
         by_cases B:i<L.length
         . grind
         rw[Fi ac]at h
         grind
      simp_all
     obtain⟨L,a8,I⟩:=H
     have A:L.length<1152921504606846976:=by
      have g:=Y ((elems.length+μ.length)*P.bytesOf e) (by show _∈DataW.weights P t (.slice _ _);rw[DataW.weights,p];simp)
      have q:(elems.length+μ.length)*1<=(elems.length+μ.length)*P.bytesOf e:=Nat.mul_le_mul_left _ Z
      grind [reachBytes_lt]
     refine⟨am,.sl (P.cellsOf e) L .any,⟨L,rfl,A,λd y=>?_⟩,rfl,λj v d g q=>?_⟩
     . grind [List.mem_iff_getElem?]
     cases j with
     |succ j=>grind
     |zero=>
     simp[AV.cells]at g q;subst g;subst q;refine⟨?_,rfl⟩
     rcases Ks cap with h0|h0
     . have J:len=0:=ac
       have:L=[]:=am
       subst this;subst h0;subst J;exact .slnil _ _ _ (.inl rfl)
     obtain⟨b,off,sp⟩:=a
     have S:∀i j,i<cap->j<P.cellsOf e->∃u,W.cell? ⟨b,off+i*P.cellsOf e+j,none⟩=some u/\sp=none:=λi j B U=>by
      obtain⟨l0,J⟩:=C 0 h0;obtain⟨q1,q2⟩:=cB J;have X:=q2 0 o;rw[kn ac]at X
      simp[Addr.add]at X;have hs:sp=none:=(dT X).1;subst hs;obtain⟨l,O⟩:=C i B;obtain⟨r1,r2⟩:=cB O;have r3:=r2 j U
      grind [List.getElem?_eq_getElem,add_plain]
     obtain⟨_,_,hs⟩:=S 0 0 h0 o;subst hs;obtain⟨u,p,_⟩:=S (cap-1) (P.cellsOf e-1) ac ac
     obtain⟨_,E,N,a9,hN⟩:=dT p
     have ab:off+cap*P.cellsOf e<=N:=by
      have hN:off+(cap-1)*P.cellsOf e+(P.cellsOf e-1)<N:=hN
      have:cap*P.cellsOf e=(cap-1)*P.cellsOf e+P.cellsOf e:=by
       obtain⟨c,rfl⟩:∃c,cap=c+1:=⟨cap-1,ac⟩
       grind
      omega
     have M:∀d∈L,d.cells.length=P.cellsOf e:=λd y=>by obtain⟨i,B⟩:=Hk.1 y;obtain⟨_,l,w,r⟩:=I i d B;rw[r.1,(cB w).1]
     have ad:=bL M
     have K:∀(j:Nat) d,(RP L)[j]?=some d->∃u,(az.all W).cell b (off+j)=some u/\V (az.all W) u d/\bu.flat u=true:=λj d U=>by
      have T:=(IK.1 U).1;rw[ad]at T;have hdiv:j / P.cellsOf e<L.length:=(Nat.div_lt_iff_lt_mul o).2 T;have D:j % P.cellsOf e<P.cellsOf e:=JP _ o;have al:j=j / P.cellsOf e*P.cellsOf e+j % P.cellsOf e:=by simp[Jw,Nat.div_add_mod]
      have F:=jx M (kn hdiv) (j % P.cellsOf e) D;rw[<-al,U]at F;obtain⟨_,l,w,r⟩:=I _ _ (kn hdiv);obtain⟨r1,r2⟩:=cB w;have r3:=r2 _ D;rw[kn ac,add_plain,add_plain]at r3
      have hv:=r.2 _ _ d (kn ac) F.symm
      refine⟨_,?_,hv⟩;show W.cell? ⟨b,off+j,none⟩=_;rw[<-r3];congr 2;omega
     have aW:=V.ofRow (k:=az.all W) (b:=b) (off:=off) (cap:=cap) (kk:=P.cellsOf e) (N:=N) (E:=E) (es:=L) (sp:=.any) ac a9 ab M K trivial
     grind
   . next fs p=>
     rw[vc,HV]at s;obtain⟨ax,aE⟩:=s;obtain⟨xs,m,rfl,G,O,b0,hx⟩:=DataW.trod_struct p h;subst G;refine⟨O,?_⟩
     obtain⟨l,g1,g2,g3,g4⟩:=jC (P:=P) (W:=W) (tot:=P.cellsOf t) (cs:=cs) (Q:=λf _ a=>dh P n f.type a) O fs.toList 0 ax (Jq _) λf hf=>by
      obtain⟨i,B⟩:=Hk.1 hf;have ay:fs[i]?=some f:=am
      have g:=hx i f ay;have R:i<xs.length:=am
      rw[kn R]at g;obtain⟨q1,a,q2,X⟩:=kJ n f.type m _ _ am (λk hk=>Y k (by show k∈DataW.weights P t (.agg _);rw[DataW.weights,p];exact DataW.weights_mem_each (j:=i) (t:=f.type) am am k hk)) g
      grind
     refine⟨.agg (RP l),⟨l,rfl,ac,am⟩,?_⟩
     rw[IB]at g3 g4;exact⟨g3,g4⟩
   grind
def zu{n base t v d p}(m:dS P n t=true)(r:∀k∈d.weights P t,k<=reachBytes)(c:Value.okWide P W .any base t v)(h:DataW.Trod enc P W 0 (λ_=>true) true t v d p):∃g,dh P n t g/\V (az.all W) v g:=by
 obtain⟨fuel,s⟩:=h;obtain⟨u,g,b,f⟩:=kJ n t fuel _ _ m r s;refine⟨g,b,?_⟩;have one:v.cells=#[v]->g.cells=[g]->V (az.all W) v g:=λo q=>(f.2 0 v g am am).1
 cases n with
 |zero=>cases m
 |succ n=>
 unfold dh at b;split at b
 . next k j=>obtain⟨rfl,z,rfl,_⟩:=b;refine one ?_ rfl;simp  [Value.okWide,j,Cell.okWide,Cell.ok]at c;cases v<;>first|rfl|grind
 . next j=>obtain⟨z,rfl⟩:=b;refine one ?_ rfl;simp  [Value.okWide,j,Cell.okWide,Cell.ok]at c;cases v<;>first|rfl|grind
 . next e j=>obtain⟨l,rfl,_⟩:=b;refine one ?_ rfl;simp  [Value.okWide,j,Cell.okWide,Cell.ok]at c;cases v<;>first|rfl|grind
 . next fs j=>obtain⟨l,rfl,_⟩:=b;simp  [Value.okWide,j]at c;obtain⟨cs,rfl,_⟩:=c;exact .agg cs _ (by simpa[Value.cells,AV.cells]using f.1.symm) λi v a o q=>(f.2 i v a (by simpa[Value.cells]using o) q).1
 grind
def oB{n base}:∀  ts   vs   ds   f ,DataW.TrodAll enc P W 0 (λ_=>true) true ts vs ds f->(∀t∈ts,dS P n t=true)->(∀k∈DataW.weightsEach P ts ds,k<=reachBytes) ->
 (∀(j:Nat) t v,ts[j]?=some t->vs[j]?=some v->Value.okWide P W .any base t v)->∃b ,b.length=ts.length/\(∀(i:Nat) t a,ts[i]?=some t->b[i]?=some a->dh P n t a)/\Vs (az.all W) vs b
 |[],vs,ds,f,h,_,_,_=>by obtain⟨rfl,_,_⟩:=trodAll_nil h;exact⟨[],rfl,am,.nil⟩
 | t::ts,vs,ds,f,h,r,s,e=>by
   obtain⟨v,g,d,l,p,q,rfl,rfl,rfl,hd,c⟩:=trodAll_cons h;obtain⟨a,u,m⟩:=zu (r t ap) (λk o=>s k (by simp[DataW.weightsEach,o])) (e 0 t v rfl rfl) hd;obtain⟨b,w,x,y⟩:=oB ts g l q c (λt z=>r t (by simp[z])) (λk o=>s k (by simp[DataW.weightsEach,o])) λj t v w x=>e (j+1) t v am am
   refine⟨a::b,am,λi A B C D=>?_,.cons m y⟩
   grind
def jD:∀  ts   vs   ds   b ,DataW.TrodAll enc P W 0 (λ_=>true) true ts vs ds b->ds.length=ts.length
 |[],vs,ds,b,h=>by obtain⟨rfl,rfl,rfl⟩:=trodAll_nil h;rfl
 |t::ts,vs,ds,b,h=>by obtain⟨v,c,d,e,p,q,rfl,rfl,rfl,hd,a⟩:=trodAll_cons h;simp[jD ts c e q a]
def gS{i}(j:laidOutB P=true)(a:∀p ,p.block<W.heap.size->W.sameAt i p):∀  ts   vs   ds   e ,DataW.TrodAll enc P W 0 (λ_=>true) true ts vs ds e->(∀t∈ts,P.readableRec t=true/\t<P.types.size) ->
 DataW.TrodAll enc P i 0 (λb=>decide (b<W.heap.size)) true ts vs ds e
 |[],vs,ds,e,h,_=>by obtain⟨rfl,rfl,rfl⟩:=trodAll_nil h;exact trodAll_mk0
 |t::ts,vs,ds,e,h,l=>by have k:=DataW.TrodAll.lt h;obtain⟨v,f,d,g,p,q,rfl,rfl,rfl,hd,c⟩:=trodAll_cons h;exact⟨p,q,(by grind [WideElems.Trod_stays]),gS j a ts f g q c am,rfl⟩
def l9{C:Checked}  L  {f fn}{s:ChangeSpec}{tb}{r n:Nat}{apart fresh σ0}(y:C.prog.funcs[f]?=some fn) (hi:C.prog.inits.idxOf? f=none) (z:laidOutB C.prog=true)
 (h:fn.params.toList.all (λt=>dS C.prog n t && C.prog.readableRec t && decide (t<C.prog.types.size))=true) (A:fn.resultTypes=#[tb]) (P:C.prog.underlying tb=some .bool) (l:fn.results=#[.tmp r]) (Q:r<fn.ntmps) (c:s.vars=[]) (d:∀ds ,ds.length=fn.params.size->s.fn H ds={results:=[.lit (.bool true)],args:=ds})
 (law:∀e ,e.length=fn.params.size->(∀(i:Nat) t a,fn.params[i]?=some t->e[i]?=some a->dh C.prog n t a)->ll C.prog L wF f e σ0 (λres _=>res=.val (.lit (.bool true))))
  W  (R:Rel (az.all W) au.bot σ0)  base   args   ds gs   before
 (m:∀(j:Nat) t v,fn.params[j]?=some t->args[j]?=some v->Value.okWide C.prog W .any base t v)
 (J:DataW.Whole enc C.prog fn.params.toList s.vars apart W args.toList ds gs before)
 (S:(DataW.weightsEach C.prog (fn.params.toList++s.plain.varTypes C.prog) (ds++gs)).all (·<=reachBytes)=true):
 ∃ M last o w' u,runNT C.prog (M+1) (solo (G (Frame.enter C.prog f args .normal) []) W) #[]=(.ended o w',u)/\runN C.prog M (solo (G (Frame.enter C.prog f args .normal) []) W)=.next last/\
   step C.prog last=.ended o w'/\Conc.Good C.prog (λv K=>s.post enc C.prog fn apart fresh false false W args v {K with os:=W.os}/\ConcM.OsLater W.os K.os) last o w' u:=by
 have B:=J;obtain⟨p,q,D,N,rfl,_,_⟩:=J;have E:DataW.TrodAll enc C.prog W 0 (λ_=>true) true fn.params.toList args.toList ds p:=D;rw[c]at N;obtain⟨rfl,rfl⟩:=trodVars_none N;rw[LF]at h;have T:∀t∈fn.params.toList,dS C.prog n t=true/\C.prog.readableRec t=true/\t<C.prog.types.size:=am;have hlen:=jD _ _ _ _ E;obtain⟨e,h1,h2,U⟩:=oB fn.params.toList args.toList ds p E (λt V=>(T t V).1) (λk X=>by simpa using LF.1 S k (dV k X)) λj t v e1 e2=>m j t v aq aq
 obtain⟨M,last,o,w',u,Y,Z,g3,g4⟩:=zv L (cargs:=args.toList) y hi l Q (law e ac am) (W:=W) U R;refine⟨M,last,o,w',u,Y,Z,g3,g4.mono λv hp=>?_⟩;obtain⟨⟨k,av,σ,F,I⟩,g⟩:=hp;cases I;cases F;refine⟨⟨ds,[],_,[],p,[],B,?_,?_,?_,g.kept _,am⟩,g.os⟩
 . rw[A]
   rw[xx];show DataW.TrodAll enc C.prog _ _ _ _ [tb] [.bool true] (s.fn H ds).results []
   grind [trodAll_mk1,shut_bool]
 . rw[xx]
   show DataW.TrodAll enc C.prog _ _ _ _ _ _ (s.fn H ds).args _;rw[d ds ac];refine gS z (λx O=>?_) _ _ _ _ E am;cases x with
   |cell b o=>exact World.cell?_of_block (w:=W) (g.block b O)
   |map b=>exact g.block b O
 rw[c]
 rw[xx];show DataW.TrodVars enc C.prog _ _ [] (s.fn H ds).vars [];rw[d ds ac];rfl
end
end Go.bu
namespace Go.Proofs.YtggpckcdfilkoaaGreatDoor
open Go Go.bu
def bb{n:Nat}{a:AV}(h:dh Tryz.prog (n+1) 3 a):∃z,a=Xn z:=h.toInt Tryz.underlying3
def iH{n:Nat}{b:AV}(h:dh Tryz.prog (n+2) 32 b):∃l,b=Ae l/\l.length<1152921504606846976:=by
 obtain⟨l,rfl,e,c⟩:=h.toSlice (kk:=1) Tryz.underlying32 s8;obtain⟨xs,rfl,_⟩:=cT  (f:=Xn) (p:=λ_=>True) λa d=>(bb (c a d)).imp am
 grind
def jE{n:Nat}{j:AV}(h:dh Tryz.prog (n+3) 34 j):∃e:vU,j=bn e/\e.marks.length<1152921504606846976:=by
 obtain⟨l,rfl,k,a⟩:=h.bU (ts:=[3,3,3,32,3,3]) Tryz.underlying34 s8
 obtain⟨b,c,d,f,g,i,rfl⟩:∃b c d f g i,l=[b,c,d,f,g,i]:=by
  match l,k with
  |[b,c,d,f,g,i],_=>grind
 obtain⟨m,rfl⟩:=bb (a 0 _ b rfl rfl);obtain⟨o,rfl⟩:=bb (a 1 _ c rfl rfl);obtain⟨p,rfl⟩:=bb (a 2 _ d rfl rfl);obtain⟨q,rfl,r⟩:=iH (a 3 _ f rfl rfl);obtain⟨s,rfl⟩:=bb (a 4 _ g rfl rfl);obtain⟨t,rfl⟩:=bb (a 5 _ i rfl rfl);exact⟨⟨m,o,p,q,s,t⟩,rfl,r⟩
def qG{n:Nat}{q:AV}(h:dh Tryz.prog (n+5) 27 q):∃f:Fr,q=bR f/\f.Fits:=by
 obtain⟨l,rfl,t,b⟩:=h.bU (ts:=[22,23,25,3,3]) Tryz.underlying27 s8
 obtain⟨c,d,e,g,i,rfl⟩:∃c d e g i,l=[c,d,e,g,i]:=by
  match l,t with
  |[c,d,e,g,i],_=>grind
 obtain⟨A,rfl,B,u⟩:=(b 0 _ c rfl rfl).toSlice (kk:=6) Tryz.underlying22 s8;obtain⟨es,rfl,m⟩:=cT   λa o=>jE (u a o)
 obtain⟨C,rfl,D,v⟩:=(b 1 _ d rfl rfl).toSlice (kk:=1) Tryz.underlying23 s8;obtain⟨rs,rfl,p⟩:=cT   λa o=>iH (v a o)
 obtain⟨r,rfl,w,s⟩:=(b 2 _ e rfl rfl).bU (ts:=[3,3]) Tryz.underlying25 am
 obtain⟨j,k,rfl⟩:∃j k,r=[j,k]:=by
  match r,w with
  |[j,k],_=>grind
 obtain⟨y0,rfl⟩:=bb (s 0 _ j rfl rfl);obtain⟨x,rfl⟩:=bb (s 1 _ k rfl rfl);obtain⟨y,rfl⟩:=bb (b 3 _ g rfl rfl);obtain⟨z,rfl⟩:=bb (b 4 _ i rfl rfl);exact⟨⟨es,rs,y0,x,y,z⟩,rfl,am,am,p,m⟩
def oC{n i}(h:dh Tryz.prog (n+3) 38 i):∃x ,i=fG x:=by
 obtain⟨l,rfl,m,a⟩:=h.bU (ts:=[3,3,3,25]) Tryz.underlying38 am
 obtain⟨b,c,d,e,rfl⟩:∃b c d e,l=[b,c,d,e]:=by
  match l,m with
  |[b,c,d,e],_=>grind
 obtain⟨o,rfl⟩:=bb (a 0 _ b rfl rfl);obtain⟨p,rfl⟩:=bb (a 1 _ c rfl rfl);obtain⟨q,rfl⟩:=bb (a 2 _ d rfl rfl);obtain⟨j,rfl,r,k⟩:=(a 3 _ e rfl rfl).bU (ts:=[3,3]) Tryz.underlying25 am
 obtain⟨f,g,rfl⟩:∃f g,j=[f,g]:=by
  match j,r with
  |[f,g],_=>grind
 obtain⟨y0,rfl⟩:=bb (k 0 _ f rfl rfl);obtain⟨s,rfl⟩:=bb (k 1 _ g rfl rfl);exact⟨⟨o,p,q,y0,s⟩,rfl⟩
def oD{n g}(h:dh Tryz.prog (n+4) 36 g):∃c ,g=cK c/\c.lost.marks.length<1152921504606846976:=by
 obtain⟨l,rfl,i,f⟩:=h.bU (ts:=[34,3,3]) Tryz.underlying36 am
 obtain⟨a,b,d,rfl⟩:∃a b d,l=[a,b,d]:=by
  match l,i with
  |[a,b,d],_=>grind
 obtain⟨e,rfl,j⟩:=jE (f 0 _ a rfl rfl);obtain⟨k,rfl⟩:=bb (f 1 _ b rfl rfl);obtain⟨m,rfl⟩:=bb (f 2 _ d rfl rfl);exact⟨⟨e,k,m⟩,rfl,j⟩
def oE{n k}(h:dh Tryz.prog (n+6) 31 k):∃w ,k=aT w/\w.Raw:=by
 obtain⟨l,rfl,m,b⟩:=h.bU (ts:=[27,3,28,29]) Tryz.underlying31 am
 obtain⟨c,d,e,g,rfl⟩:∃c d e g,l=[c,d,e,g]:=by
  match l,m with
  |[c,d,e,g],_=>grind
 obtain⟨f,rfl,o⟩:=qG (b 0 _ c rfl rfl);obtain⟨q,rfl⟩:=bb (b 1 _ d rfl rfl);obtain⟨t,rfl,u,r⟩:=(b 2 _ e rfl rfl).toSlice (kk:=5) Tryz.underlying28 s8;obtain⟨ws,rfl,_⟩:=cT  (f:=fG) (p:=λ_=>True) λa i=>(oC (r a i)).imp am
 obtain⟨v,rfl,x,s⟩:=(b 3 _ g rfl rfl).toSlice (kk:=8) Tryz.underlying29 s8;obtain⟨cs,rfl,j⟩:=cT   λa i=>oD (s a i)
 exact⟨⟨f,q,ws,cs⟩,rfl,o,am,am,j⟩

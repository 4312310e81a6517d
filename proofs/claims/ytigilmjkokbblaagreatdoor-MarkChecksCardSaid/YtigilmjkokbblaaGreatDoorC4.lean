/- Part 4 of the proof. -/
import Derived.Test.YtigilmjkokbblaaGreatDoorC3
set_option linter.all false
namespace Go.bd
open Go.Conc
def Es(a:AV)(kk:Nat)(es:List AV):Prop:=(a=.nil/\es=[])\/∃sp,a=.sl kk es sp
def Tok(σ0 σ:aa)(a:AV)(kk:Nat)(es:List AV):Prop:=σ0.Le σ/\((a=.nil/\es=[])\/a=.sl kk es .exact\/∃b e,σ0 b=none/\a=.sl kk es (.tok b e)/\σ b=some (.tail e))
theorem Tok.RL{σ0 σ:aa}{a:AV}{kk:Nat}{es:List AV}(h:Tok σ0 σ a kk es):Es a kk es:=by
 rcases h.2 with h|h|⟨b,e,_,h,_⟩
 . exact .inl h
 . exact .inr ⟨_,h⟩
 . exact .inr ⟨_,h⟩
theorem Es.W{a:AV}{kk:Nat}{es:List AV}(h:Es a kk es):a.W (.sl kk es .any):=by
 rcases h with⟨rfl,rfl⟩|⟨sp,rfl⟩
 . exact cW kk
 . exact ck kk es sp
theorem Tok.W{σ0 σ:aa}{a:AV}{kk:Nat}{es:List AV}(h:Tok σ0 σ a kk es):a.W (.sl kk es .any):=h.RL.W
theorem Tok.nil(σ:aa)(kk:Nat):Tok σ σ .nil kk []:=⟨λ_ _ h=>h,.inl ⟨rfl,rfl⟩⟩
theorem Tok.exact(σ:aa)(kk:Nat)(es:List AV):Tok σ σ (.sl kk es .exact) kk es:=⟨λ_ _ h=>h,.inr (.inl rfl)⟩
section
variable{P:Program}(L:iG P){k:ah}{O:ai}{Kp:Value->ah->ai->Prop}
theorem yH{K:Unit->ah->ai->Prop}{b off N:Nat}{E:TypeId}:∀(vs:List Value) (i:Nat) (k:ah) (O:ai),O b=some (.tail (off+i))->k.sh b=some (E,N)->off+i+vs.length<=N->(∀v∈vs,flat v=true) ->
 (∀k' O',k.Le k'->(∀(j:Nat) v,vs[j]?=some v->k'.cell b (off+i+j)=some v)->O'=O.set b (.tail (off+i+vs.length))->K () k' O')->eh P (storeCells ⟨b,off,none⟩ vs i) k O K Kp:=by
 intro vs;induction vs with
 | nil=>
   intro i k O e f hlen g h;refine aj (h k O (.refl k) (λj v a=>by simp at a) ?_);funext x;by_cases c:x=b
   . subst c;simp[ai.set,e]
   . simp[ai.set,c]
 | cons v vs l=>
   intro i k O e f hlen g h;simp only[List.length_cons]at hlen;unfold storeCells;rw[gz];refine af (s:=store ⟨b,off+i,none⟩ v) ⟨rfl,g v (by simp),rfl,.inr ⟨E,N,e,f,by show off+i<N;omega,λm=>?_⟩⟩;refine l (i+1) _ _ (by simp[ai.set];omega) f (by omega) (λu n=>g u (by simp[n])) λk' O' d o p=>?_
   refine h k' O' ((ah.Le.put m).trans d) (λj u a=>?_) ?_
   . cases j with
     |zero=>simp at a;subst a;exact d.cell _ _ _ (by simp[ah.put])
     | succ j=>
       have:=o j u (by simpa using a);rw[show off+i+(j+1)=off+(i+1)+j by omega];exact this
   . rw[p];funext x
     by_cases c:x=b
     . subst c;simp[ai.set];omega
     . simp[ai.set,c]
theorem nextslicecap_le{gQ c:Nat}(h:c<gQ):Builtin.nextslicecap gQ c<=4*gQ+2000:=by
 have g:∀(r c b:Nat),c<=b->Builtin.growBy gQ r c<=max b ((gQ+(gQ+768) / 4)):=by
  intro r;induction r with
  |zero=>intro c b hb;simp only[Builtin.growBy];omega
  | succ r a=>
    intro c b hb;simp only[Builtin.growBy];split
    . omega
    . refine Nat.le_trans (a _ (gQ+(gQ+768) / 4) (by omega)) (by omega)
 unfold Builtin.nextslicecap;split
 . omega
 . split
   . omega
   . refine Nat.le_trans (g 4 c gQ (by omega)) (by omega)
theorem qf{K:Array Value->ah->ai->Prop}{v:Value}{a:AV}{kk:Nat}{es:List AV}{n:Nat}(o:V k v a)(p:Es a kk es)(f:n<=es.length)
 (g:∀c:Array Value,c.size=n*kk->(∀(j:Nat) u x,c[j]?=some u->(flatten es)[j]?=some x->V k u x)->(∀(j:Nat) u,c[j]?=some u->flat u=true)->K c k O):eh P (Builtin.firstCells kk n v) k O K Kp:=by
 rcases p with⟨rfl,rfl⟩|⟨sp,rfl⟩
 . cases o
   have:n=0:=by simpa using f
   subst this;exact aj (g #[] (by simp) (λj u x d=>by simp at d) (λj u d=>by simp at d))
 . cases o.Hu with
   | nil a=>
     have:n=0:=by simpa using f
     subst this;have e:Builtin.firstCells kk 0 (.slice a 0 0)=pure #[]:=by cases a<;>simp[Builtin.firstCells,loadCells,loadCellsFrom]
     rw[e];exact aj (g #[] (by simp) (λj u x d=>by simp at d) (λj u d=>by simp at d))
   | row b off cap _ N E _ _ w y z q r A=>
     unfold Builtin.firstCells loadCells;have h:=aZ q;have s:n*kk<=(flatten es).length:=by rw[h];exact Nat.mul_le_mul_right kk f
     rw[show(⟨b,off,none⟩:Addr)=⟨b,off+0,none⟩by rfl]
     refine je (r O) (n*kk) 0 #[] (by omega) λvs i l m=>?_
     refine g _ (by simp[i]) (λj u x d t=>l j u x (by simpa using d) (by simpa using t)) (λj u d=>m u ?_)
     have:vs[j]?=some u:=by simpa using d
     exact List.mem_of_getElem? this
theorem JP{K:Nat->ah->ai->Prop}{v:Value}{a:AV}{kk:Nat}{es:List AV}(b:V k v a)(e:Es a kk es)(d:K es.length k O):eh P (Builtin.lenOf v) k O K Kp:=by
 rcases e with⟨rfl,rfl⟩|⟨sp,rfl⟩
 . cases b;exact aj d
 . obtain⟨x,c,rfl⟩:=b.Hu.len;exact aj d
end
theorem vt{P:Program}{k:ah}{O:ai}{Kp:Value->ah->ai->Prop}{K:Addr->ah->ai->Prop}{E:TypeId}{c:Array Value}{n:Nat}(t:n<=c.size)
 (i:∀r k' O',Gb k O r->(lR k' O' λf l=>k.Le f/\(∀j v,j<n->c[j]?=some v->f.cell r j=some v)/\f.sh r=some (E,c.size)/\(∀σ,Rel k O σ->Rel f l (σ.set r (.tail n))))->K ⟨r,0,none⟩ k' O'):eh P (newRow E c) k O K Kp:=by
 refine af (s:=newObj (.cells c E)) ⟨rfl,λr g=>aj (i r _ _ g ?_)⟩
 obtain⟨f1,m,o⟩:=g;have a:k.Le (k.made r (.cells c E)):=.made o;have d:∀j,(k.made r (.cells c E)).cell r j=none:=m;refine⟨_,_,n7 (n:=n) (c:=c) (e:=E) (r:=r) (by simp[ai.set]) (by simp[ah.made,ah.eF]),a.trans (.vY d),λj v p q=>by simp only[ah.vY,true_and,p,if_true];exact q,by simp[ah.vY,ah.made,ah.eF],λσ h=>?_⟩
 have:((O.set r (.obj (.cells c E))).set r (.tail n))=O.set r (.tail n):=by funext b;by_cases hb:b=r<;>simp[ai.set,hb]
 rw[this];exact(h.mono (a.trans (.vY d))).set (.tail n)
section
variable{P:Program}(L:iG P){o:Oper}{env:Env}{σ:aa}{K:AV->aa->Prop}{Kp:AV->aa->Prop}
theorem pw{k:ah}{O:ai}{Kp:Value->ah->ai->Prop}{K:Unit->ah->ai->Prop}{n:Nat}(h:K () k O):eh P (askRoom n) k O K Kp:=by
 unfold askRoom;split
 . exact⟨rfl,h⟩
 . exact h
theorem aS{s x:Operand}{R:Array TypeId}{t t2 e e2:Nat}{it ax i:TI}{σ0:aa}{es xs:List AV}(ho:o.op=.call ⟨.builtin .append,#[s,x],R⟩)(h0:R[0]?=some t)(h1:R[1]?=some t2)(ht:L.tt t=some it)(hk:it.kind=.slice e)
 (b9:L.tt t2=some ax) (bq:ax.kind=.slice e2) (he:L.tt e=some i) (hb:i.bytes<=1024) (hlen:es.length+xs.length<=1073741824) (hs:Tok σ0 σ (ar env s) i.size es) (S:Es (ar env x) i.size xs)
 (hK:∀a' σ',Tok σ0 σ' a' i.size (es++xs)->K a' σ'):aK P o env σ K Kp:=λk O ρ hv X=>by
 have w:=hv s (by simp[ho,Op.operands,Call.operands])
 have D:=hv x (by simp[ho,Op.operands,Call.operands])
 have:execOp ρ o=(do pure (Next.value (<-Builtin.append_ R o.type #[ρ s,ρ x]))):=by simp[execOp,ho,resolve,invoke,builtin]
 rw[this];refine af ?_;have bz:i.zero.cells.size=i.size:=by obtain⟨_,_,_,_,_,_,h⟩:=L.facts he;exact h
 have bA:∃base cap,ρ s=.slice base es.length cap/\((((ar env s=.nil/\base=none)\/(ar env s=.sl i.size [] .exact/\∃a,base=some a))/\cap=0/\es=[])\/
  ∃ b off N E sp,base=some ⟨b,off,none⟩/\ar env s=.sl i.size es sp/\es.length<=cap/\k.sh b=some (E,N)/\off+cap*i.size<=N/\(∀e∈es,e.cells.length=i.size)/\
    (∀(j:Nat) a,(flatten es)[j]?=some a->∃v,k.cell b (off+j)=some v/\V k v a/\bd.flat v=true)/\sp.fits b off es.length i.size cap/\(sp=.exact\/∃e,σ0 b=none/\sp=.tok b e/\σ b=some (.tail e))):=by
  rcases hs.2 with⟨h,rfl⟩|h|⟨b,en,T,h,F⟩<;>rw[h]at w
  . generalize ρ s=v at w;cases w;exact⟨none,0,rfl,.inl ⟨.inl ⟨h,rfl⟩,rfl,rfl⟩⟩
  . rcases w.lq with⟨a0,q0,rfl,q⟩|⟨b,off,cap,N,E,q1,q2,q3,q4,Y,q6,q7⟩
    . rcases q with q|⟨_,q⟩
      . cases q
      . cases a0 with
        |none=>cases q
        |some a0=>exact⟨some a0,0,q0,.inl ⟨.inr ⟨h,a0,rfl⟩,rfl,rfl⟩⟩
    . exact⟨_,cap,q1,.inr ⟨b,off,N,E,.exact,rfl,h,q2,q3,q4,Y,q6,q7,.inl rfl⟩⟩
  . rcases w.lq with⟨_,_,_,q⟩|⟨b',off,cap,N,E,q1,q2,q3,q4,Y,q6,q7⟩
    . rcases q with q|⟨q,_⟩<;>cases q
    . obtain⟨rfl,_⟩:=id q7
      exact⟨_,cap,q1,.inr ⟨b,off,N,E,.tok b en,rfl,h,q2,q3,q4,Y,q6,q7,.inr ⟨en,T,rfl,F⟩⟩⟩
 obtain⟨base,cap,H,I⟩:=bA;have p:=hs.1;unfold Builtin.append_;simp only[h0,h1,List.getElem?_toArray,List.getElem?_cons_zero,List.getElem?_cons_succ];refine af (aD L ht λd _ hd=>?_)
 rw[bs hd hk,H];dsimp only;refine af (bQ L he ?_);refine af (aD L b9 λd2 _ Z=>?_)
 rw[bs Z bq];refine af (aj ?_);dsimp only;simp only[Bool.false_eq_true,if_false,Bool.not_false,if_true];refine af (JP D S ?_)
 by_cases g:es.length+xs.length<=cap
 ·
  rw[if_pos g];refine af (qf D S (Nat.le_refl _) λc l a7 U=>?_)
  rcases I with⟨⟨B,rfl⟩|⟨B,a0,rfl⟩,rfl,rfl⟩|⟨b,off,N,E,sp,rfl,B,g1,g2,g3,g4,g5,g6,rfl|⟨en,T,rfl,F⟩⟩
  . have C:xs=[]:=by simpa using g
    subst C;dsimp only;refine aj ?_;refine aj ⟨_,.inl rfl,.here ⟨.refl k,.nil,σ,?_,X,hK _ _ ⟨p,.inl ⟨rfl,rfl⟩⟩⟩⟩;simp only[List.length_nil,Nat.zero_add];exact .lit _
  . have C:xs=[]:=by simpa using g
    subst C
    have a8:c.toList=[]:=by
     have:c.size=0:=by simpa using l
     simpa using this
    dsimp only;rw[a8];refine af (aj ?_);refine aj (aj ⟨_,.inl rfl,.here ⟨.refl k,.sl i.size [] .exact,σ,?_,X,hK _ _ ⟨p,.inr (.inl (by simp))⟩⟩⟩)
    rw[H,B]at w;simpa using w
  . have cl:cap=es.length:=g6
    have C:xs=[]:=by cases xs with|nil=>rfl|cons _ _=>simp at g;omega
    subst C
    have a8:c.toList=[]:=by
     have:c.size=0:=by simpa using l
     simpa using this
    dsimp only;rw[a8];refine af (aj ?_);refine aj (aj ⟨_,.inl rfl,.here ⟨.refl k,.sl i.size es .exact,σ,?_,X,hK _ _ ⟨p,.inr (.inl (by simp))⟩⟩⟩)
    rw[H,B]at w;simpa using w
  . obtain ⟨_,bB⟩:=g6
    obtain⟨y,hO,hy⟩:=X.1 b _ F (by simp)
    cases hy;dsimp only;rw[gz]
    have ay:(flatten xs).length=c.size/\∀e∈xs,e.cells.length=i.size:=by
     rcases S with⟨_,rfl⟩|⟨sp,S⟩
     . exact⟨by simp[flatten];simpa using l.symm,by simp⟩
     . rw[S]at D
       rcases D.lq with⟨_,_,rfl,_⟩|⟨_,_,_,_,_,_,_,_,_,Y,_⟩
       . exact⟨by simp[flatten];simpa using l.symm,by simp⟩
       . exact⟨by rw[aZ Y,l],Y⟩
    have hmul:off+(es.length+xs.length)*i.size<=N:=Nat.le_trans (Nat.add_le_add_left (Nat.mul_le_mul_right _ g) off) g3;rw[Nat.add_mul]at hmul;refine af (yH c.toList 0 k O (by rw[hO,bB];rfl) g2 (by simp[l];omega) (λu hu=>?_) λk' O' m A c5=>?_)
    . obtain⟨j,hj,rfl⟩:=List.mem_iff_getElem.1 hu
      exact U j _ (by simp at hj;simp[hj])
    . refine aj (aj ⟨_,.inl rfl,.here ⟨m,.sl i.size (es++xs) (.tok b (off+(es++xs).length*i.size)),σ.set b (.tail (off+(es++xs).length*i.size)),?_,?_,hK _ _ ⟨?_,.inr (.inr ⟨b,_,T,rfl,by simp[aa.set]⟩)⟩⟩⟩)
      . rw [show es.length+xs.length=(es++xs).length by simp]
        refine V.ofRow (by simpa using g) (m.sh _ _ g2) g3 (λz M=>?_) (λj a B=>?_) ⟨rfl,rfl⟩
        . rcases List.mem_append.1 M with M|M
          . exact g4 z M
          . exact ay.2 z M
        . rw[flatten_append]at B
          by_cases hj:j<(flatten es).length
          . rw[List.getElem?_append_left hj]at B
            obtain⟨u,hu,c6,c7⟩:=g5 j a B;exact⟨u,m.cell _ _ _ hu,c6.mono m,c7⟩
          . rw[List.getElem?_append_right (by omega)]at B
            have J:j-(flatten es).length<c.size:=by rw[<-ay.1];exact(List.getElem?_eq_some_iff.1 B).1
            have G:c[j-(flatten es).length]?=some c[j-(flatten es).length]:=by simp[J]
            refine⟨_,?_,(a7 _ _ a G B).mono m,U _ _ G⟩;have:=A (j-(flatten es).length) _ (by rw[Array.getElem?_toList];exact G)
            rw[<-this];congr 1;have b0:=aZ g4;omega
      . rw[c5]
        have:off+es.length*i.size+0+c.toList.length=off+(es++xs).length*i.size:=by simp only[Array.length_toList,l,List.length_append,Nat.add_mul];omega
        rw[this];exact(X.mono m).set (.tail _)
      . intro b' y hy
        have:b'≠b:=λq=>by rw[q,T]at hy;cases hy
        simp[aa.set,this,p b' y hy]
 ·
  rw[if_neg g]
  have b1:¬((es.length+xs.length:Nat):Int)>IntKind.i64.max:=by have:IntKind.i64.max=9223372036854775807:=rfl;rw[this];omega
  refine af (cV L he λinfo _ _ cm _=>?_)
  rw[if_neg (λq=>b1 q.1)]
  refine af (cV L he λa9 _ _ b2 _=>?_)
  have ad:=nextslicecap_le (Nat.lt_of_not_le g)
  have al:¬(Builtin.nextslicecap (es.length+xs.length) cap*a9.bytes>2 ^ 48):=by rw[b2];have h1:Builtin.nextslicecap (es.length+xs.length) cap*i.bytes<=(4*(es.length+xs.length)+2000)*1024:=Nat.mul_le_mul ad hb;omega
  rw[if_neg al];refine af (s:=choose _) (λt=>?_)
  have Q:(Question.appendCap (es.length+xs.length) cap e).forced=false:=rfl;rw[Q];simp only[Bool.false_eq_true,if_false];have c8:∃f,(Question.appendCap (es.length+xs.length) cap e).cut t=f/\es.length+xs.length<=f:=⟨_,rfl,by simp only[Question.cut];omega⟩
  obtain⟨f,b3,b4⟩:=c8;rw[b3];refine aj ?_;refine af (cV L he λca _ _ _ _=>?_)
  refine af (pw ?_);refine af (qf (a:=ar env s) (by rw[<-H];exact hv s (by simp[ho,Op.operands,Call.operands])) hs.RL (Nat.le_refl _) λc l a7 U=>?_)
  refine af (qf D S (Nat.le_refl _) λd b5 Z cb=>?_)
  refine af (cU L he ?_)
  have b6:∀e∈es,e.cells.length=i.size:=by
   rcases I with⟨_,_,rfl⟩|⟨_,_,_,_,_,_,_,_,_,_,q,_⟩
   . simp
   . exact q
  have C:∀e∈xs,e.cells.length=i.size:=by
   rcases S with⟨_,rfl⟩|⟨sp,S⟩
   . simp
   . rw[S]at D
     rcases D.lq with⟨_,_,rfl,_⟩|⟨_,_,_,_,_,_,_,_,_,Y,_⟩
     . simp
     . exact Y
  have b7:(Builtin.zeroCells i.zero.cells (f-(es.length+xs.length))).size=(f-(es.length+xs.length))*i.size:=by simp[Builtin.zeroCells,bz]
  refine af (vt (n:=(es.length+xs.length)*i.size) ?_ λr k' O' W ht=>aj (aj ⟨_,.inl rfl,?_⟩))
  . simp only[Array.size_append,l,b5,b7,Nat.add_mul];omega
  . obtain ⟨k2,O2,hg,m,A,cg,b8⟩:=ht
    refine⟨k2,O2,hg,m,.sl i.size (es++xs) (.tok r ((es++xs).length*i.size)),σ.set r (.tail ((es++xs).length*i.size)),?_,?_,hK _ _ ⟨?_,.inr (.inr ⟨r,_,?_,rfl,by simp[aa.set]⟩)⟩⟩
    . rw [show es.length+xs.length=(es++xs).length by simp]
      refine V.ofRow (by simpa using b4) cg ?_ (λz M=>?_) (λj a B=>?_) ⟨rfl,by omega⟩
      . simp only[Array.size_append,l,b5,b7]
        have:f*i.size=(es.length+xs.length)*i.size+(f-(es.length+xs.length))*i.size:=by rw[<-Nat.add_mul];congr 1;omega
        rw[this,Nat.add_mul];omega
      . rcases List.mem_append.1 M with M|M
        . exact b6 z M
        . exact C z M
      . rw [flatten_append]at B
        have b0:=aZ b6;have cv:=aZ C;rw[Nat.zero_add]
        by_cases hj:j<(flatten es).length
        . rw[List.getElem?_append_left hj]at B
          have J:j<c.size:=by omega
          have G:c[j]?=some c[j]:=by simp[J]
          refine⟨c[j],A j _ ?_ ?_,(a7 j _ a G B).mono m,U j _ G⟩
          . rw[Nat.add_mul];omega
          . rw[Array.append_assoc,Array.getElem?_append_left J];exact G
        . rw[List.getElem?_append_right (by omega)]at B
          have J:j-(flatten es).length<d.size:=by have:=(List.getElem?_eq_some_iff.1 B).1;omega
          have av:d[j-(flatten es).length]?=some d[j-(flatten es).length]:=by simp[J]
          refine⟨_,A j _ ?_ ?_,(Z _ _ a av B).mono m,cb _ _ av⟩
          . rw[Nat.add_mul];omega
          . rw[Array.append_assoc,Array.getElem?_append_right (by omega),Array.getElem?_append_left (by omega),l,<-b0];exact av
    . have:=b8 σ X
      rw[List.length_append];exact this
    . intro b' y hy
      have h1:=p b' y hy;have:b'≠r:=λq=>by rw[q,X.isNone W.1 W.2.2]at h1;cases h1
      simp[aa.set,this,h1]
    . cases q:σ0 r with
      |none=>rfl
      |some y=>have:=p r y q;rw[X.isNone W.1 W.2.2]at this;cases this
end
end Go.bd

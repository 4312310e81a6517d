/- Part 8 of the proof. -/
import Derived.Test.YtigilmjkokbblaaGreatDoorC7
set_option linter.all false
namespace Go.bd
open Go.Conc
def JU(σ:aa)(a:AV)(kk:Nat)(es:List AV):Prop:=Es a kk es\/∃b off cap l,a=.ew b off es.length cap/\σ b=some (.cells l)/\(∀e∈es,e.cells.length=kk)/\∀(j:Nat) x,(flatten es)[j]?=some x->l[off+j]?=some x
def bw(σ0 σ:aa)(a:AV)(kk:Nat)(es:List AV):Prop:=σ0.Le σ/\((es=[]/\(a=.nil\/a=.sl kk [] .exact))\/∃b cap rest,a=.ew b 0 es.length cap/\σ0 b=none/\es.length<=cap/\(∀e∈es,e.cells.length=kk)/\σ b=some (.cells (flatten es++rest))/\rest.length=(cap-es.length)*kk)
theorem bw.rd{σ0 σ:aa}{a:AV}{kk:Nat}{es:List AV}(h:bw σ0 σ a kk es):JU σ a kk es:=by
 rcases h.2 with⟨rfl,rfl|rfl⟩|⟨b,cap,rest,rfl,_,_,d,e,_⟩
 . exact .inl (.inl ⟨rfl,rfl⟩)
 . exact .inl (.inr ⟨_,rfl⟩)
 . refine .inr ⟨b,0,cap,_,rfl,e,d,λj x c=>?_⟩
   rw[Nat.zero_add,List.getElem?_append_left (List.getElem?_eq_some_iff.1 c).1];exact c
theorem bw.empty(σ:aa)(kk:Nat):bw σ σ (.sl kk [] .exact) kk []:=⟨λ_ _ h=>h,.inl ⟨rfl,.inr rfl⟩⟩
theorem bw.thaw{σ0 σ:aa}{a:AV}{kk:Nat}{es:List AV}{f:dV->aa->Prop}(h:bw σ0 σ a kk es)(d:f (.val (.sl kk es .any)) σ0):oc f (.val a) σ:=by
 rcases h.2 with⟨rfl,rfl|rfl⟩|⟨b,cap,rest,rfl,k,l,g,m,n⟩
 . exact .less h.1 (.iI (cW kk) (.done d))
 . exact .less h.1 (.iI (ck kk _ _) (.done d))
 . have o:=aZ g
   refine .freeze b _ m (.sl 0 cap kk es .any l ?_ g (λj x i=>?_) (.inl rfl)) (Hw.del b _ σ) (.less (λc y e=>?_) (.done d))
   . have:cap*kk=es.length*kk+(cap-es.length)*kk:=by rw[<-Nat.add_mul];congr 1;omega
     simp only[List.length_append,o,n];omega
   . rw[Nat.zero_add,List.getElem?_append_left (List.getElem?_eq_some_iff.1 i).1];exact i
   . have:c≠b:=λq=>by rw[q,k]at e;cases e
     simp only[aa.del,this,if_false];exact h.1 c y e
section
variable{P:Program}(L:iG P){k:ah}{O:ai}{Kp:Value->ah->ai->Prop}
theorem V.JV{v:Value}{b off len cap:Nat}(h:V k v (.ew b off len cap)):v=.slice (some ⟨b,off,none⟩) len cap:=by cases h;rfl
theorem V.JW{v:Value}(h:V k v .nil):v=.slice none 0 0:=by cases h;rfl
theorem JU.facts{σ:aa}{v:Value}{a:AV}{kk:Nat}{es:List AV}(h:JU σ a kk es)(c:V k v a):∃base cap,v=.slice base es.length cap/\∀e∈es,e.cells.length=kk:=by
 rcases h with(⟨rfl,rfl⟩|⟨sp,rfl⟩)|⟨b,off,cap,l,rfl,i,d,j⟩
 . cases c;exact⟨none,0,rfl,by simp⟩
 . rcases c.lq with⟨f,rfl,rfl,_⟩|⟨b,off,cap,N,E,rfl,m,n,o,g,_⟩
   . exact⟨f,0,rfl,by simp⟩
   . exact⟨_,cap,rfl,g⟩
 . cases c;exact⟨_,cap,rfl,d⟩
theorem ri{K:Array Value->ah->ai->Prop}{σ:aa}{v:Value}{a:AV}{kk:Nat}{es:List AV}(p:V k v a)(s:Rel k O σ)(g:JU σ a kk es)
 (q:∀c:Array Value,c.size=es.length*kk->(∀(j:Nat) u x,c[j]?=some u->(flatten es)[j]?=some x->V k u x)->(∀(j:Nat) u,c[j]?=some u->flat u=true)->K c k O):eh P (Builtin.firstCells kk es.length v) k O K Kp:=by
 rcases g with g|⟨b,off,cap,l,rfl,t,w,z⟩
 . exact qf p g (Nat.le_refl _) q
 . cases p
   obtain⟨y,A,B⟩:=s.1 b _ t (by simp)
   cases B with
   | cells C e _ r D E=>
     unfold Builtin.firstCells loadCells;have F:=aZ w;refine je (l:=flatten es) (base:=off) (off:=0) (λj x i=>?_) (es.length*kk) 0 #[] (by omega) λvs m n o=>?_
     . have d:=z j x i
       have f:off+j<C.size:=by rw[r];exact(List.getElem?_eq_some_iff.1 d).1
       exact np.own (k:=k) A r D E (off+j) x d|>.imp λv h=>by simpa using h
     . refine q _ (by simp[m]) (λj u x f i=>n j u x (by simpa using f) (by simpa using i)) (λj u f=>o u ?_)
       have:vs[j]?=some u:=by simpa using f
       exact List.mem_of_getElem? this
end
section
variable{P:Program}(L:iG P){o:Oper}{env:Env}{σ:aa}{K:AV->aa->Prop}{Kp:AV->aa->Prop}
theorem eG{s x:Operand}{H:Array TypeId}{t t2 e e2:Nat}{it al m:TI}{σ0:aa}{es xs:List AV}(ho:o.op=.call ⟨.builtin .append,#[s,x],H⟩)(h0:H[0]?=some t)(I:H[1]?=some t2)(ht:L.tt t=some it)(hk:it.kind=.slice e)
 (bz:L.tt t2=some al) (bA:al.kind=.slice e2) (J:L.tt e=some m) (hb:m.bytes<=1024) (hlen:es.length+xs.length<=1073741824) (hs:bw σ0 σ (ar env s) m.size es) (hx:JU σ (ar env x) m.size xs)
 (E:(jZ m.zero).cells.all AV.flat=true) (hK:∀a' σ',bw σ0 σ' a' m.size (es++xs)->K a' σ'):aK P o env σ K Kp:=λk O ρ g Q=>by
 have w:=g s (by simp[ho,Op.operands,Call.operands])
 have S:=g x (by simp[ho,Op.operands,Call.operands])
 have:execOp ρ o=(do pure (Next.value (<-Builtin.append_ H o.type #[ρ s,ρ x]))):=by simp[execOp,ho,resolve,invoke,builtin]
 rw[this];refine af ?_;have av:m.zero.cells.size=m.size:=by obtain⟨_,_,_,_,_,_,h⟩:=L.facts J;exact h
 obtain⟨base,cap,A,T⟩:=hs.rd.facts w;obtain⟨bB,dd,R,U⟩:=hx.facts S;have B:=hs.1;unfold Builtin.append_;simp only[h0,I,List.getElem?_toArray,List.getElem?_cons_zero,List.getElem?_cons_succ];refine af (aD L ht λd _ hd=>?_)
 rw[bs hd hk,A];dsimp only;refine af (bQ L J ?_);refine af (aD L bz λd2 _ W=>?_)
 rw[bs W bA];refine af (aj ?_);dsimp only;simp only[Bool.false_eq_true,if_false,Bool.not_false,if_true];refine af (s:=Builtin.lenOf (ρ x)) ?_;rw[R];refine aj ?_;rw[<-R];have F:=aZ T;have ax:=aZ U
 by_cases n:es.length+xs.length<=cap
 ·
  rw[if_pos n];refine af (ri S Q hx λc C X M=>?_)
  rcases hs.2 with⟨rfl,p⟩|⟨b,ay,rest,p,b0,hc,_,N,D⟩
  . have dj:cap=0:=by
     rcases p with p|p
     . rw[p,A]at w;have:=w.JW;simp only[Value.slice.injEq]at this;exact this.2.2
     . rw[p,A]at w
       rcases w.lq with⟨_,q1,_,_⟩|⟨_,_,ay,_,_,q1,_,_,_,_,_,q7⟩
       . cases q1;rfl
       . cases q1;exact q7
    have b1:xs=[]:=by cases xs with|nil=>rfl|cons _ _=>simp at n;omega
    subst b1
    have c5:c.toList=[]:=by
     have:c.size=0:=by simpa using C
     simpa using this
    have b2:V k (.slice base 0 cap) (ar env s):=by rw[A]at w;simpa using w
    cases base with
    |none=>dsimp only;refine aj (aj ⟨_,.inl rfl,.here ⟨.refl k,ar env s,σ,?_,Q,hK _ _ ⟨B,.inl ⟨rfl,p⟩⟩⟩⟩);simpa using b2
    |some ad=>dsimp only;rw[c5];refine af (aj ?_);refine aj (aj ⟨_,.inl rfl,.here ⟨.refl k,ar env s,σ,?_,Q,hK _ _ ⟨B,.inl ⟨rfl,p⟩⟩⟩⟩);simpa using b2
  . rw [p, A] at w
    have hinv:=w.JV;simp only[Value.slice.injEq,true_and]at hinv;obtain⟨rfl,rfl⟩:=hinv;obtain⟨y,hO,Y⟩:=Q.1 b _ N (by simp)
    cases Y with
    | cells cc et _ g1 g2 g3=>
      dsimp only;rw[gz]
      have Z:cc.size=cap*m.size:=by rw[g1,List.length_append,F,D,<-Nat.add_mul];congr 1;omega
      have hmul:(es.length+xs.length)*m.size<=cc.size:=by rw[Z];exact Nat.mul_le_mul_right _ n
      rw[Nat.add_mul]at hmul;refine af (pv c.toList 0 cc O hO (by simp[C];omega) (λu hu=>?_) λO' c' c6 c7 b3=>?_)
      . obtain⟨j,hj,rfl⟩:=List.mem_iff_getElem.1 hu
        exact M j _ (by simp at hj;simp[hj])
      . have dr:xs.length*m.size<=rest.length:=by rw[D];exact Nat.mul_le_mul_right _ (by omega)
        refine aj (aj ⟨_,.inl rfl,.here ⟨.refl k,.ew b 0 (es++xs).length cap,σ.set b (.cells (flatten (es++xs)++rest.drop (xs.length*m.size))),?_,?_,hK _ _ ⟨?_,.inr ⟨b,cap,rest.drop (xs.length*m.size),rfl,b0,by simpa using n,λz E=>?_,by simp[aa.set],?_⟩⟩⟩⟩)
        . rw[show es.length+xs.length=(es++xs).length by simp]
          exact .ew ..
        . rw [c6]
          refine Q.set (.cells c' et _ ?_ (λi v a g p=>?_) (λi v g=>?_))
          . rw[c7,g1,flatten_append];simp only[List.length_append,List.length_drop,ax];omega
          . rw [b3]at g
            simp only[Nat.zero_add,Array.length_toList,C,Nat.add_zero]at g;rw[flatten_append,List.append_assoc]at p
            by_cases I:i<es.length*m.size
            . rw[if_neg (by omega)]at g
              rw[List.getElem?_append_left (by omega)]at p
              exact g2 i v a g (by rw[List.getElem?_append_left (by omega)];exact p)
            . rw[List.getElem?_append_right (by omega),F]at p
              by_cases h2:i<es.length*m.size+xs.length*m.size
              . rw[if_pos (by omega)]at g
                rw[List.getElem?_append_left (by omega)]at p
                exact X _ v a (by simpa using g) p
              . rw[if_neg (by omega)]at g
                rw[List.getElem?_append_right (by omega),List.getElem?_drop]at p
                refine g2 i v a g ?_;rw[List.getElem?_append_right (by omega),F,<-p]
                congr 1;omega
          . rw[b3]at g
            split at g
            . exact M _ v (by simpa using g)
            . exact g3 i v g
        . intro b' y Y
          have:b'≠b:=λq=>by rw[q,b0]at Y;cases Y
          simp[aa.set,this,B b' y Y]
        . rcases List.mem_append.1 E with E|E
          . exact T z E
          . exact U z E
        . rw[List.length_drop,D,List.length_append,<-Nat.sub_mul];congr 1;omega
 ·
  rw[if_neg n]
  have b4:¬((es.length+xs.length:Nat):Int)>IntKind.i64.max:=by have:IntKind.i64.max=9223372036854775807:=rfl;rw[this];omega
  refine af (cV L J λinfo _ _ dx _=>?_)
  rw[if_neg (λq=>b4 q.1)]
  refine af (cV L J λa7 _ _ b5 _=>?_)
  have a8:=nextslicecap_le (Nat.lt_of_not_le n)
  have a9:¬(Builtin.nextslicecap (es.length+xs.length) cap*a7.bytes>2 ^ 48):=by rw[b5];have I:Builtin.nextslicecap (es.length+xs.length) cap*m.bytes<=(4*(es.length+xs.length)+2000)*1024:=Nat.mul_le_mul a8 hb;omega
  rw[if_neg a9];refine af (s:=choose _) (λt=>?_)
  have G:(Question.appendCap (es.length+xs.length) cap e).forced=false:=rfl;rw[G];simp only[Bool.false_eq_true,if_false];have c8:∃f,(Question.appendCap (es.length+xs.length) cap e).cut t=f/\es.length+xs.length<=f:=⟨_,rfl,by simp only[Question.cut];omega⟩
  obtain⟨f,b6,b7⟩:=c8;rw[b6];refine aj ?_;refine af (cV L J λca _ _ _ _=>?_)
  refine af (pw ?_);refine af (ri (a:=ar env s) (by rw[<-A];exact w) Q hs.rd λc C X M=>?_)
  refine af (ri S Q hx λd cb W cg=>?_)
  refine af (cU L J ?_);have cl:=wj (k:=k) E
  have b8:(Builtin.zeroCells m.zero.cells (f-(es.length+xs.length))).size=(f-(es.length+xs.length))*m.size:=by simp[Builtin.zeroCells,av]
  have cm:∀(i:Nat) v,(Builtin.zeroCells m.zero.cells (f-(es.length+xs.length)))[i]?=some v->flat v=true:=by
   intro i v g;have hi:=(Array.getElem?_eq_some_iff.1 g).1;simp only[Builtin.zeroCells]at g;obtain⟨dy,J⟩:=Array.getElem?_eq_some_iff.1 g;simp at J;subst J
   have b9:0<m.zero.cells.size:=by
    rcases Nat.eq_zero_or_pos m.zero.cells.size with h|h
    . rw[b8,<-av,h]at hi;simp at hi
    . exact h
   have hm:i % m.zero.cells.size<m.zero.cells.size:=Nat.mod_lt _ b9;rw[getElem!_pos m.zero.cells _ hm];exact cl.2.2 (i % m.zero.cells.size) _ (by simp[hm])
  refine af (eY (l:=flatten (es++xs)++List.replicate ((f-(es.length+xs.length))*m.size) .bC) Q ?_ (λi v a g p=>?_) (λi v g=>?_) λr k' O' hn cv bq=>aj (aj ⟨_,.inl rfl,.here ⟨cv,.ew r 0 (es++xs).length f,_,?_,bq,hK _ _ ⟨λb' y Y=>?_,.inr ⟨r,f,List.replicate ((f-(es.length+xs.length))*m.size) .bC,rfl,?_,by simpa using b7,λz E=>?_,by simp[aa.set],?_⟩⟩⟩⟩))
  . simp only[Array.size_append,C,cb,b8,flatten_append,List.length_append,F,ax,List.length_replicate]
  . rw [flatten_append,List.append_assoc]at p
    rw[Array.append_assoc]at g
    by_cases I:i<es.length*m.size
    . rw[List.getElem?_append_left (by omega)]at p
      rw[Array.getElem?_append_left (by omega)]at g
      exact X i v a g p
    . rw[List.getElem?_append_right (by omega),F]at p
      rw[Array.getElem?_append_right (by omega),C]at g
      by_cases h2:i-es.length*m.size<xs.length*m.size
      . rw[List.getElem?_append_left (by omega)]at p
        rw[Array.getElem?_append_left (by omega)]at g
        exact W _ v a g p
      . rw[List.getElem?_append_right (by omega)]at p
        have:=List.mem_of_getElem? p;rw[List.mem_replicate]at this;rw[this.2];exact .bC _
  . rw[Array.append_assoc]at g
    by_cases I:i<es.length*m.size
    . rw[Array.getElem?_append_left (by omega)]at g;exact M i v g
    . rw[Array.getElem?_append_right (by omega),C]at g
      by_cases h2:i-es.length*m.size<xs.length*m.size
      . rw[Array.getElem?_append_left (by omega)]at g;exact cg _ v g
      . rw[Array.getElem?_append_right (by omega)]at g;exact cm _ v g
  . rw[show es.length+xs.length=(es++xs).length by simp];exact .ew ..
  . have I:=B b' y Y
    have:b'≠r:=λq=>by rw[q,hn]at I;cases I
    simp[aa.set,this,I]
  . cases q:σ0 r with
    |none=>rfl
    |some y=>have:=B r y q;rw[hn]at this;cases this
  . rcases List.mem_append.1 E with E|E
    . exact T z E
    . exact U z E
  . simp
end
def zq(env:Env)(len cap:Nat)(a b mx:Option Operand)(l h m:Nat):Prop:=
 (match mx with|none=>m=cap|some o=>(∃kd,ar env o=.lit (.int kd (m:Int)))/\m<=cap)/\
 (match b with|none=>mx=none/\h=len|some o=>(∃kd,ar env o=.lit (.int kd (h:Int)))/\h<=m)/\
 (match a with|none=>l=0|some o=>(∃kd,ar env o=.lit (.int kd (l:Int)))/\l<=h)
theorem zq.le{env:Env}{len cap:Nat}{b c mx:Option Operand}{l h m:Nat}(hb:zq env len cap b c mx l h m)(f:len<=cap):l<=h/\h<=m/\m<=cap:=by
 obtain⟨a,d,e⟩:=hb
 have g:m<=cap:=by
  cases mx with
  |none=>simp only at a;omega
  |some o=>exact a.2
 have i:h<=m:=by
  cases c with
  |none=>obtain⟨rfl,rfl⟩:=d;simp only at a;omega
  |some o=>exact d.2
 refine⟨?_,i,g⟩;cases b with
 |none=>simp only at e;omega
 |some o=>exact e.2
section
variable{P:Program}(L:iG P){k:ah}{O:ai}{Kp:Value->ah->ai->Prop}
theorem qh{K:Nat->ah->ai->Prop}{v:Value}{kd:IntKind}{z y:Nat}{c:BoundsCode}(a:V k v (.lit (.int kd (z:Int))))(d:z<=y)(b:K z k O):eh P (Instr.sliceBound v y c) k O K Kp:=by
 rw[cZ a];unfold Instr.sliceBound;refine af (aj ?_);dsimp only;rw[if_pos ⟨by omega,by omega⟩];exact aj (by simpa using b)
theorem jL{K:Nat × Nat × Nat->ah->ai->Prop}{env:Env}{ρ:Operand->Value}{isSlice:Bool}{len cap:Nat}{b d mx:Option Operand}{l h m:Nat}(hb:zq env len cap b d mx l h m)
 (g:∀o,(b=some o\/d=some o\/mx=some o)->V k (ρ o) (ar env o)) (p:K (l,h,m) k O):eh P (Instr.sliceBounds isSlice len cap (b.map ρ) (d.map ρ) (mx.map ρ)) k O K Kp:=by
 obtain⟨j,i,n⟩:=hb;unfold Instr.sliceBounds
 have a:∀c,eh P (do
  let l <-match b.map ρ with
   |some v=>Instr.sliceBound v h c
   |none=>pure 0
  pure (l,h,m):Sem (Nat × Nat × Nat)) k O K Kp:=by
  intro c;cases b with
  |none=>simp only at n;subst n;exact af (aj (aj p))
  |some o=>obtain⟨⟨kd,e⟩,f⟩:=n;have:=g o (.inl rfl);rw[e]at this;exact af (qh this f (aj p))
 cases mx with
 | none=>
   simp only at j;subst j;refine af (aj ?_);cases d with
   |none=>obtain⟨_,rfl⟩:=i;exact af (aj (a _))
   |some o=>obtain⟨⟨kd,e⟩,f⟩:=i;have:=g o (.inr (.inl rfl));rw[e]at this;exact af (qh this f (a _))
 | some r=>
   obtain⟨⟨u,s⟩,t⟩:=j;have q:=g r (.inr (.inr rfl));rw[s]at q;refine af (qh q t ?_);cases d with
   |none=>exact absurd i.1 (by simp)
   |some o=>obtain⟨⟨kd,e⟩,f⟩:=i;have:=g o (.inr (.inl rfl));rw[e]at this;exact af (qh this f (a _))
end
theorem sk{kk:Nat}:∀{es:List AV}(_:∀e∈es,e.cells.length=kk) (l:Nat),flatten (es.drop l)=(flatten es).drop (l*kk)
 |[],_,l=>by simp[flatten]
 |a::es,h,0=>by simp
 |a::es,h,l+1=>by rw[List.drop_succ_cons,sk (λe b=>h e (by simp[b])) l,flatten_cons,Nat.add_mul,Nat.one_mul,Nat.add_comm,<-List.drop_drop,<-h a (by simp),List.drop_left]
theorem sm{kk:Nat}:∀{es:List AV}(_:∀e∈es,e.cells.length=kk) (l:Nat),flatten (es.take l)=(flatten es).take (l*kk)
 |[],_,l=>by simp[flatten]
 |a::es,h,0=>by simp[flatten]
 | a::es,h,l+1=>by
   have c:=h a (by simp);have d:(l+1)*kk=l*kk+kk:=by rw[Nat.add_mul,Nat.one_mul]
   rw[List.take_succ_cons,flatten_cons,sm (λe b=>h e (by simp[b])) l,flatten_cons,List.take_append,List.take_of_length_le (l:=a.cells) (by omega)];congr 2;omega
section
variable{P:Program}(L:iG P){o:Oper}{env:Env}{σ:aa}{K:AV->aa->Prop}{Kp:AV->aa->Prop}
theorem jM{t:TypeId}{x:Operand}{a b mx:Option Operand}(c:o.op=.slice t x a b mx):x∈o.op.operands/\∀y,(a=some y\/b=some y\/mx=some y)->y∈o.op.operands:=by
 rw[c];refine⟨by simp[Op.operands],λy d=>?_⟩;rcases d with rfl|rfl|rfl<;>simp[Op.operands]
theorem V.JX{k:ah}{b off cap kk N E l h m:Nat}{es:List AV}{sp:cG}(p:k.sh b=some (E,N))(t:off+cap*kk<=N)(i:∀e∈es,e.cells.length=kk)
 (q:∀(j:Nat) a,(flatten es)[j]?=some a->∃v,k.cell b (off+j)=some v/\V k v a/\bd.flat v=true) (u:l<=h) (w:h<=m) (x:m<=cap) (r:h<=es.length) (d:sp=.any\/(sp=.exact/\m=h)):
 V k (.slice (if m=l then some ⟨b,off,none⟩else(some (⟨b,off,none⟩:Addr)).map (·.add (l*kk))) (h-l) (m-l)) (.sl kk ((es.drop l).take (h-l)) sp):=by
 have hlen:((es.drop l).take (h-l)).length=h-l:=by simp;omega
 have f:∀e∈(es.drop l).take (h-l),e.cells.length=kk:=λe n=>i e (List.mem_of_mem_drop (List.mem_of_mem_take n))
 by_cases g:m=l
 . rw[if_pos g]
   have s:h-l=0:=by omega
   have o:m-l=0:=by omega
   rw[s,o];have:(es.drop l).take 0=[]:=by simp
   rw[this];refine V.ofRow (kk:=kk) (es:=[]) (cap:=0) (by simp) p (by omega) (by simp) (λj a c=>by simp[flatten]at c) (by rcases d with rfl|⟨rfl,_⟩<;>simp[cG.fits])
 . rw [if_neg g,Option.map_some,gz]
   conv=>lhs;rw[<-hlen]
   refine V.ofRow (by rw[hlen];omega) p ?_ f (λj a c=>?_) ?_
   . have:=Nat.mul_le_mul_right kk (show l+(m-l)<=cap by omega)
     rw[Nat.add_mul]at this;omega
   . rw[sm (λe n=>i e (List.mem_of_mem_drop n)),sk i]at c
     rw[List.getElem?_take]at c;split at c
     . rw[List.getElem?_drop]at c
       rw[Nat.add_assoc];exact q _ a c
     . cases c
   . rcases d with rfl|⟨rfl,rfl⟩
     . trivial
     . show m-l=_;rw[hlen]
theorem rj{t e:Nat}{x:Operand}{g i:Option Operand}{it j:TI}{es:List AV}{sp:cG}{l h:Nat}(v:o.op=.slice t x g i none)(w:L.tt t=some it)(y:it.kind=.slice e)(z:L.tt e=some j)
 (G:ar env x=.sl j.size es sp) (hb:∀cap,es.length<=cap->zq env es.length cap g i none l h cap) (m:h<=es.length) (A:K (.sl j.size ((es.drop l).take (h-l)) .any) σ):aK P o env σ K Kp:=
 aK.val (s:=λf=>Instr.sliceAt t (f x) (g.map f) (i.map f) none) (λf=>by simp[execOp,v]) λk O f n B=>by
  obtain⟨H,C⟩:=jM v;have D:=n x H;rw[G]at D;unfold Instr.sliceAt;refine af (aD L w λW _ p=>?_);rw[bs p y];dsimp only;unfold Instr.slice;refine af (aD L w λd _ hd=>?_);rw[bs hd y];rcases D.lq with⟨I,q,rfl,_⟩|⟨b,off,cap,N,E,q,F,J,M,Q,R,X⟩
  . rw[q]
    have a:=hb 0 (by simp);have:=a.le (by simp);have r:l=0:=by omega
    have u:h=0:=by omega
    cases I<;>(
     dsimp only;refine af (jL (mx:=none) a (λo c=>n o (C o (by simpa using c))) ?_);dsimp only;refine af (bQ L z (aj (.here ⟨.refl k,_,σ,?_,B,A⟩)));subst r;subst u;simp only[if_true,Nat.sub_zero,List.drop_zero,List.take_nil];exact .slnil _ _ _ (.inl rfl))
  . rw[q]
    dsimp only;have a:=hb cap F;obtain⟨S,T,U⟩:=a.le F;refine af (jL (mx:=none) a (λo c=>n o (C o (by simpa using c))) ?_);dsimp only;refine af (bQ L z (aj (.here ⟨.refl k,_,σ,?_,B,A⟩)));exact V.JX J M Q R S T U m (.inl rfl)
theorem pC{t e:Nat}{x:Operand}{n p:Option Operand}{mx:Operand}{it q:TI}{es:List AV}{sp:cG}{l h:Nat}(B:o.op=.slice t x n p (some mx))(C:L.tt t=some it)(D:it.kind=.slice e)(r:L.tt e=some q)
 (I:ar env x=.sl q.size es sp) (hb:∀cap,es.length<=cap->zq env es.length cap n p (some mx) l h h) (u:h<=es.length) (v:∀a,(a=.sl q.size ((es.drop l).take (h-l)) .exact\/(es=[]/\a=.nil))->K a σ):aK P o env σ K Kp:=
 aK.val (s:=λg=>Instr.sliceAt t (g x) (n.map g) (p.map g) (some (g mx))) (λg=>by simp[execOp,B]) λk O g m w=>by
  obtain⟨J,y⟩:=jM B;have F:=m x J;rw[I]at F;unfold Instr.sliceAt;refine af (aD L C λX _ z=>?_);rw[bs z D];dsimp only;unfold Instr.slice;refine af (aD L C λd _ hd=>?_);rw[bs hd D];rcases F.lq with⟨G,A,rfl,_⟩|⟨b,off,cap,N,E,A,H,M,Q,R,S,Y⟩
  . rw[A]
    have c:=hb 0 (by simp);have:=c.le (by simp);have i:l=0:=by omega
    have j:h=0:=by omega
    cases G with
    | none=>
      dsimp only;refine af (jL (mx:=some mx) c (λo f=>m o (y o f)) ?_);dsimp only;refine af (bQ L r (aj (.here ⟨.refl k,.nil,σ,?_,w,v _ (.inr ⟨rfl,rfl⟩)⟩)));subst i;subst j;simp only[if_true,Nat.sub_zero];exact .lit _
    | some G=>
      dsimp only;refine af (jL (mx:=some mx) c (λo f=>m o (y o f)) ?_);dsimp only;refine af (bQ L r (aj (.here ⟨.refl k,_,σ,?_,w,v _ (.inl rfl)⟩)));subst i;subst j;simp only[if_true,Nat.sub_zero,List.drop_zero,List.take_nil];exact .slnil _ _ _ (.inr ⟨rfl,rfl⟩)
  . rw[A]
    dsimp only;have c:=hb cap H;obtain⟨T,U,W⟩:=c.le H;refine af (jL (mx:=some mx) c (λo f=>m o (y o f)) ?_);dsimp only;refine af (bQ L r (aj (.here ⟨.refl k,_,σ,?_,w,v _ (.inl rfl)⟩)));exact V.JX M Q R S T U W u (.inr ⟨rfl,rfl⟩)
end
section
variable{P:Program}(L:iG P){k:ah}{O:ai}{Kp:Value->ah->ai->Prop}
end
section
variable{P:Program}(L:iG P){o:Oper}{env:Env}{σ:aa}{K:AV->aa->Prop}{Kp:AV->aa->Prop}
theorem Hx{i:TI}{d:TypeDesc}(h:dJ P i d=true)(a:i.kind=.bool):d=.bool:=by cases d<;>simp_all [dJ]
theorem zr{op:BinOp}{t r:Nat}{x y:Operand}{i:TI}{p q:Bool}(g:o.op=.binOp op t x y r)(u:L.tt t=some i)(v:i.kind=.bool)(w:ar env x=.lit (.bool p))(z:ar env y=.lit (.bool q)){b:Bool}(c:(op=.eql/\b=(p==q))\/(op=.neq/\b=!(p==q)))(j:K (.lit (.bool b)) σ):aK P o env σ K Kp:=
 aK.val (s:=λa=>do eqGuard op t x y (a x) (a y);binOp op t (a x) (a y)) (λa=>by simp[execOp,g]) λk O a e l=>by
  have m:=e x (by simp[g,Op.operands])
  have n:=e y (by simp[g,Op.operands])
  rw[w]at m;rw[z]at n;rw[rb m,rb n];have A:eqGuard op t x y (.bool p) (.bool q)=pure ():=by rcases c with⟨rfl,_⟩|⟨rfl,_⟩<;>simp[eqGuard]
  rw[A];refine af (aj ?_)
  have f:∀(R:Bool->ah->ai->Prop) (h:Value->ah->ai->Prop),R (p==q) k O->eh P (Op.equal t (.bool p) (.bool q)) k O R h:=λR h B=>by
   show eh P (Op.equalIn (9999+1) t (.bool p) (.bool q)) k O R h;rw[Op.equalIn];refine af (aD L u λd _ hd=>?_)
   rw[Hx hd v];exact aj B
  rcases c with⟨rfl,rfl⟩|⟨rfl,rfl⟩
  . exact af (s:=Op.equal t (.bool p) (.bool q)) (f _ _ (aj (.here ⟨.refl k,_,σ,.lit _,l,j⟩)))
  . exact af (s:=Op.equal t (.bool p) (.bool q)) (f _ _ (aj (.here ⟨.refl k,_,σ,.lit _,l,j⟩)))
end
inductive kj{α:Sort _}(a:α):Type
 |mk
def yJ{α:Type}(x:Option α)(K:α->Prop)(u:kj K:=.mk):Prop:=∃a,x=some a/\K a
@[simp] theorem Hy{α:Type}{a:α}{K:α->Prop}{u:kj K}:yJ (some a) K u=K a:=by simp[yJ]
@[simp] theorem Hz{α:Type}{K:α->Prop}{u:kj K}:yJ (none:Option α) K u=False:=by simp[yJ]
@[simp] theorem sn{α β:Type}{f:α->β}{x:Option α}{K:β->Prop}{u:kj K}:yJ (x.map f) K u=yJ x (λa=>K (f a)):=by cases x<;>simp
def uM(x:Bool)(A B:Prop)(u:kj A:=.mk)(v:kj B:=.mk):Prop:=(x=true->A)/\(x=false->B)
@[simp] theorem od{A B:Prop}{u:kj A}{v:kj B}:uM true A B u v=A:=by simp[uM]
@[simp] theorem mI{A B:Prop}{u:kj A}{v:kj B}:uM false A B u v=B:=by simp[uM]
def Uz(σ:aa)(F:Nat->Prop)(u:kj F:=.mk):Prop:=∀b,σ b=none->F b
section
variable{P:Program}(L:iG P){o:Oper}{env:Env}{σ:aa}{K:AV->aa->Prop}{Kp:AV->aa->Prop}
theorem tC{x:Operand}{y t:Nat}{i:TI}(z:o.op=.typeAssert x y t true)(A:L.tt t=some i)(C:i.kind≠.iface)(D:ar env x=.lit .nilIface)
 (E:K (.bG [jZ i.zero,.lit (.bool false)]) σ):aK P o env σ K Kp:=
 aK.val (s:=λl=>Instr.typeAssert (l x) y t true) (λl=>by simp[execOp,z]) λk O l n F=>by
  have f:=n x (by simp[z,Op.operands]);rw[D]at f;generalize l x=v at f;cases f;unfold Instr.typeAssert;refine af (aD L A λB _ hd=>?_);have p:∀ms,B≠.interface ms:=λms e=>by subst e;simp[dJ]at hd;exact C hd
  have pair:∀{u:Value}{b:Bool}{a:AV},V k u a->V k (.tuple #[u,.bool b]) (.bG [a,.lit (.bool b)]):=λ{u b a} h=>.bG _ _ rfl λj w c f m=>by
   match j with
   |0=>simp at f m;subst f;subst m;exact h
   |1=>simp at f m;subst f;subst m;exact .lit _
   |j+2=>simp at f
  have fin:eh P ((do pure (.tuple #[<-zeroValue t,.bool false]):Sem Value)) k O (λv g q=>lR g q λr G=>k.Le r/\∃a d,V r v a/\Rel r G d/\K a d) (λv g q=>k.Le g/\∃a d,V g v a/\Rel g q d/\Kp a d):=af (cU L A (aj (.here ⟨.refl k,_,σ,pair (.jZ k _),F,E⟩)));cases B<;>first|exact fin|exact absurd rfl (p _)
end
def Nx(a:TI)(len:Nat)(parts:List (Nat × AV)):Bool:=decide (len*a.size<=16777216) && (jZ a.zero).cells.all AV.flat && (decide (len*a.size=0)||decide ((jZ a.zero).cells.length=a.size)) && (parts.map (·.1)==List.range len) && parts.all λp=>decide (p.2.cells.length=a.size) && p.2.cells.all AV.flat
theorem uN{size:Nat}:∀(parts:List (Nat × AV)) (l:List AV) (s:Nat),(parts.map (·.1)=List.range' s parts.length)->(∀p∈parts,p.2.cells.length=size/\p.2.cells.all AV.flat=true)->(s+parts.length)*size=l.length ->
 mG (λj=>some (j*size,size)) l parts=some (l.take (s*size)++flatten (parts.map (·.2)))
 |[],l,s,_,_,b=>by simp[mG,flatten]at b ⊢;rw[List.take_of_length_le (by omega)]
 | (i,a)::parts,l,s,e,h,b=>by
   simp only[List.map_cons,List.length_cons,List.range'_succ,List.cons.injEq]at e;obtain⟨rfl,e⟩:=e;obtain⟨f,k⟩:=h (i,a) (by simp)
   simp only[List.length_cons]at b
   have c:i*size+size<=l.length:=by
    rw[<-b];have:(i+(parts.length+1))*size=i*size+size+parts.length*size:=by rw[Nat.add_mul,Nat.add_mul,Nat.one_mul];omega
    omega
   have d:i*size+a.cells.length<=l.length:=by rw[f];exact c
   simp only[mG];rw[if_pos ⟨f,c,k⟩];rw[uN parts (aG l (i*size) a.cells) (i+1) e (λp g=>h p (by simp[g])) (by rw[mZ d,<-b];congr 1;omega)]
   congr 1;rw[List.map_cons,flatten_cons,<-List.append_assoc];congr 1;have:(i+1)*size=i*size+a.cells.length:=by rw[Nat.add_mul,Nat.one_mul,f]
   rw[this];unfold aG;rw[List.append_assoc,List.take_append,List.take_append];have m:(List.take (i*size) l).length=i*size:=by rw[List.length_take];omega
   rw[m,List.take_of_length_le (by omega)]
   congr 1;have n:i*size+a.cells.length-i*size=a.cells.length:=by omega
   rw[n,List.take_of_length_le (Nat.le_refl _),Nat.sub_self,List.take_zero,List.append_nil]
section
variable{P:Program}(L:iG P)
theorem Eu{o:Oper}{env:Env}{σ:aa}{K Kp:AV->aa->Prop}{t len e:Nat}{parts:Array (Nat × Operand)}{it a:TI}(g:o.op=.buildSlice t len parts)(i:L.tt t=some it)(j:it.kind=.slice e)(k:L.tt e=some a)
 (h:Nx a len (parts.toList.map λp=>(p.1,ar env p.2))=true) (l:K (.sl a.size (parts.toList.map λp=>ar env p.2) .exact) σ):aK P o env σ K Kp:=by
 simp only[Nx,Bool.and_eq_true,Bool.or_eq_true,List.all_eq_true,List.map_map,beq_iff_eq,decide_eq_true_eq]at h;obtain⟨⟨⟨⟨m,n⟩,q⟩,d⟩,f⟩:=h;have hlen:parts.toList.length=len:=by have:=congrArg List.length d;rwa [List.length_map,List.length_range]at this
 have b:∀p∈(parts.toList.map λp=>(p.1,ar env p.2)),p.2.cells.length=a.size/\p.2.cells.all AV.flat=true:=λp c=>⟨(f p c).1,by rw[List.all_eq_true];exact(f p c).2⟩
 refine yI L g i j k m (by rw[List.all_eq_true];exact n) q (es:=parts.toList.map λp=>ar env p.2) ⟨by simpa using hlen,λx r=>?_⟩ ?_ l
 . obtain⟨p,c,rfl⟩:=List.mem_map.1 r
   exact(b (p.1,ar env p.2) (List.mem_map.2 ⟨p,c,rfl⟩)).1
 . rw[uN (size:=a.size) _ _ 0 (by rw[List.map_map,d,List.length_map,hlen,List.range_eq_range']) b (by rw[List.length_map,hlen,List.length_map,List.length_range,Nat.zero_add])]
   simp[Function.comp_def]
inductive Out where
 |ok (a:AV) (σ:aa)
 |no
 |gQ (p:Prop) (x:Out)
 |new (σ:aa) (c:List AV)
 |panic (v:AV) (σ:aa)
def Out.opt(x:Option AV)(σ:aa):Out:=match x with|some a=>.ok a σ|none=>.no
def rk(x:Out)(K Kp:AV->aa->Prop)(u:kj K:=.mk)(v:kj Kp:=.mk):Prop:=
 match x with
 |.ok a σ=>K a σ
 |.no=>False
 |.gQ p x=>p/\rk x K Kp u v
 |.new σ c=>Uz σ λb=>K (.ref b 0) (σ.set b (.cells c))
 |.panic v σ=>Kp v σ
section
variable{K Kp:AV->aa->Prop}{u:kj K}{v:kj Kp}
@[simp] theorem Ul{a:AV}{σ:aa}:rk (.ok a σ) K Kp u v=K a σ:=propext Iff.rfl
@[simp] theorem Um:rk .no K Kp u v=False:=propext Iff.rfl
@[simp] theorem ny{p:Prop}{x:Out}:rk (.gQ p x) K Kp u v=(p/\rk x K Kp):=propext Iff.rfl
@[simp] theorem ir{x:Option AV}{σ:aa}:rk (.opt x σ) K Kp u v=yJ x (λa=>K a σ):=by cases x<;>simp[Out.opt]
end
def Ev(op:BinOp)(kd:IntKind)(a b:Int)(σ:aa):Out:=
 match op,kd with
 |.add,.i64=>.gQ (fits (a+b)) (.ok (.lit (.int .i64 (a+b))) σ)
 |.sub,.i64=>.gQ (fits (a-b)) (.ok (.lit (.int .i64 (a-b))) σ)
 |.mul,.i64=>.gQ (fits (a*b)) (.ok (.lit (.int .i64 (a*b))) σ)
 |.eql,_=>.ok (.lit (.bool (a==b))) σ
 |.neq,_=>.ok (.lit (.bool (a !=b))) σ
 |.lss,_=>.ok (.lit (.bool (decide (a<b)))) σ
 |.leq,_=>.ok (.lit (.bool (decide (a<=b)))) σ
 |.gtr,_=>.ok (.lit (.bool (decide (a>b)))) σ
 |.geq,_=>.ok (.lit (.bool (decide (a>=b)))) σ
 |.shl,_=>.gQ (0<=b) (.ok (.lit (.int kd (kd.wrap (a*2 ^ (min b.toNat kd.bits))))) σ)
 |.shr,_=>.gQ (0<=b) (.ok (.lit (.int kd (a.fdiv (2 ^ (min b.toNat kd.bits))))) σ)
 |op,kd=>.opt ((qE op kd a b).map .lit) σ
theorem JY{op:BinOp}{kd:IntKind}{a b:Int}{σ:aa}{K Kp:AV->aa->Prop}(h:rk (Ev op kd a b σ) K Kp):rf op kd a b λv=>K (.lit v) σ:=by
 have key:∀x:Option Value,rk (.opt (x.map .lit) σ) K Kp->∃v,x=some v/\K (.lit v) σ:=λx h=>by rw[ir,sn]at h;exact h
 cases op<;>first|exact key _ h|exact h|(cases kd<;>first|exact h|exact key _ h)
def A7(mu:List Nat)(o:Oper)(env:Env)(σ:aa):Out:=
 match o.op with
 |.move x=>.ok (ar env x) σ
 |.assign x=>.ok (ar env x) σ
 | .pick c a b=>match ar env c with
   |.lit (.bool x)=>.ok (if x then ar env a else ar env b) σ
   |_=>.no
 | .alloc t=>match L.tt t with
   |some i=>.gQ ((jZ i.zero).cells.all AV.flat=true) (.new σ (jZ i.zero).cells)
   |none=>.no
 |.box _ x=>.gQ ((ar env x).cells.all AV.flat=true) (if(match o.dst with|some d=>mu.contains d|none=>false)=true then .new σ (ar env x).cells else .ok (.cp (ar env x) 0) σ)
 | .load t p=>match L.tt t with
   |some i=>.opt (oW i σ (ar env p)) σ
   |none=>.no
 | .store t p x=>match L.tt t with
   |some i=>(match n8 i σ (ar env p) (ar env x)with|some n=>.ok (.lit undef) n|none=>.no)
   |none=>.no
 | .fieldAddr s x j=>match L.tt s with
   | some ⟨.struct,_,_,_,jd⟩=>(match jd[j]? with
     |some f=>.gQ (f.2.1≠0) (.opt (rY (ar env x) f.1) σ)
     |none=>.no)
   |_=>.no
 | .field s x j=>match L.tt s,ar env x with
   | some ⟨.struct,_,_,_,jd⟩,.agg l=>(match jd[j]? with
     |some f=>(match L.tt f.2.2 with|some q=>.opt (bW l f.1 q.size q.agg) σ|none=>.no)
     |none=>.no)
   |_,_=>.no
 | .indexAddr t x m=>match L.tt t with
   | some ⟨.slice e,_,_,_,_⟩=>(match L.tt e,ar env x,ar env m with
     |some g,.sl u es _,.lit (.int _ z)=>.gQ (u=g.size/\0<=z) (.opt ((es[z.toNat]?).map λa=>.cp a 0) σ)
     |some g,.ew b off len _,.lit (.int _ z)=>.gQ (0<=z/\z<len) (.ok (.ref b (off+z.toNat*g.size)) σ)
     |_,_,_=>.no)
   | some ⟨.array k e,_,_,_,_⟩=>(match L.tt e,ar env m with
     |some g,.lit (.int _ z)=>.gQ (0<=z/\z<k) (.opt (rY (ar env x) (z.toNat*g.size)) σ)
     |_,_=>.no)
   |_=>.no
 | .index t x m=>match L.tt t with
   | some ⟨.array k e,_,_,_,_⟩=>(match L.tt e,ar env x,ar env m with
     |some g,.agg l,.lit (.int _ z)=>.gQ (0<=z/\z<k) (.opt (bW l (z.toNat*g.size) g.size g.agg) σ)
     |_,_,_=>.no)
   |_=>.no
 | .binOp op t x y _=>match ar env x,ar env y with
   | .lit (.bool a),.lit (.bool b)=>(match L.tt t with
     | some ⟨.bool,_,_,_,_⟩=>(match op with
       |.eql=>.ok (.lit (.bool (a==b))) σ
       |.neq=>.ok (.lit (.bool (!(a==b)))) σ
       |_=>.no)
     |_=>.no)
   |.lit (.int kd a),.lit (.int h b)=>.gQ (kd=h\/op=.shl\/op=.shr) (if(match o.dst with|some d=>mu.contains d|none=>false)=true then .opt ((qE op kd a b).map .lit) σ else Ev op kd a b σ)
   |_,_=>.no
 | .unOp .not _ x=>match ar env x with
   |.lit (.bool b)=>.ok (.lit (.bool !b)) σ
   |_=>.no
 | .convert _ t x=>match L.tt t,ar env x with
   |some ⟨.int kd,_,_,_,_⟩,.lit (.int _ a)=>.ok (.lit (.int kd (kd.wrap a))) σ
   |_,_=>.no
 | .makeInterface t x=>match L.tt t with
   |some i=>.gQ (i.kind≠.iface) (.ok (.lg t (ar env x)) σ)
   |none=>.no
 |.makeFunc f fs cs=>.ok (.fn f (fs.toList.map (ar env)) (cs.toList.map (ar env))) σ
 | .extract x j=>match ar env x with
   |.bG l=>.opt (l[j]?) σ
   |_=>.no
 | .typeAssert x _ t true=>match L.tt t,ar env x with
   |some i,.lg d y=>.gQ (i.kind≠.iface) (.ok (if d=t then .bG [y,.lit (.bool true)]else .bG [jZ i.zero,.lit (.bool false)]) σ)
   |some i,.lit .nilIface=>.gQ (i.kind≠.iface) (.ok (.bG [jZ i.zero,.lit (.bool false)]) σ)
   |_,_=>.no
 |.nilCheck x=>match ar env x with|.cp v off=>.ok (.cp v off) σ|.ref b off=>.ok (.ref b off) σ|.kp b l hole off=>.ok (.kp b l hole off) σ|.fn (.func f) l r=>.ok (.fn (.func f) l r) σ|_=>.no
 | .panic x=>match ar env x with
   |.lg t y=>.panic (.lg t y) σ
   |_=>.no
 | .build t parts=>match L.tt t with
   |some i=>.gQ (i.kind=.struct/\(jZ i.zero).cells.all AV.flat=true) (.opt ((mG (λj=>(i.jd[j]?).map λx=>(x.1,x.2.1)) (jZ i.zero).cells (parts.toList.map λp=>(p.1,ar env p.2))).map .agg) σ)
   |none=>.no
 | .buildSlice t len parts=>match L.tt t with
   | some ⟨.slice e,_,_,_,_⟩=>(match L.tt e with
     |some g=>.gQ (Nx g len (parts.toList.map λp=>(p.1,ar env p.2))=true) (.ok (.sl g.size (parts.toList.map λp=>ar env p.2) .exact) σ)
     |none=>.no)
   |_=>.no
 | .call c=>match c.callee,c.args.toList with
   | .builtin .len,[x]=>(match ar env x with
     |.sl _ es _=>.ok (.lit (.int .i64 es.length)) σ
     |.lit (.slice none 0 0)=>.ok (.lit (.int .i64 0)) σ
     |.ew _ _ len _=>.ok (.lit (.int .i64 len)) σ
     |_=>.no)
   | .builtin .min,[x,y]=>(match ar env x,ar env y with
     |.lit (.int kd a),.lit (.int h b)=>.gQ (kd=h) (.ok (.lit (.int kd (if b<a then b else a))) σ)
     |_,_=>.no)
   | .builtin .max,[x,y]=>(match ar env x,ar env y with
     |.lit (.int kd a),.lit (.int h b)=>.gQ (kd=h) (.ok (.lit (.int kd (if b>a then b else a))) σ)
     |_,_=>.no)
   |_,_=>.no
 |_=>.no
def pD(o:Oper):Bool:=
 match o.op with
 |.buildSlice t _ _=>match L.tt t with|some ⟨.slice _,_,_,_,_⟩=>true|_=>false
 |.binOp _ t _ _ _=>match L.tt t with|some ⟨.int _,_,_,_,_⟩=>true|some ⟨.bool,_,_,_,_⟩=>true|_=>false
 |_=>qJ L o
theorem wA{mu:List Nat}{o:Oper}{env:Env}{σ:aa}{K Kp:AV->aa->Prop}(A:pD L o=true)(h:rk (A7 L mu o env σ) K Kp):aK P o env σ K Kp:=by
 unfold A7 at h;unfold pD qJ at A;split at h
 . next x g=>exact vE (.inl g) h
 . next x g=>exact vE (.inr g) h
 . next c a b g=>
   split at h
   . next x m=>exact Ge g m h
   . exact h.elim
 . next t g=>
   split at h
   . next i w=>exact B8 L g w h.1 h.2
   . exact h.elim
 . next t x g=>
   obtain⟨B,C⟩:=h;generalize (match o.dst with|some d=>mu.contains d|none=>false)=q at C;cases q
   . exact JL g B C
   . exact v7 g B C
 . next t p g=>
   split at h
   . next i w=>rw[ir]at h;obtain⟨a,B,C⟩:=h;exact AO L g w B C
   . exact h.elim
 . next t p x g=>
   split at h
   . next i w=>
     split at h
     . next a7 B=>exact B7 L g w B h
     . exact h.elim
   . exact h.elim
 . next s x j g=>
   split at h
   . next I J M jd w=>
     split at h
     . next f U=>rw[ny,ir]at h;obtain⟨B,a,C,S⟩:=h;exact rZ L g w rfl U B C S
     . exact h.elim
   . exact h.elim
 . next s x j g=>
   split at h
   . next I J M jd l w m=>
     split at h
     . next f U=>
       split at h
       . next fi V=>rw[ir]at h;obtain⟨a,B,C⟩:=h;exact B9 L g w rfl U V m B C
       . exact h.elim
     . exact h.elim
   . exact h.elim
 . next t x ix g=>
   split at h
   . next e I J M N w=>
     split at h
     . next T kk es sp kd z F m D=>rw[ny,ir,sn]at h;obtain⟨⟨rfl,G⟩,a,B,C⟩:=h;exact v8 L g w rfl F m D G B C
     . next T b off len cap kd z F m D=>exact uI L g w rfl F m D h.1 h.2
     . exact h.elim
   . next k e I J M N w=>
     split at h
     . next T kd z F D=>rw[ny,ir]at h;obtain⟨G,a,B,C⟩:=h;exact uH L g w rfl F D G B C
     . exact h.elim
   . exact h.elim
 . next t x ix g=>
   split at h
   . next k e I J M N w=>
     split at h
     . next T l kd z F m D=>rw[ny,ir]at h;obtain⟨G,a,B,C⟩:=h;exact Ca L g w rfl F m D G B C
     . exact h.elim
   . exact h.elim
 . next op t x y t2 g=>
   split at h
   . next a b m u=>
     split at h
     . next I J M N E=>
       split at h
       . exact zr L g E rfl m u (.inl ⟨rfl,rfl⟩) h
       . exact zr L g E rfl m u (.inr ⟨rfl,rfl⟩) h
       . exact h.elim
     . exact h.elim
   . next kd a H b m u=>
     obtain⟨W,h⟩:=h
     have n:(op≠.shl/\op≠.shr)->H=kd:=λZ=>by
      rcases W with h|h|h
      . exact h.symm
      . exact absurd h Z.1
      . exact absurd h Z.2
     generalize (match o.dst with|some d=>mu.contains d|none=>false)=q at h;cases q with
     | true=>
       simp only[if_true,ir,sn]at h;obtain⟨v,R,X⟩:=h;rw[n ⟨(λe=>by subst e;cases R),(λe=>by subst e;cases R)⟩]at u;exact c9 g m u R X
     |false=>
     simp only[Bool.false_eq_true,if_false]at h;have h:=JY h;unfold rf at h;split at h
     . rw[n (by simp)]at u;exact nu g m u (.inl ⟨rfl,rfl⟩) h.1 h.2
     . rw[n (by simp)]at u;exact nu g m u (.inr (.inl ⟨rfl,rfl⟩)) h.1 h.2
     . rw[n (by simp)]at u;exact nu g m u (.inr (.inr ⟨rfl,rfl⟩)) h.1 h.2
     . rw[n (by simp)]at u;exact c9 g m u rfl h
     . rw[n (by simp)]at u;exact c9 g m u rfl h
     . rw[n (by simp)]at u;exact c9 g m u rfl h
     . rw[n (by simp)]at u;exact c9 g m u rfl h
     . rw[n (by simp)]at u;exact c9 g m u rfl h
     . rw[n (by simp)]at u;exact c9 g m u rfl h
     . exact r7 g m u h.1 (.inl ⟨rfl,rfl⟩) h.2
     . exact r7 g m u h.1 (.inr ⟨rfl,rfl⟩) h.2
     . next B C S h4 h5 h6 h7 h8 h9 a8 a9=>
       obtain⟨v,R,X⟩:=h;rw[n ⟨λe=>by subst e;simp_all,λe=>by subst e;simp_all⟩]at u;exact c9 g m u R X
   . exact h.elim
 . next t x g=>
   split at h
   . next b m=>exact JO g m h
   . exact h.elim
 . next s t x g=>
   simp only[g]at A;split at h
   . next kd I J M N H a E m=>
     split at A
     . next ks b1 b2 b3 b4 kt c1 c2 c3 c4 hs Y=>rw[E]at Y;exact v9 L g hs E rfl rfl m h
     . cases A
   . exact h.elim
 . next t x g=>
   split at h
   . next i w=>exact nv L g w h.1 h.2
   . exact h.elim
 . next f fs cs g=>exact uJ g h
 . next x j g=>
   split at h
   . next l m=>rw[ir]at h;obtain⟨a,B,C⟩:=h;exact wh g m B C
   . exact h.elim
 . next x xt t g=>
   split at h
   . next i d y w m=>exact qI L g w h.1 m h.2
   . next i w m=>exact tC L g w h.1 m h.2
   . exact h.elim
 . next x g=>
   split at h
   . next v off m=>exact fq g (.inl ⟨_,_,m⟩) (by rw[m];exact h)
   . next b off m=>exact fq g (.inr (.inl ⟨_,_,m⟩)) (by rw[m];exact h)
   . next b l hole off m=>exact fq g (.inr (.inr (.inr ⟨_,_,_,_,m⟩))) (by rw[m];exact h)
   . next f l r m=>exact fq g (.inr (.inr (.inl ⟨_,_,_,m⟩))) (by rw[m];exact h)
   . exact h.elim
 . next x g=>
   split at h
   . next t y m=>exact Cb g m h
   . exact h.elim
 . next t parts g=>
   split at h
   . next i w=>rw[ny,ir,sn]at h;obtain⟨⟨B,C⟩,l,S,h4⟩:=h;exact Cd L g w B C S h4
   . exact h.elim
 . next t len parts g=>
   split at h
   . next e I J M N E=>
     split at h
     . next T F=>exact Eu L g E rfl F h.1 h.2
     . exact h.elim
   . exact h.elim
 . next c g=>
   simp only[g]at A;split at h
   . next x O Q=>
     simp only[O,Q]at A;have e:=lF O Q;split at A
     . next t G=>
       split at A
       . next e' I J M N E=>
         rw[e]at g;split at h
         . next kk es sp m=>exact AP L g G E rfl (.inl m) h
         . next m=>exact AP L (kk:=0) (sp:=.any) (es:=[]) g G E rfl (.inr ⟨m,rfl⟩) h
         . next b off len cap m=>exact zn L g G E rfl m h
         . exact h.elim
       . cases A
     . cases A
   . next x y O Q=>
     rw[lF O Q]at g;split at h
     . next kd a H b m u=>obtain⟨rfl,h⟩:=h;exact qe g m u (.inl ⟨rfl,rfl⟩) h
     . exact h.elim
   . next x y O Q=>
     rw[lF O Q]at g;split at h
     . next kd a H b m u=>obtain⟨rfl,h⟩:=h;exact qe g m u (.inr ⟨rfl,rfl⟩) h
     . exact h.elim
   . exact h.elim
 . exact h.elim
end
end Go.bd

import Derived.Test.YtkcceaplmgdnfaaGreatDoorC6
set_option linter.all false
namespace Go.bu
open Go.Conc
def Io(σ:aa)(a:AV)(kk:Nat)(es:List AV):Prop:=C1 a kk es\/∃b off cap l,a=.kB b off es.length cap/\σ b=some (.cells l)/\(∀e∈es,e.cells.length=kk)/\∀(j:Nat) x,(flatten es)[j]?=some x->l[off+j]?=some x
def kI(σ0 σ:aa)(a:AV)(kk:Nat)(es:List AV):Prop:=σ0.Le σ/\((es=[]/\(a=.nil\/a=.sl kk [] .exact))\/∃b cap rest,a=.kB b 0 es.length cap/\σ0 b=none/\es.length<=cap/\(∀e∈es,e.cells.length=kk)/\σ b=some (.cells (flatten es++rest))/\rest.length=(cap-es.length)*kk)
theorem kI.rd{σ0 σ:aa}{a:AV}{kk:Nat}{es:List AV}(h:kI σ0 σ a kk es):Io σ a kk es:=by
 rcases h.2 with⟨rfl,rfl|rfl⟩|⟨b,cap,rest,rfl,_,_,c,d,_⟩
 . exact .inl (.inl ⟨rfl,rfl⟩)
 . exact .inl (.inr ⟨_,rfl⟩)
 . refine .inr ⟨b,0,cap,_,rfl,d,c,λj x e=>?_⟩
   grind
theorem kI.empty(σ:aa)(kk:Nat):kI σ σ (.sl kk [] .exact) kk []:=⟨λ_ _ h=>h,.inl ⟨rfl,.inr rfl⟩⟩
theorem kI.thaw{σ0 σ:aa}{a:AV}{kk:Nat}{es:List AV}{e:cJ->aa->Prop}(h:kI σ0 σ a kk es)(d:e (.val (.sl kk es .any)) σ0):ml e (.val a) σ:=by
 rcases h.2 with⟨rfl,rfl|rfl⟩|⟨b,cap,rest,rfl,l,g,f,i,m⟩
 . exact .less h.1 (.lV (cz kk) (.done d))
 . exact .less h.1 (.lV (bQ kk _ _) (.done d))
 . have n:=bc f
   refine .freeze b _ i (.sl 0 cap kk es .any g ?_ f (λj x o=>?_) (.inl rfl)) (FP.del b _ σ) (.less (λc y k=>?_) (.done d))
   . have:cap*kk=es.length*kk+(cap-es.length)*kk:=by rw[<-Nat.add_mul];simp_all
     simp_all
   . grind
   . have:c≠b:=λq=>by simp_all
     simp only[aa.del,this,if_false];exact h.1 c y k
section
variable{P:Program}(L:hQ P){k:ai}{O:aj}{Kp:Value->ai->aj->Prop}
theorem V.Ip{v:Value}{b off len cap:Nat}(h:V k v (.kB b off len cap)):v=.slice (some ⟨b,off,none⟩) len cap:=by cases h;rfl
theorem V.Iq{v:Value}(h:V k v .nil):v=.slice none 0 0:=by cases h;rfl
theorem Io.facts{σ:aa}{v:Value}{a:AV}{kk:Nat}{es:List AV}(h:Io σ a kk es)(c:V k v a):∃base cap,v=.slice base es.length cap/\∀e∈es,e.cells.length=kk:=by
 rcases h with(⟨rfl,rfl⟩|⟨sp,rfl⟩)|⟨b,off,cap,l,rfl,d,f,g⟩
 . cases c;simp_all
 . rcases c.jW with⟨i,rfl,rfl,_⟩|⟨b,off,cap,N,E,rfl,j,m,n,o,_⟩
   . simp_all
   simp_all
 . cases c;simp_all
theorem p9{K:Array Value->ai->aj->Prop}{σ:aa}{v:Value}{a:AV}{kk:Nat}{es:List AV}(g:V k v a)(i:Rel k O σ)(d:Io σ a kk es)
 (m:∀c:Array Value,c.size=es.length*kk->(∀(j:Nat) u x,c[j]?=some u->(flatten es)[j]?=some x->V k u x)->(∀(j:Nat) u,c[j]?=some u->flat u=true)->K c k O):dk P (Builtin.firstCells kk es.length v) k O K Kp:=by
 rcases d with d|⟨b,off,cap,l,rfl,n,o,p⟩
 . exact oH g d (Nat.le_refl _) m
 . cases g
   obtain⟨y,q,r⟩:=i.1 b _ n (by simp);cases r with
   | cells s e _ t w z=>
     unfold Builtin.firstCells loadCells;have A:=bc o;refine iz (l:=flatten es) (base:=off) (off:=0) (λj x B=>?_) (es.length*kk) 0 #[] (by omega) λvs C D E=>?_
     . have f:=p j x B
       have F:off+j<s.size:=by grind
       exact nN.own (k:=k) q t w z (off+j) x f|>.imp λv h=>by grind
     grind
end
section
variable{P:Program}(L:hQ P){o:Oper}{env:Env}{σ:aa}{K:AV->aa->Prop}{Kp:AV->aa->Prop}
theorem qF{s x:Operand}{G:Array TypeId}{t t2 e e2:Nat}{it W g:TI}{σ0:aa}{es xs:List AV}(ho:o.op=.call ⟨.builtin .append,#[s,x],G⟩)(h0:G[0]?=some t)(N:G[1]?=some t2)(ht:L.tt t=some it)(hk:it.kind=.slice e)
 (av:L.tt t2=some W) (ax:W.kind=.slice e2) (H:L.tt e=some g) (hb:g.bytes<=1024) (hlen:es.length+xs.length<=1073741824) (hs:kI σ0 σ (au env s) g.size es) (hx:Io σ (au env x) g.size xs)
 (hz:(iP g.zero).cells.all AV.flat=true) (hK:∀a' σ',kI σ0 σ' a' g.size (es++xs)->K a' σ'):aJ P o env σ K Kp:=λk O ρ p J=>by
 have A:=p s (by simp_all)
 have Q:=p x (by simp_all)
 have:execOp ρ o=(do pure (Next.value (<-Builtin.append_ G o.type #[ρ s,ρ x]))):=by simp[execOp,ho,resolve,invoke,builtin]
 rw[this];refine ag ?_;have ay:g.zero.cells.size=g.size:=by obtain⟨_,_,_,_,_,_,h⟩:=L.facts H;exact h
 obtain⟨base,cap,B,b1⟩:=hs.rd.facts A;obtain⟨b2,c7,M,b3⟩:=hx.facts Q;have w:=hs.1;unfold Builtin.append_;simp only[h0,N,List.getElem?_toArray,List.getElem?_cons_zero,List.getElem?_cons_succ];refine ag (aE L ht λd _ hd=>?_)
 rw[bg hd hk,B];dsimp only;refine ag (bf L H ?_);refine ag (aE L av λd2 _ X=>?_)
 rw[bg X ax];refine ag (ah ?_);dsimp only;simp only[Bool.false_eq_true,if_false,Bool.not_false,if_true];refine ag (s:=Builtin.lenOf (ρ x)) ?_;rw[M];refine ah ?_;rw[<-M];have C:=bc b1;have b4:=bc b3
 by_cases n:es.length+xs.length<=cap
 ·
  rw[if_pos n];refine ag (p9 Q J hx λc D b5 Y=>?_)
  rcases hs.2 with⟨rfl,m⟩|⟨b,Z,rest,m,b6,hc,_,I,E⟩
  . have ca:cap=0:=by
     rcases m with m|m
     . rw[m,B]at A;have:=A.Iq;simp_all
     . rw[m,B]at A
       rcases A.jW with⟨_,q1,_,_⟩|⟨_,_,Z,_,_,q1,_,_,_,_,_,q7⟩
       . grind
       . cases q1;exact q7
    have a7:xs=[]:=by simp_all
    subst a7
    have b7:c.toList=[]:=by simp_all
    have cg:V k (.slice base 0 cap) (au env s):=by simp_all
    cases base with
    |none=>dsimp only;refine ah (ah ⟨_,.inl rfl,.here ⟨.refl k,au env s,σ,?_,J,hK _ _ ⟨w,.inl ⟨rfl,m⟩⟩⟩⟩);omega
    |some ad=>dsimp only;rw[b7];refine ag (ah ?_);refine ah (ah ⟨_,.inl rfl,.here ⟨.refl k,au env s,σ,?_,J,hK _ _ ⟨w,.inl ⟨rfl,m⟩⟩⟩⟩);omega
  . rw [m, B] at A
    have hinv:=A.Ip;simp only[Value.slice.injEq,true_and]at hinv;obtain⟨rfl,rfl⟩:=hinv;obtain⟨y,hO,hy⟩:=J.1 b _ I (by simp)
    cases hy with
    | cells cc et _ g1 g2 g3=>
      dsimp only;rw[fD]
      have R:cc.size=cap*g.size:=by rw[g1,List.length_append,C,E,<-Nat.add_mul];grind
      have hmul:(es.length+xs.length)*g.size<=cc.size:=by rw[R];exact Nat.mul_le_mul_right _ n
      rw[Nat.add_mul]at hmul;refine ag (nO c.toList 0 cc O hO (by grind) (λu hu=>?_) λO' c' b8 b9 bm=>?_)
      . obtain⟨j,hj,rfl⟩:=List.mem_iff_getElem.1 hu
        exact Y j _ (by grind)
      . have cm:xs.length*g.size<=rest.length:=by grind
        refine ah (ah ⟨_,.inl rfl,.here ⟨.refl k,.kB b 0 (es++xs).length cap,σ.set b (.cells (flatten (es++xs)++rest.drop (xs.length*g.size))),?_,?_,hK _ _ ⟨?_,.inr ⟨b,cap,rest.drop (xs.length*g.size),rfl,b6,by grind,λz hz=>?_,by simp[aa.set],?_⟩⟩⟩⟩)
        . rw[show es.length+xs.length=(es++xs).length by simp]
          exact .kB ..
        . rw [b8]
          refine J.set (.cells c' et _ ?_ (λi v a p m=>?_) (λi v p=>?_))
          . rw[b9,g1,flatten_append];grind
          . rw [bm]at p
            simp only[Nat.zero_add,Array.length_toList,D,Nat.add_zero]at p;rw[flatten_append,List.append_assoc]at m
            by_cases N:i<es.length*g.size
            . grind
            . rw[List.getElem?_append_right (by omega),C]at m
              by_cases h2:i<es.length*g.size+xs.length*g.size
              . grind
              . rw[if_neg (by omega)]at p
                rw[List.getElem?_append_right (by omega),List.getElem?_drop]at m
                refine g2 i v a p ?_;rw[List.getElem?_append_right (by omega),C,<-m]
                congr 1;omega
          grind
        . intro b' y hy
          have:b'≠b:=λq=>by grind
          simp[aa.set,this,w b' y hy]
        . grind
        . rw[List.length_drop,E,List.length_append,<-Nat.sub_mul];grind
 ·
  rw[if_neg n]
  have a8:¬((es.length+xs.length:Nat):Int)>IntKind.i64.max:=by have:IntKind.i64.max=9223372036854775807:=rfl;omega
  refine ag (cV L H λinfo _ _ cr _=>?_)
  rw[if_neg (λq=>a8 q.1)]
  refine ag (cV L H λS _ _ a9 _=>?_)
  have T:=nextslicecap_le (Nat.lt_of_not_le n)
  have U:¬(Builtin.nextslicecap (es.length+xs.length) cap*S.bytes>2 ^ 48):=by rw[a9];have N:Builtin.nextslicecap (es.length+xs.length) cap*g.bytes<=(4*(es.length+xs.length)+2000)*1024:=Nat.mul_le_mul T hb;omega
  rw[if_neg U];refine ag (s:=choose _) (λt=>?_)
  have F:(Question.appendCap (es.length+xs.length) cap e).forced=false:=rfl;rw[F];simp only[Bool.false_eq_true,if_false];have br:∃f,(Question.appendCap (es.length+xs.length) cap e).cut t=f/\es.length+xs.length<=f:=⟨_,rfl,by simp only[Question.cut];omega⟩
  obtain⟨f,ab,cb⟩:=br;rw[ab];refine ah ?_;refine ag (cV L H λbw _ _ _ _=>?_)
  refine ag (s8 ?_);refine ag (p9 (a:=au env s) (by simp_all) J hs.rd λc D b5 Y=>?_)
  refine ag (p9 Q J hx λd bx X cv=>?_)
  refine ag (cD L H ?_);have bA:=u' (k:=k) hz
  have bB:(Builtin.zeroCells g.zero.cells (f-(es.length+xs.length))).size=(f-(es.length+xs.length))*g.size:=by simp[Builtin.zeroCells,ay]
  have dj:∀(i:Nat) v,(Builtin.zeroCells g.zero.cells (f-(es.length+xs.length)))[i]?=some v->flat v=true:=by
   intro i v p;have hi:=(Array.getElem?_eq_some_iff.1 p).1;simp only[Builtin.zeroCells]at p;obtain⟨dm,H⟩:=Array.getElem?_eq_some_iff.1 p;simp at H;subst H
   have al:0<g.zero.cells.size:=by grind
   have hm:i % g.zero.cells.size<g.zero.cells.size:=Nat.mod_lt _ al;rw[getElem!_pos g.zero.cells _ hm];exact bA.2.2 (i % g.zero.cells.size) _ (by simp[hm])
  refine ag (iA (l:=flatten (es++xs)++List.replicate ((f-(es.length+xs.length))*g.size) .bJ) J ?_ (λi v a p m=>?_) (λi v p=>?_) λr k' O' hn c6 ar=>ah (ah ⟨_,.inl rfl,.here ⟨c6,.kB r 0 (es++xs).length f,_,?_,ar,hK _ _ ⟨λb' y hy=>?_,.inr ⟨r,f,List.replicate ((f-(es.length+xs.length))*g.size) .bJ,rfl,?_,by grind,λz hz=>?_,by simp[aa.set],?_⟩⟩⟩⟩))
  . simp only[Array.size_append,D,bx,bB,flatten_append,List.length_append,C,b4,List.length_replicate]
  . rw [flatten_append,List.append_assoc]at m
    rw[Array.append_assoc]at p
    by_cases N:i<es.length*g.size
    . rw[List.getElem?_append_left (by omega)]at m
      grind
    . rw[List.getElem?_append_right (by omega),C]at m
      rw[Array.getElem?_append_right (by omega),D]at p
      by_cases h2:i-es.length*g.size<xs.length*g.size
      . grind
      . rw[List.getElem?_append_right (by omega)]at m
        have:=List.mem_of_getElem? m;rw[List.mem_replicate]at this;rw[this.2];exact .bJ _
  . rw[Array.append_assoc]at p
    by_cases N:i<es.length*g.size
    . grind
    . rw[Array.getElem?_append_right (by omega),D]at p
      grind
  . rw[show es.length+xs.length=(es++xs).length by simp];exact .kB ..
  . have N:=w b' y hy
    have:b'≠r:=λq=>by grind
    simp[aa.set,this,N]
  . cases q:σ0 r with
    |none=>rfl
    |some y=>have:=w r y q;grind
  . grind
  . simp
end
def xY(env:Env)(len cap:Nat)(a b mx:Option Operand)(l h m:Nat):Prop:=
 (match mx with|none=>m=cap|some o=>(∃kd,au env o=.lit (.int kd (m:Int)))/\m<=cap)/\
 (match b with|none=>mx=none/\h=len|some o=>(∃kd,au env o=.lit (.int kd (h:Int)))/\h<=m)/\
 (match a with|none=>l=0|some o=>(∃kd,au env o=.lit (.int kd (l:Int)))/\l<=h)
theorem xY.le{env:Env}{len cap:Nat}{a b mx:Option Operand}{l h m:Nat}(hb:xY env len cap a b mx l h m)(c:len<=cap):l<=h/\h<=m/\m<=cap:=by
 obtain⟨d,e,f⟩:=hb
 grind
section
variable{P:Program}(L:hQ P){k:ai}{O:aj}{Kp:Value->ai->aj->Prop}
theorem oO{K:Nat->ai->aj->Prop}{v:Value}{kd:IntKind}{z y:Nat}{c:BoundsCode}(a:V k v (.lit (.int kd (z:Int))))(b:z<=y)(d:K z k O):dk P (Instr.sliceBound v y c) k O K Kp:=by
 rw[dC a];unfold Instr.sliceBound;refine ag (ah ?_);dsimp only;rw[if_pos ⟨by omega,by omega⟩];exact ah (by simp_all)
theorem jf{K:Nat × Nat × Nat->ai->aj->Prop}{env:Env}{ρ:Operand->Value}{isSlice:Bool}{len cap:Nat}{b d mx:Option Operand}{l h m:Nat}(hb:xY env len cap b d mx l h m)
 (g:∀o,(b=some o\/d=some o\/mx=some o)->V k (ρ o) (au env o)) (p:K (l,h,m) k O):dk P (Instr.sliceBounds isSlice len cap (b.map ρ) (d.map ρ) (mx.map ρ)) k O K Kp:=by
 obtain⟨i,j,n⟩:=hb;unfold Instr.sliceBounds
 have a:∀c,dk P (do
  let l <-match b.map ρ with
   |some v=>Instr.sliceBound v h c
   |none=>pure 0
  pure (l,h,m):Sem (Nat × Nat × Nat)) k O K Kp:=by
  intro c;cases b with
  |none=>simp only at n;subst n;exact ag (ah (ah p))
  |some o=>obtain⟨⟨kd,e⟩,f⟩:=n;have:=g o (.inl rfl);rw[e]at this;exact ag (oO this f (ah p))
 cases mx with
 | none=>
   simp only at i;subst i;refine ag (ah ?_);cases d with
   |none=>obtain⟨_,rfl⟩:=j;exact ag (ah (a _))
   |some o=>obtain⟨⟨kd,e⟩,f⟩:=j;have:=g o (.inr (.inl rfl));rw[e]at this;exact ag (oO this f (a _))
 | some r=>
   obtain⟨⟨u,s⟩,t⟩:=i;have q:=g r (.inr (.inr rfl));rw[s]at q;refine ag (oO q t ?_);cases d with
   |none=>simp_all
   |some o=>obtain⟨⟨kd,e⟩,f⟩:=j;have:=g o (.inr (.inl rfl));rw[e]at this;exact ag (oO this f (a _))
end
theorem qG{kk:Nat}:∀{es:List AV}(_:∀e∈es,e.cells.length=kk) (l:Nat),flatten (es.drop l)=(flatten es).drop (l*kk)
 |[],_,l=>by simp[flatten]
 |a::es,h,0=>by simp
 |a::es,h,l+1=>by rw[List.drop_succ_cons,qG (λe b=>h e (by simp[b])) l,flatten_cons,Nat.add_mul,Nat.one_mul,Nat.add_comm,<-List.drop_drop,<-h a (by simp),List.drop_left]
theorem qH{kk:Nat}:∀{es:List AV}(_:∀e∈es,e.cells.length=kk) (l:Nat),flatten (es.take l)=(flatten es).take (l*kk)
 |[],_,l=>by simp[flatten]
 |a::es,h,0=>by simp[flatten]
 | a::es,h,l+1=>by
   have c:=h a (by simp);have d:(l+1)*kk=l*kk+kk:=by grind
   rw[List.take_succ_cons,flatten_cons,qH (λe b=>h e (by simp[b])) l,flatten_cons,List.take_append,List.take_of_length_le (l:=a.cells) (by omega)]
   simp_all
section
variable{P:Program}(L:hQ P){o:Oper}{env:Env}{σ:aa}{K:AV->aa->Prop}{Kp:AV->aa->Prop}
theorem jg{t:TypeId}{x:Operand}{a b mx:Option Operand}(c:o.op=.slice t x a b mx):x∈o.op.operands/\∀y,(a=some y\/b=some y\/mx=some y)->y∈o.op.operands:=by simp_all
theorem V.Ir{k:ai}{b off cap kk N E l h m:Nat}{es:List AV}{sp:cQ}(p:k.sh b=some (E,N))(s:off+cap*kk<=N)(g:∀e∈es,e.cells.length=kk)
 (t:∀(j:Nat) a,(flatten es)[j]?=some a->∃v,k.cell b (off+j)=some v/\V k v a/\bu.flat v=true) (u:l<=h) (w:h<=m) (x:m<=cap) (q:h<=es.length) (c:sp=.any\/(sp=.exact/\m=h)):
 V k (.slice (if m=l then some ⟨b,off,none⟩else(some (⟨b,off,none⟩:Addr)).map (·.add (l*kk))) (h-l) (m-l)) (.sl kk ((es.drop l).take (h-l)) sp):=by
 have hlen:((es.drop l).take (h-l)).length=h-l:=by simp;omega
 have d:∀e∈(es.drop l).take (h-l),e.cells.length=kk:=λe i=>g e (List.mem_of_mem_drop (List.mem_of_mem_take i))
 by_cases f:m=l
 . rw[if_pos f]
   have r:h-l=0:=by omega
   have n:m-l=0:=by omega
   rw[r,n];have:(es.drop l).take 0=[]:=by simp
   rw[this];refine V.ofRow (kk:=kk) (es:=[]) (cap:=0) (by simp) p (by omega) (by simp) (λj a o=>by simp[flatten]at o) (by rcases c with rfl|⟨rfl,_⟩<;>simp[cQ.fits])
 . rw[if_neg f,Option.map_some,fD]
   conv=>lhs;rw[<-hlen]
   refine V.ofRow (by omega) p ?_ d (λj a o=>?_) ?_
   . have:=Nat.mul_le_mul_right kk (show l+(m-l)<=cap by omega)
     grind
   . rw[qH (λe i=>g e (List.mem_of_mem_drop i)),qG g]at o
     grind
   . rcases c with rfl|⟨rfl,rfl⟩
     . trivial
     . show m-l=_;rw[hlen]
theorem mT{t e:Nat}{x:Operand}{g i:Option Operand}{it j:TI}{es:List AV}{sp:cQ}{l h:Nat}(v:o.op=.slice t x g i none)(w:L.tt t=some it)(y:it.kind=.slice e)(z:L.tt e=some j)
 (G:au env x=.sl j.size es sp) (hb:∀cap,es.length<=cap->xY env es.length cap g i none l h cap) (m:h<=es.length) (A:K (.sl j.size ((es.drop l).take (h-l)) .any) σ):aJ P o env σ K Kp:=
 aJ.val (s:=λc=>Instr.sliceAt t (c x) (g.map c) (i.map c) none) (λc=>by simp[execOp,v]) λk O c n B=>by
  obtain⟨H,C⟩:=jg v;have D:=n x H;rw[G]at D;unfold Instr.sliceAt;refine ag (aE L w λW _ p=>?_);rw[bg p y];dsimp only;unfold Instr.slice;refine ag (aE L w λd _ hd=>?_);rw[bg hd y];rcases D.jW with⟨I,q,rfl,_⟩|⟨b,off,cap,N,E,q,F,J,M,Q,R,X⟩
  . rw[q]
    have a:=hb 0 (by simp);have:=a.le (by simp);have r:l=0:=by omega
    have u:h=0:=by omega
    cases I<;>(
     dsimp only;refine ag (jf (mx:=none) a (λo f=>n o (C o (by simpa using f))) ?_);dsimp only;refine ag (bf L z (ah (.here ⟨.refl k,_,σ,?_,B,A⟩)));subst r;subst u;simp only[if_true,Nat.sub_zero,List.drop_zero,List.take_nil];exact .slnil _ _ _ (.inl rfl))
  . rw[q]
    dsimp only;have a:=hb cap F;obtain⟨S,T,U⟩:=a.le F;refine ag (jf (mx:=none) a (λo f=>n o (C o (by omega))) ?_);dsimp only;refine ag (bf L z (ah (.here ⟨.refl k,_,σ,?_,B,A⟩)));exact V.Ir J M Q R S T U m (.inl rfl)
theorem jy{t e:Nat}{x:Operand}{n p:Option Operand}{mx:Operand}{it q:TI}{es:List AV}{sp:cQ}{l h:Nat}(B:o.op=.slice t x n p (some mx))(C:L.tt t=some it)(D:it.kind=.slice e)(r:L.tt e=some q)
 (I:au env x=.sl q.size es sp) (hb:∀cap,es.length<=cap->xY env es.length cap n p (some mx) l h h) (u:h<=es.length) (v:∀a,(a=.sl q.size ((es.drop l).take (h-l)) .exact\/(es=[]/\a=.nil))->K a σ):aJ P o env σ K Kp:=
 aJ.val (s:=λg=>Instr.sliceAt t (g x) (n.map g) (p.map g) (some (g mx))) (λg=>by simp[execOp,B]) λk O g m w=>by
  obtain⟨J,y⟩:=jg B;have F:=m x J;rw[I]at F;unfold Instr.sliceAt;refine ag (aE L C λX _ z=>?_);rw[bg z D];dsimp only;unfold Instr.slice;refine ag (aE L C λd _ hd=>?_);rw[bg hd D];rcases F.jW with⟨G,A,rfl,_⟩|⟨b,off,cap,N,E,A,H,M,Q,R,S,Y⟩
  . rw[A]
    have c:=hb 0 (by simp);have:=c.le (by simp);have i:l=0:=by omega
    have j:h=0:=by omega
    cases G with
    | none=>
      dsimp only;refine ag (jf (mx:=some mx) c (λo f=>m o (y o f)) ?_);dsimp only;refine ag (bf L r (ah (.here ⟨.refl k,.nil,σ,?_,w,v _ (.inr ⟨rfl,rfl⟩)⟩)));subst i;subst j;simp only[if_true,Nat.sub_zero];exact .lit _
    | some G=>
      dsimp only;refine ag (jf (mx:=some mx) c (λo f=>m o (y o f)) ?_);dsimp only;refine ag (bf L r (ah (.here ⟨.refl k,_,σ,?_,w,v _ (.inl rfl)⟩)));subst i;subst j;simp only[if_true,Nat.sub_zero,List.drop_zero,List.take_nil];exact .slnil _ _ _ (.inr ⟨rfl,rfl⟩)
  . rw[A]
    dsimp only;have c:=hb cap H;obtain⟨T,U,W⟩:=c.le H;refine ag (jf (mx:=some mx) c (λo f=>m o (y o f)) ?_);dsimp only;refine ag (bf L r (ah (.here ⟨.refl k,_,σ,?_,w,v _ (.inl rfl)⟩)));exact V.Ir M Q R S T U W u (.inr ⟨rfl,rfl⟩)
theorem AW{t e:Nat}{x:Operand}{f g mx:Option Operand}{it n:TI}{b off len cap l h m:Nat}(p:o.op=.slice t x f g mx)(q:L.tt t=some it)(r:it.kind=.slice e)(w:L.tt e=some n)
 (y:au env x=.kB b off len cap) (hb:xY env len cap f g mx l h m) (z:K (.kB b (if m=l then off else off+l*n.size) (h-l) (m-l)) σ):aJ P o env σ K Kp:=
 aJ.val (s:=λa=>Instr.sliceAt t (a x) (f.map a) (g.map a) (mx.map a)) (λa=>by simp[execOp,p]) λk O a u A=>by
  obtain⟨B,C⟩:=jg p;have v:=u x B;rw[y]at v;unfold Instr.sliceAt;refine ag (aE L q λD _ i=>?_);rw[bg i r];dsimp only;unfold Instr.slice;refine ag (aE L q λd _ hd=>?_);rw[bg hd r,v.Ip];dsimp only;refine ag (jf hb (λo j=>u o (C o j)) ?_);dsimp only;refine ag (bf L w (ah (.here ⟨.refl k,_,σ,?_,A,z⟩)));by_cases c:m=l
  . simp only[if_pos c];exact .kB ..
  . simp only[if_neg c,Option.map_some,fD];exact .kB ..
end
section
variable{P:Program}(L:hQ P){k:ai}{O:aj}{Kp:Value->ai->aj->Prop}
end
section
variable{P:Program}(L:hQ P){o:Oper}{env:Env}{σ:aa}{K:AV->aa->Prop}{Kp:AV->aa->Prop}
theorem mU{op:BinOp}{t C e:Nat}{x y:Operand}{i:TI}{kk:Nat}{es:List AV}{sp:cQ}(D:o.op=.binOp op t x y C)(F:L.tt t=some i)(G:i.kind=.slice e)(H:au env y=.nil)
 (I:au env x=.sl kk es sp) (j:op=.eql\/op=.neq) (J:es=[]->K (.lit (.bool (op==.eql))) σ) (r:K (.lit (.bool (op==.neq))) σ):aJ P o env σ K Kp:=
 aJ.val (s:=λg=>do eqGuard op t x y (g x) (g y);binOp op t (g x) (g y)) (λg=>by simp[execOp,D]) λk O g l M=>by
  have A:=l x (by simp_all)
  have B:=l y (by simp_all)
  rw[H]at B;rw[I]at A;have Q:g y=.slice none 0 0:=B.Iq
  have m:∃a n c,g x=.slice a n c/\(a.isNone=true->es=[]):=by
   rcases A.jW with⟨W,m,h,_⟩|⟨b,off,cap,N,E,m,_⟩
   . simp_all
   simp_all
  obtain⟨a,n,c,m,X⟩:=m;rw[m,Q];have S:eqGuard op t x y (.slice a n c) (.slice none 0 0)=pure ():=by rcases j with rfl|rfl<;>simp[eqGuard]
  rw[S];refine ag (ah ?_)
  have p:∀(R:Bool->ai->aj->Prop) (u:Value->ai->aj->Prop),R a.isNone k O->dk P (Op.equal t (.slice a n c) (.slice none 0 0)) k O R u:=λR u T=>by
   show dk P (Op.equalIn (9999+1) t (.slice a n c) (.slice none 0 0)) k O R u;rw[Op.equalIn];refine ag (aE L F λd _ hd=>?_)
   rw[bg hd G];cases a<;>exact ah T
  have fin:∀b:Bool,K (.lit (.bool b)) σ->dk P (do pure (.bool b)) k O (λv q w=>ly q w λz U=>k.Le z/\∃a f,V z v a/\Rel z U f/\K a f) (λv q w=>k.Le q/\∃a f,V q v a/\Rel q w f/\Kp a f):=λb hb=>ah (.here ⟨.refl k,_,σ,.lit _,M,hb⟩)
  rcases j with rfl|rfl
  . refine ag (s:=Op.equal t (.slice a n c) (.slice none 0 0)) (p _ _ (fin _ ?_))
    cases Y:a.isNone with
    |true=>simp_all
    |false=>exact r
  . refine ag (s:=Op.equal t (.slice a n c) (.slice none 0 0)) (p _ _ (fin (!a.isNone) ?_))
    grind
theorem FQ{i:TI}{d:TypeDesc}(h:dg P i d=true)(a:i.kind=.bool):d=.bool:=by cases d<;>simp_all [dg]
theorem xZ{op:BinOp}{t n:Nat}{x y:Operand}{i:TI}{p q:Bool}(r:o.op=.binOp op t x y n)(u:L.tt t=some i)(v:i.kind=.bool)(w:au env x=.lit (.bool p))(z:au env y=.lit (.bool q)){b:Bool}(c:(op=.eql/\b=(p==q))\/(op=.neq/\b=!(p==q)))(h:K (.lit (.bool b)) σ):aJ P o env σ K Kp:=
 aJ.val (s:=λa=>do eqGuard op t x y (a x) (a y);binOp op t (a x) (a y)) (λa=>by simp[execOp,r]) λk O a e j=>by
  have l:=e x (by simp_all)
  have m:=e y (by simp_all)
  rw[w]at l;rw[z]at m;rw[pX l,pX m];have A:eqGuard op t x y (.bool p) (.bool q)=pure ():=by rcases c with⟨rfl,_⟩|⟨rfl,_⟩<;>simp[eqGuard]
  rw[A];refine ag (ah ?_)
  have f:∀(R:Bool->ai->aj->Prop) (g:Value->ai->aj->Prop),R (p==q) k O->dk P (Op.equal t (.bool p) (.bool q)) k O R g:=λR g B=>by
   show dk P (Op.equalIn (9999+1) t (.bool p) (.bool q)) k O R g;rw[Op.equalIn];refine ag (aE L u λd _ hd=>?_)
   rw[FQ hd v];exact ah B
  rcases c with⟨rfl,rfl⟩|⟨rfl,rfl⟩
  . exact ag (s:=Op.equal t (.bool p) (.bool q)) (f _ _ (ah (.here ⟨.refl k,_,σ,.lit _,j,h⟩)))
  . exact ag (s:=Op.equal t (.bool p) (.bool q)) (f _ _ (ah (.here ⟨.refl k,_,σ,.lit _,j,h⟩)))
end
inductive iR{α:Sort _}(a:α):Type
 |mk
def xu{α:Type}(x:Option α)(K:α->Prop)(u:iR K:=.mk):Prop:=∃a,x=some a/\K a
@[simp] theorem FT{α:Type}{a:α}{K:α->Prop}{u:iR K}:xu (some a) K u=K a:=by simp[xu]
@[simp] theorem FU{α:Type}{K:α->Prop}{u:iR K}:xu (none:Option α) K u=False:=by simp[xu]
@[simp] theorem qI{α β:Type}{f:α->β}{x:Option α}{K:β->Prop}{u:iR K}:xu (x.map f) K u=xu x (λa=>K (f a)):=by cases x<;>simp
def ta(x:Bool)(A B:Prop)(u:iR A:=.mk)(v:iR B:=.mk):Prop:=(x=true->A)/\(x=false->B)
@[simp] theorem mV{A B:Prop}{u:iR A}{v:iR B}:ta true A B u v=A:=by simp[ta]
@[simp] theorem lD{A B:Prop}{u:iR A}{v:iR B}:ta false A B u v=B:=by simp[ta]
def Tv(σ:aa)(F:Nat->Prop)(u:iR F:=.mk):Prop:=∀b,σ b=none->F b
section
variable{P:Program}(L:hQ P){o:Oper}{env:Env}{σ:aa}{K:AV->aa->Prop}{Kp:AV->aa->Prop}
theorem rZ{x:Operand}{q t:Nat}{i:TI}(z:o.op=.typeAssert x q t true)(r:L.tt t=some i)(A:i.kind≠.iface)(B:au env x=.lit .nilIface)
 (C:K (.bp [iP i.zero,.lit (.bool false)]) σ):aJ P o env σ K Kp:=
 aJ.val (s:=λl=>Instr.typeAssert (l x) q t true) (λl=>by simp[execOp,z]) λk O l m D=>by
  have f:=m x (by simp_all);rw[B]at f;generalize l x=v at f;cases f;unfold Instr.typeAssert;refine ag (aE L r λdd _ hd=>?_);have E:∀ms,dd≠.interface ms:=λms e=>by subst e;simp[dg]at hd;exact A hd
  have pair:∀{u:Value}{b:Bool}{a:AV},V k u a->V k (.tuple #[u,.bool b]) (.bp [a,.lit (.bool b)]):=λ{u b a} h=>.bp _ _ rfl λj w c f y=>by
   match j with
   |0=>simp_all
   |1=>simp at f y;subst f;subst y;exact .lit _
   |j+2=>simp at f
  have fin:dk P ((do pure (.tuple #[<-zeroValue t,.bool false]):Sem Value)) k O (λv g n=>ly g n λp F=>k.Le p/\∃a d,V p v a/\Rel p F d/\K a d) (λv g n=>k.Le g/\∃a d,V g v a/\Rel g n d/\Kp a d):=ag (cD L r (ah (.here ⟨.refl k,_,σ,pair (.iP k _),D,C⟩)))
  simp_all
end
def Mq(a:TI)(len:Nat)(parts:List (Nat × AV)):Bool:=decide (len*a.size<=16777216) && (iP a.zero).cells.all AV.flat && (decide (len*a.size=0)||decide ((iP a.zero).cells.length=a.size)) && (parts.map (·.1)==List.range len) && parts.all λp=>decide (p.2.cells.length=a.size) && p.2.cells.all AV.flat
theorem tc{size:Nat}:∀(parts:List (Nat × AV)) (l:List AV) (s:Nat),(parts.map (·.1)=List.range' s parts.length)->(∀p∈parts,p.2.cells.length=size/\p.2.cells.all AV.flat=true)->(s+parts.length)*size=l.length ->
 jv (λj=>some (j*size,size)) l parts=some (l.take (s*size)++flatten (parts.map (·.2)))
 |[],l,s,_,_,c=>by simp[jv,flatten]at c ⊢;simp_all
 | (i,a)::parts,l,s,d,g,c=>by
   simp only[List.map_cons,List.length_cons,List.range'_succ,List.cons.injEq]at d;obtain⟨rfl,d⟩:=d;obtain⟨h,k⟩:=g (i,a) (by simp);simp only[List.length_cons]at c;have e:i*size+size<=l.length:=by grind
   have b:i*size+a.cells.length<=l.length:=by simp_all
   simp only[jv];rw[if_pos ⟨h,e,k⟩];rw[tc parts (aL l (i*size) a.cells) (i+1) d (λp f=>g p (by simp[f])) (by rw[jq b,<-c];grind)];congr 1;rw[List.map_cons,flatten_cons,<-List.append_assoc];congr 1;have:(i+1)*size=i*size+a.cells.length:=by grind
   rw[this];unfold aL;rw[List.append_assoc,List.take_append,List.take_append];have m:(List.take (i*size) l).length=i*size:=by grind
   rw[m,List.take_of_length_le (by omega)];congr 1;have n:i*size+a.cells.length-i*size=a.cells.length:=by omega
   grind
section
variable{P:Program}(L:hQ P)
theorem C3{o:Oper}{env:Env}{σ:aa}{K Kp:AV->aa->Prop}{t len e:Nat}{parts:Array (Nat × Operand)}{it a:TI}(f:o.op=.buildSlice t len parts)(g:L.tt t=some it)(i:it.kind=.slice e)(j:L.tt e=some a)
 (h:Mq a len (parts.toList.map λp=>(p.1,au env p.2))=true) (k:K (.sl a.size (parts.toList.map λp=>au env p.2) .exact) σ):aJ P o env σ K Kp:=by
 simp only[Mq,Bool.and_eq_true,Bool.or_eq_true,List.all_eq_true,List.map_map,beq_iff_eq,decide_eq_true_eq]at h;obtain⟨⟨⟨⟨l,r⟩,m⟩,d⟩,n⟩:=h;have hlen:parts.toList.length=len:=by have:=congrArg List.length d;grind
 have b:∀p∈(parts.toList.map λp=>(p.1,au env p.2)),p.2.cells.length=a.size/\p.2.cells.all AV.flat=true:=λp c=>⟨(n p c).1,by grind⟩
 refine xr L f g i j l (by grind) m (es:=parts.toList.map λp=>au env p.2) ⟨by grind,λx q=>?_⟩ ?_ k
 . obtain⟨p,c,rfl⟩:=List.mem_map.1 q
   exact(b (p.1,au env p.2) (List.mem_map.2 ⟨p,c,rfl⟩)).1
 . rw[tc (size:=a.size) _ _ 0 (by rw[List.map_map,d,List.length_map,hlen,List.range_eq_range']) b (by grind)]
   simp[Function.comp_def]
inductive Out where
 |ok (a:AV) (σ:aa)
 |no
 |gu (p:Prop) (x:Out)
 |new (σ:aa) (c:List AV)
 |panic (v:AV) (σ:aa)
def Out.opt(x:Option AV)(σ:aa):Out:=match x with|some a=>.ok a σ|none=>.no
def qa(x:Out)(K Kp:AV->aa->Prop)(u:iR K:=.mk)(v:iR Kp:=.mk):Prop:=
 match x with
 |.ok a σ=>K a σ
 |.no=>False
 |.gu p x=>p/\qa x K Kp u v
 |.new σ c=>Tv σ λb=>K (.ref b 0) (σ.set b (.cells c))
 |.panic v σ=>Kp v σ
section
variable{K Kp:AV->aa->Prop}{u:iR K}{v:iR Kp}
@[simp] theorem Te{a:AV}{σ:aa}:qa (.ok a σ) K Kp u v=K a σ:=propext Iff.rfl
@[simp] theorem Tf:qa .no K Kp u v=False:=propext Iff.rfl
@[simp] theorem mn{p:Prop}{x:Out}:qa (.gu p x) K Kp u v=(p/\qa x K Kp):=propext Iff.rfl
@[simp] theorem gz{x:Option AV}{σ:aa}:qa (.opt x σ) K Kp u v=xu x (λa=>K a σ):=by cases x<;>simp[Out.opt]
end
def C4(op:BinOp)(kd:IntKind)(a b:Int)(σ:aa):Out:=
 match op,kd with
 |.add,.i64=>.gu (fits (a+b)) (.ok (.lit (.int .i64 (a+b))) σ)
 |.sub,.i64=>.gu (fits (a-b)) (.ok (.lit (.int .i64 (a-b))) σ)
 |.mul,.i64=>.gu (fits (a*b)) (.ok (.lit (.int .i64 (a*b))) σ)
 |.eql,_=>.ok (.lit (.bool (a==b))) σ
 |.neq,_=>.ok (.lit (.bool (a !=b))) σ
 |.lss,_=>.ok (.lit (.bool (decide (a<b)))) σ
 |.leq,_=>.ok (.lit (.bool (decide (a<=b)))) σ
 |.gtr,_=>.ok (.lit (.bool (decide (a>b)))) σ
 |.geq,_=>.ok (.lit (.bool (decide (a>=b)))) σ
 |.shl,_=>.gu (0<=b) (.ok (.lit (.int kd (kd.wrap (a*2 ^ (min b.toNat kd.bits))))) σ)
 |.shr,_=>.gu (0<=b) (.ok (.lit (.int kd (a.fdiv (2 ^ (min b.toNat kd.bits))))) σ)
 |op,kd=>.opt ((uX op kd a b).map .lit) σ
theorem Is{op:BinOp}{kd:IntKind}{a b:Int}{σ:aa}{K Kp:AV->aa->Prop}(h:qa (C4 op kd a b σ) K Kp):pY op kd a b λv=>K (.lit v) σ:=by
 have key:∀x:Option Value,qa (.opt (x.map .lit) σ) K Kp->∃v,x=some v/\K (.lit v) σ:=λx h=>by rw[gz,qI]at h;exact h
 cases op<;>first|exact key _ h|exact h|(cases kd<;>first|exact h|exact key _ h)
def zk(mu:List Nat)(o:Oper)(env:Env)(σ:aa):Out:=
 match o.op with
 |.move x=>.ok (au env x) σ
 |.assign x=>.ok (au env x) σ
 | .pick c a b=>match au env c with
   |.lit (.bool x)=>.ok (if x then au env a else au env b) σ
   |_=>.no
 | .alloc t=>match L.tt t with
   |some i=>.gu ((iP i.zero).cells.all AV.flat=true) (.new σ (iP i.zero).cells)
   |none=>.no
 |.box _ x=>.gu ((au env x).cells.all AV.flat=true) (if(match o.dst with|some d=>mu.contains d|none=>false)=true then .new σ (au env x).cells else .ok (.cp (au env x) 0) σ)
 | .load t p=>match L.tt t with
   |some i=>.opt (px i σ (au env p)) σ
   |none=>.no
 | .store t p x=>match L.tt t with
   |some i=>(match pW i σ (au env p) (au env x)with|some n=>.ok (.lit undef) n|none=>.no)
   |none=>.no
 | .fieldAddr s x j=>match L.tt s with
   | some ⟨.struct,_,_,_,jc⟩=>(match jc[j]? with
     |some f=>.gu (f.2.1≠0) (.opt (qu (au env x) f.1) σ)
     |none=>.no)
   |_=>.no
 | .field s x j=>match L.tt s,au env x with
   | some ⟨.struct,_,_,_,jc⟩,.agg l=>(match jc[j]? with
     |some f=>(match L.tt f.2.2 with|some q=>.opt (cy l f.1 q.size q.agg) σ|none=>.no)
     |none=>.no)
   |_,_=>.no
 | .indexAddr t x m=>match L.tt t with
   | some ⟨.slice e,_,_,_,_⟩=>(match L.tt e,au env x,au env m with
     |some g,.sl u es _,.lit (.int _ z)=>.gu (u=g.size/\0<=z) (.opt ((es[z.toNat]?).map λa=>.cp a 0) σ)
     |some g,.kB b off len _,.lit (.int _ z)=>.gu (0<=z/\z<len) (.ok (.ref b (off+z.toNat*g.size)) σ)
     |_,_,_=>.no)
   | some ⟨.array k e,_,_,_,_⟩=>(match L.tt e,au env m with
     |some g,.lit (.int _ z)=>.gu (0<=z/\z<k) (.opt (qu (au env x) (z.toNat*g.size)) σ)
     |_,_=>.no)
   |_=>.no
 | .index t x m=>match L.tt t with
   | some ⟨.array k e,_,_,_,_⟩=>(match L.tt e,au env x,au env m with
     |some g,.agg l,.lit (.int _ z)=>.gu (0<=z/\z<k) (.opt (cy l (z.toNat*g.size) g.size g.agg) σ)
     |_,_,_=>.no)
   |_=>.no
 | .binOp op t x y _=>match au env x,au env y with
   | .lit (.bool a),.lit (.bool b)=>(match L.tt t with
     | some ⟨.bool,_,_,_,_⟩=>(match op with
       |.eql=>.ok (.lit (.bool (a==b))) σ
       |.neq=>.ok (.lit (.bool (!(a==b)))) σ
       |_=>.no)
     |_=>.no)
   |.lit (.int kd a),.lit (.int h b)=>.gu (kd=h\/op=.shl\/op=.shr) (if(match o.dst with|some d=>mu.contains d|none=>false)=true then .opt ((uX op kd a b).map .lit) σ else C4 op kd a b σ)
   |_,_=>.no
 | .unOp .not _ x=>match au env x with
   |.lit (.bool b)=>.ok (.lit (.bool !b)) σ
   |_=>.no
 | .convert _ t x=>match L.tt t,au env x with
   |some ⟨.int kd,_,_,_,_⟩,.lit (.int _ a)=>.ok (.lit (.int kd (kd.wrap a))) σ
   |_,_=>.no
 | .makeInterface t x=>match L.tt t with
   |some i=>.gu (i.kind≠.iface) (.ok (.kD t (au env x)) σ)
   |none=>.no
 |.makeFunc f fs cs=>.ok (.fn f (fs.toList.map (au env)) (cs.toList.map (au env))) σ
 | .extract x j=>match au env x with
   |.bp l=>.opt (l[j]?) σ
   |_=>.no
 | .typeAssert x _ t true=>match L.tt t,au env x with
   |some i,.kD d y=>.gu (i.kind≠.iface) (.ok (if d=t then .bp [y,.lit (.bool true)]else .bp [iP i.zero,.lit (.bool false)]) σ)
   |some i,.lit .nilIface=>.gu (i.kind≠.iface) (.ok (.bp [iP i.zero,.lit (.bool false)]) σ)
   |_,_=>.no
 |.nilCheck x=>match au env x with|.cp v off=>.ok (.cp v off) σ|.ref b off=>.ok (.ref b off) σ|.kp b l hole off=>.ok (.kp b l hole off) σ|.fn (.func f) l r=>.ok (.fn (.func f) l r) σ|_=>.no
 | .panic x=>match au env x with
   |.kD t y=>.panic (.kD t y) σ
   |_=>.no
 | .build t parts=>match L.tt t with
   |some i=>.gu (i.kind=.struct/\(iP i.zero).cells.all AV.flat=true) (.opt ((jv (λj=>(i.jc[j]?).map λx=>(x.1,x.2.1)) (iP i.zero).cells (parts.toList.map λp=>(p.1,au env p.2))).map .agg) σ)
   |none=>.no
 | .buildSlice t len parts=>match L.tt t with
   | some ⟨.slice e,_,_,_,_⟩=>(match L.tt e with
     |some g=>.gu (Mq g len (parts.toList.map λp=>(p.1,au env p.2))=true) (.ok (.sl g.size (parts.toList.map λp=>au env p.2) .exact) σ)
     |none=>.no)
   |_=>.no
 | .call c=>match c.callee,c.args.toList with
   | .builtin .len,[x]=>(match au env x with
     |.sl _ es _=>.ok (.lit (.int .i64 es.length)) σ
     |.lit (.slice none 0 0)=>.ok (.lit (.int .i64 0)) σ
     |.kB _ _ len _=>.ok (.lit (.int .i64 len)) σ
     |_=>.no)
   | .builtin .min,[x,y]=>(match au env x,au env y with
     |.lit (.int kd a),.lit (.int h b)=>.gu (kd=h) (.ok (.lit (.int kd (if b<a then b else a))) σ)
     |_,_=>.no)
   | .builtin .max,[x,y]=>(match au env x,au env y with
     |.lit (.int kd a),.lit (.int h b)=>.gu (kd=h) (.ok (.lit (.int kd (if b>a then b else a))) σ)
     |_,_=>.no)
   |_,_=>.no
 |_=>.no
def nT(o:Oper):Bool:=
 match o.op with
 |.buildSlice t _ _=>match L.tt t with|some ⟨.slice _,_,_,_,_⟩=>true|_=>false
 |.binOp _ t _ _ _=>match L.tt t with|some ⟨.int _,_,_,_,_⟩=>true|some ⟨.bool,_,_,_,_⟩=>true|_=>false
 |_=>qA L o
theorem vk{mu:List Nat}{o:Oper}{env:Env}{σ:aa}{K Kp:AV->aa->Prop}(A:nT L o=true)(h:qa (zk L mu o env σ) K Kp):aJ P o env σ K Kp:=by
 unfold zk at h;unfold nT qA at A;split at h
 . next x g=>exact uv (.inl g) h
 . next x g=>exact uv (.inr g) h
 . next c a b g=>
   split at h
   . next x m=>exact EN g m h
   . exact h.elim
 . next t g=>
   split at h
   . next i w=>exact AI L g w h.1 h.2
   . exact h.elim
 . next t x g=>
   obtain⟨B,C⟩:=h;generalize (match o.dst with|some d=>mu.contains d|none=>false)=q at C;cases q
   . exact Ie g B C
   . exact uV g B C
 . next t p g=>
   split at h
   . next i w=>rw[gz]at h;obtain⟨a,B,C⟩:=h;exact za L g w B C
   . exact h.elim
 . next t p x g=>
   split at h
   . next i w=>
     split at h
     . next Z B=>exact AH L g w B h
     . exact h.elim
   . exact h.elim
 . next s x j g=>
   split at h
   . next I J M jc w=>
     split at h
     . next f U=>rw[mn,gz]at h;obtain⟨B,a,C,S⟩:=h;exact qv L g w rfl U B C S
     . exact h.elim
   . exact h.elim
 . next s x j g=>
   split at h
   . next I J M jc l w m=>
     split at h
     . next f U=>
       split at h
       . next fi V=>rw[gz]at h;obtain⟨a,B,C⟩:=h;exact AJ L g w rfl U V m B C
       . exact h.elim
     . exact h.elim
   . exact h.elim
 . next t x ix g=>
   split at h
   . next e I J M N w=>
     split at h
     . next T kk es sp kd z F m D=>rw[mn,gz,qI]at h;obtain⟨⟨rfl,G⟩,a,B,C⟩:=h;exact uW L g w rfl F m D G B C
     . next T b off len cap kd z F m D=>exact sZ L g w rfl F m D h.1 h.2
     . exact h.elim
   . next k e I J M N w=>
     split at h
     . next T kd z F D=>rw[mn,gz]at h;obtain⟨G,a,B,C⟩:=h;exact sY L g w rfl F D G B C
     . exact h.elim
   . exact h.elim
 . next t x ix g=>
   split at h
   . next k e I J M N w=>
     split at h
     . next T l kd z F m D=>rw[mn,gz]at h;obtain⟨G,a,B,C⟩:=h;exact AL L g w rfl F m D G B C
     . exact h.elim
   . exact h.elim
 . next op t x y t2 g=>
   split at h
   . next a b m u=>
     split at h
     . next I J M N E=>
       split at h
       . exact xZ L g E rfl m u (.inl ⟨rfl,rfl⟩) h
       . exact xZ L g E rfl m u (.inr ⟨rfl,rfl⟩) h
       . exact h.elim
     . exact h.elim
   . next kd a H b m u=>
     obtain⟨a7,h⟩:=h;have n:(op≠.shl/\op≠.shr)->H=kd:=λhh=>by simp_all
     generalize (match o.dst with|some d=>mu.contains d|none=>false)=q at h;cases q with
     | true=>
       simp only[if_true,gz,qI]at h;obtain⟨v,R,W⟩:=h;rw[n ⟨(λe=>by subst e;cases R),(λe=>by subst e;cases R)⟩]at u;exact cH g m u R W
     |false=>
     simp only[Bool.false_eq_true,if_false]at h;have h:=Is h;unfold pY at h;split at h
     . rw[n (by simp)]at u;exact mi g m u (.inl ⟨rfl,rfl⟩) h.1 h.2
     . rw[n (by simp)]at u;exact mi g m u (.inr (.inl ⟨rfl,rfl⟩)) h.1 h.2
     . rw[n (by simp)]at u;exact mi g m u (.inr (.inr ⟨rfl,rfl⟩)) h.1 h.2
     . rw[n (by simp)]at u;exact cH g m u rfl h
     . rw[n (by simp)]at u;exact cH g m u rfl h
     . rw[n (by simp)]at u;exact cH g m u rfl h
     . rw[n (by simp)]at u;exact cH g m u rfl h
     . rw[n (by simp)]at u;exact cH g m u rfl h
     . rw[n (by simp)]at u;exact cH g m u rfl h
     . exact qw g m u h.1 (.inl ⟨rfl,rfl⟩) h.2
     . exact qw g m u h.1 (.inr ⟨rfl,rfl⟩) h.2
     . next B C S Y h5 h6 h7 h8 h9 a8 a9=>
       obtain⟨v,R,W⟩:=h;rw[n ⟨λe=>by simp_all,λe=>by simp_all⟩]at u;exact cH g m u R W
   . exact h.elim
 . next t x g=>
   split at h
   . next b m=>exact Ii g m h
   . exact h.elim
 . next s t x g=>
   simp only[g]at A;split at h
   . next kd I J M N H a E m=>
     split at A
     . next ks b1 b2 b3 b4 kt c1 c2 c3 c4 hs X=>rw[E]at X;exact uY L g hs E rfl rfl m h
     . cases A
   . exact h.elim
 . next t x g=>
   split at h
   . next i w=>exact mj L g w h.1 h.2
   . exact h.elim
 . next f fs cs g=>exact s5 g h
 . next x j g=>
   split at h
   . next l m=>rw[gz]at h;obtain⟨a,B,C⟩:=h;exact uZ g m B C
   . exact h.elim
 . next x xt t g=>
   split at h
   . next i d y w m=>exact py L g w h.1 m h.2
   . next i w m=>exact rZ L g w h.1 m h.2
   . exact h.elim
 . next x g=>
   split at h
   . next v off m=>exact eu g (.inl ⟨_,_,m⟩) (by simp_all)
   . next b off m=>exact eu g (.inr (.inl ⟨_,_,m⟩)) (by simp_all)
   . next b l hole off m=>exact eu g (.inr (.inr (.inr ⟨_,_,_,_,m⟩))) (by simp_all)
   . next f l r m=>exact eu g (.inr (.inr (.inl ⟨_,_,_,m⟩))) (by simp_all)
   . exact h.elim
 . next x g=>
   split at h
   . next t y m=>exact AM g m h
   . exact h.elim
 . next t parts g=>
   split at h
   . next i w=>rw[mn,gz,qI]at h;obtain⟨⟨B,C⟩,l,S,Y⟩:=h;exact AO L g w B C S Y
   . exact h.elim
 . next t len parts g=>
   split at h
   . next e I J M N E=>
     split at h
     . next T F=>exact C3 L g E rfl F h.1 h.2
     . exact h.elim
   . exact h.elim
 . next c g=>
   simp only[g]at A;split at h
   . next x O Q=>
     simp only[O,Q]at A;have e:=ki O Q;split at A
     . next t G=>
       split at A
       . next e' I J M N E=>
         rw[e]at g;split at h
         . next kk es sp m=>exact zb L g G E rfl (.inl m) h
         . next m=>exact zb L (kk:=0) (sp:=.any) (es:=[]) g G E rfl (.inr ⟨m,rfl⟩) h
         . next b off len cap m=>exact xU L g G E rfl m h
         . exact h.elim
       . cases A
     . cases A
   . next x y O Q=>
     rw[ki O Q]at g;split at h
     . next kd a H b m u=>obtain⟨rfl,h⟩:=h;exact oE g m u (.inl ⟨rfl,rfl⟩) h
     . exact h.elim
   . next x y O Q=>
     rw[ki O Q]at g;split at h
     . next kd a H b m u=>obtain⟨rfl,h⟩:=h;exact oE g m u (.inr ⟨rfl,rfl⟩) h
     . exact h.elim
   . exact h.elim
 . exact h.elim
end
end Go.bu

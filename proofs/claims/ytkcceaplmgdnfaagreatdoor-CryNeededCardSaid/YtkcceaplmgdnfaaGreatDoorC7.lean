import Derived.Test.YtkcceaplmgdnfaaGreatDoorC6
set_option linter.all false
namespace Go.bQ
open Go.Conc
abbrev ace:=List Entry
def J4(σ:aa)(a:AV)(kk:Nat)(es:acw):Prop:=EE a kk es\/∃b off cap l,a=.gW b off es.length cap/\σ b=some (.cells l)/\(∀e∈es,e.cells.length=kk)/\∀(j:Nat) x,(flatten es)[j]?=some x->l[off+j]?=some x
def cq(σ0 σ:aa)(a:AV)(kk:Nat)(es:acw):Prop:=σ0.Le σ/\((es=[]/\(a=.nil\/a=.sl kk [] .exact))\/∃b cap rest,a=.gW b 0 es.length cap/\σ0 b=none/\es.length<=cap/\(∀e∈es,e.cells.length=kk)/\σ b=some (.cells (flatten es++rest))/\rest.length=(cap-es.length)*kk)
def cq.rd{σ0 σ:aa}{a:AV}{kk:Nat}{es:acw}(h:cq σ0 σ a kk es):J4 σ a kk es:=by
 rcases h.2 with⟨rfl,rfl|rfl⟩|⟨b,cap,rest,rfl,_,_,c,d,_⟩
 . exact .inl (.inl ⟨rfl,rfl⟩)
 . exact .inl (.inr ⟨_,rfl⟩)
 . refine .inr ⟨b,0,cap,_,rfl,d,c,λj x e=>?_⟩
   grind
def cq.empty(σ:aa)(kk:Nat):cq σ σ (.sl kk [] .exact) kk []:=⟨λ_ _ h=>h,.inl ⟨rfl,.inr rfl⟩⟩
def cq.thaw{σ0 σ:aa}{a:AV}{kk:Nat}{es:acw}{e:abT}(h:cq σ0 σ a kk es)(d:e (.val (.sl kk es .any)) σ0):ny e (.val a) σ:=by
 rcases h.2 with⟨rfl,rfl|rfl⟩|⟨b,cap,rest,rfl,l,g,f,i,m⟩
 . exact .less h.1 (.n8 (fQ kk) (.done d))
 . exact .less h.1 (.n8 (ik kk _ _) (.done d))
 . have n:=bt f
   refine .freeze b _ i (.sl 0 cap kk es .any g ?_ f (λj x o=>?_) (.inl rfl)) (J3.del b _ σ) (.less (λc y k=>?_) (.done d))
   . have:cap*kk=es.length*kk+(cap-es.length)*kk:=by rw[<-Nat.add_mul];simp_all
     simp_all
   . grind
   . have:c≠b:=λq=>by simp_all
     simp only[aa.del,this,if_false];exact h.1 c y k
section
variable{P:acD}(L:iZ P){k:ah}{O:aj}{Kp:abB}
def V.QD{v:Value}{b off len cap:Nat}(h:V k v (.gW b off len cap)):v=.slice (some ⟨b,off,none⟩) len cap:=by cases h;rfl
def V.J5{v:Value}(h:V k v .nil):v=.slice none 0 0:=by cases h;rfl
def J4.facts{σ:aa}{v:Value}{a:AV}{kk:Nat}{es:acw}(h:J4 σ a kk es)(c:V k v a):∃base cap,v=.slice base es.length cap/\∀e∈es,e.cells.length=kk:=by
 rcases h with(⟨rfl,rfl⟩|⟨sp,rfl⟩)|⟨b,off,cap,l,rfl,d,f,g⟩
 . cases c;simp_all
 . rcases c.kN with⟨i,rfl,rfl,_⟩|⟨b,off,cap,N,E,rfl,j,m,n,o,_⟩
   . simp_all
   simp_all
 . cases c;simp_all
def rD{K:abY->abX}{σ:aa}{v:Value}{a:AV}{kk:Nat}{es:acw}(g:V k v a)(i:Rel k O σ)(d:J4 σ a kk es)
 (m:∀c:abY,c.size=es.length*kk->(∀(j:Nat) u x,c[j]?=some u->(flatten es)[j]?=some x->V k u x)->(∀(j:Nat) u,c[j]?=some u->flat u=true)->K c k O):dI P (Builtin.firstCells kk es.length v) k O K Kp:=by
 rcases d with d|⟨b,off,cap,l,rfl,n,o,p⟩
 . exact qh g d (ZF _) m
 . cases g
   obtain⟨y,q,r⟩:=i.1 b _ n (by simp);cases r with
   | cells s e _ t w z=>
     unfold Builtin.firstCells loadCells;have A:=bt o;refine je (l:=flatten es) (base:=off) (off:=0) (λj x B=>?_) (es.length*kk) 0 #[] (by omega) λvs C D E=>?_
     . have f:=p j x B
       have F:off+j<s.size:=by grind
       exact pq.own (k:=k) q t w z (off+j) x f|>.imp λv h=>by grind
     grind
end
section
variable{P:acD}(L:iZ P){o:Oper}{env:Env}{σ:aa}{K:abU}{Kp:abU}
def jj{s x:acE}{G:abW}{t t2 e e2:Nat}{it W g:TI}{σ0:aa}{es xs:acw}(ho:o.op=.call ⟨.builtin .append,#[s,x],G⟩)(h0:G[0]?=some t)(N:G[1]?=some t2)(ht:L.tt t=some it)(hk:it.kind=.slice e)
 (ay:L.tt t2=some W) (aC:W.kind=.slice e2) (H:L.tt e=some g) (hb:g.bytes<=1024) (hlen:es.length+xs.length<=1073741824) (hs:cq σ0 σ (an env s) g.size es) (hx:J4 σ (an env x) g.size xs)
 (hz:(ly g.zero).cells.all AV.flat=true) (hK:∀a' σ',cq σ0 σ' a' g.size (es++xs)->K a' σ'):aI P o env σ K Kp:=λk O ρ p J=>by
 have A:=p s (by simp_all)
 have Q:=p x (by simp_all)
 have:execOp ρ o=(do pure (Next.value (<-Builtin.append_ G o.type #[ρ s,ρ x]))):=by simp[execOp,ho,resolve,invoke,builtin]
 rw[this];refine af ?_;have aE:g.zero.cells.size=g.size:=by obtain⟨_,_,_,_,_,_,h⟩:=L.facts H;exact h
 obtain⟨base,cap,B,aL⟩:=hs.rd.facts A;obtain⟨aO,bB,M,b0⟩:=hx.facts Q;have w:=hs.1;unfold Builtin.append_;simp only[h0,N,aaQ,aaM,abm];refine af (aF L ht λd _ hd=>?_)
 rw[bN hd hk,B];dsimp only;refine af (bI L H ?_);refine af (aF L ay λd2 _ X=>?_)
 rw[bN X aC];refine af (ag ?_);dsimp only;simp only[zR,if_false,Bool.not_false,if_true];refine af (s:=Builtin.lenOf (ρ x)) ?_;rw[M];refine ag ?_;rw[<-M];have C:=bt aL;have b1:=bt b0
 by_cases n:es.length+xs.length<=cap
 ·
  rw[if_pos n];refine af (rD Q J hx λc D b2 Y=>?_)
  rcases hs.2 with⟨rfl,m⟩|⟨b,Z,rest,m,b3,hc,_,I,E⟩
  . have c5:cap=0:=by
     rcases m with m|m
     . rw[m,B]at A;have:=A.J5;simp_all
     . rw[m,B]at A
       rcases A.kN with⟨_,q1,_,_⟩|⟨_,_,Z,_,_,q1,_,_,_,_,_,q7⟩
       . grind
       . cases q1;exact q7
    have a7:xs=[]:=by simp_all
    subst a7
    have b4:c.toList=[]:=by simp_all
    have c7:V k (.slice base 0 cap) (an env s):=by simp_all
    cases base with
    |none=>dsimp only;refine ag (ag ⟨_,.inl rfl,.here ⟨.refl k,an env s,σ,?_,J,hK _ _ ⟨w,.inl ⟨rfl,m⟩⟩⟩⟩);omega
    |some ad=>dsimp only;rw[b4];refine af (ag ?_);refine ag (ag ⟨_,.inl rfl,.here ⟨.refl k,an env s,σ,?_,J,hK _ _ ⟨w,.inl ⟨rfl,m⟩⟩⟩⟩);omega
  . rw [m, B] at A
    have hinv:=A.QD;simp only[Value.slice.injEq,true_and]at hinv;obtain⟨rfl,rfl⟩:=hinv;obtain⟨y,hO,hy⟩:=J.1 b _ I (by simp)
    cases hy with
    | cells cc et _ g1 g2 g3=>
      dsimp only;rw[iz]
      have R:cc.size=cap*g.size:=by rw[g1,Rp,C,E,<-Nat.add_mul];grind
      have hmul:(es.length+xs.length)*g.size<=cc.size:=by rw[R];exact ZZ _ n
      rw[aaU]at hmul;refine af (pr c.toList 0 cc O hO (by grind) (λu hu=>?_) λO' c' b5 b6 b7=>?_)
      . obtain⟨j,hj,rfl⟩:=List.mem_iff_getElem.1 hu
        exact Y j _ (by grind)
      . have c9:xs.length*g.size<=rest.length:=by grind
        refine ag (ag ⟨_,.inl rfl,.here ⟨.refl k,.gW b 0 (es++xs).length cap,σ.set b (.cells (flatten (es++xs)++rest.drop (xs.length*g.size))),?_,?_,hK _ _ ⟨?_,.inr ⟨b,cap,rest.drop (xs.length*g.size),rfl,b3,by grind,λz hz=>?_,by simp[aa.set],?_⟩⟩⟩⟩)
        . rw[show es.length+xs.length=(es++xs).length by simp]
          exact .gW ..
        . rw [b5]
          refine J.set (.cells c' et _ ?_ (λi v a p m=>?_) (λi v p=>?_))
          . rw[b6,g1,flatten_append];grind
          . rw [b7]at p
            simp only[aaz,Array.length_toList,D,Nat.add_zero]at p;rw[flatten_append,aau]at m
            by_cases N:i<es.length*g.size
            . grind
            . rw[ZK (by omega),C]at m
              by_cases h2:i<es.length*g.size+xs.length*g.size
              . grind
              . rw[if_neg (by omega)]at p
                rw[ZK (by omega),List.getElem?_drop]at m
                refine g2 i v a p ?_;rw[ZK (by omega),C,<-m]
                congr 1;omega
          grind
        . intro b' y hy
          have:b'≠b:=λq=>by grind
          simp[aa.set,this,w b' y hy]
        . grind
        . rw[List.length_drop,E,Rp,<-Nat.sub_mul];grind
 ·
  rw[if_neg n]
  have a8:¬((es.length+xs.length:Nat):Int)>IntKind.i64.max:=by have:IntKind.i64.max=9223372036854775807:=rfl;omega
  refine af (cU L H λinfo _ _ ca _=>?_)
  rw[if_neg (λq=>a8 q.1)]
  refine af (cU L H λS _ _ a9 _=>?_)
  have T:=nextslicecap_le (Nat.lt_of_not_le n)
  have U:¬(Builtin.nextslicecap (es.length+xs.length) cap*S.bytes>2 ^ 48):=by rw[a9];have N:Builtin.nextslicecap (es.length+xs.length) cap*g.bytes<=(4*(es.length+xs.length)+2000)*1024:=Nat.mul_le_mul T hb;omega
  rw[if_neg U];refine af (s:=choose _) (λt=>?_)
  have F:(Question.appendCap (es.length+xs.length) cap e).forced=false:=rfl;rw[F];simp only[zR,if_false];have b8:∃f,(Question.appendCap (es.length+xs.length) cap e).cut t=f/\es.length+xs.length<=f:=⟨_,rfl,by simp only[Question.cut];omega⟩
  obtain⟨f,al,c6⟩:=b8;rw[al];refine ag ?_;refine af (cU L H λb9 _ _ _ _=>?_)
  refine af (pv ?_);refine af (rD (a:=an env s) (by simp_all) J hs.rd λc D b2 Y=>?_)
  refine af (rD Q J hx λd bm X cb=>?_)
  refine af (cR L H ?_);have bw:=wH (k:=k) hz
  have bx:(Builtin.zeroCells g.zero.cells (f-(es.length+xs.length))).size=(f-(es.length+xs.length))*g.size:=by simp[Builtin.zeroCells,aE]
  have cg:∀(i:Nat) v,(Builtin.zeroCells g.zero.cells (f-(es.length+xs.length)))[i]?=some v->flat v=true:=by
   intro i v p;have hi:=(Array.getElem?_eq_some_iff.1 p).1;simp only[Builtin.zeroCells]at p;obtain⟨cm,H⟩:=Array.getElem?_eq_some_iff.1 p;simp at H;subst H
   have av:0<g.zero.cells.size:=by grind
   have hm:i % g.zero.cells.size<g.zero.cells.size:=Nat.mod_lt _ av;rw[getElem!_pos g.zero.cells _ hm];exact bw.2.2 (i % g.zero.cells.size) _ (by simp[hm])
  refine af (jf (l:=flatten (es++xs)++List.replicate ((f-(es.length+xs.length))*g.size) .cE) J ?_ (λi v a p m=>?_) (λi v p=>?_) λr k' O' hn bA ax=>ag (ag ⟨_,.inl rfl,.here ⟨bA,.gW r 0 (es++xs).length f,_,?_,ax,hK _ _ ⟨λb' y hy=>?_,.inr ⟨r,f,List.replicate ((f-(es.length+xs.length))*g.size) .cE,rfl,?_,by grind,λz hz=>?_,by simp[aa.set],?_⟩⟩⟩⟩))
  . simp only[Array.size_append,D,bm,bx,flatten_append,Rp,C,b1,List.length_replicate]
  . rw [flatten_append,aau]at m
    rw[Array.append_assoc]at p
    by_cases N:i<es.length*g.size
    . rw[ZS (by omega)]at m
      grind
    . rw[ZK (by omega),C]at m
      rw[aaB (by omega),D]at p
      by_cases h2:i-es.length*g.size<xs.length*g.size
      . grind
      . rw[ZK (by omega)]at m
        have:=List.mem_of_getElem? m;rw[List.mem_replicate]at this;rw[this.2];exact .cE _
  . rw[Array.append_assoc]at p
    by_cases N:i<es.length*g.size
    . grind
    . rw[aaB (by omega),D]at p
      grind
  . rw[show es.length+xs.length=(es++xs).length by simp];exact .gW ..
  . have N:=w b' y hy
    have:b'≠r:=λq=>by grind
    simp[aa.set,this,N]
  . cases q:σ0 r with
    |none=>rfl
    |some y=>have:=w r y q;grind
  . grind
  . simp
end
def Cw(env:Env)(len cap:Nat)(lo hi mx:abO)(l h m:Nat):Prop:=
 (match mx with|none=>m=cap|some o=>(∃kd,an env o=.lit (.int kd (m:Int)))/\m<=cap)/\
 (match hi with|none=>mx=none/\h=len|some o=>(∃kd,an env o=.lit (.int kd (h:Int)))/\h<=m)/\
 (match lo with|none=>l=0|some o=>(∃kd,an env o=.lit (.int kd (l:Int)))/\l<=h)
def Cw.le{env:Env}{len cap:Nat}{lo hi mx:abO}{l h m:Nat}(hb:Cw env len cap lo hi mx l h m)(a:len<=cap):l<=h/\h<=m/\m<=cap:=by
 obtain⟨b,c,d⟩:=hb
 grind
section
variable{P:acD}(L:iZ P){k:ah}{O:aj}{Kp:abB}
def qm{K:Nat->abX}{v:Value}{kd:IntKind}{z y:Nat}{c:BoundsCode}(a:V k v (.lit (.int kd (z:Int))))(b:z<=y)(d:K z k O):dI P (Instr.sliceBound v y c) k O K Kp:=by
 rw[dk a];unfold Instr.sliceBound;refine af (ag ?_);dsimp only;rw[if_pos ⟨by omega,by omega⟩];exact ag (by simp_all)
def lC{K:Nat × Nat × Nat->abX}{env:Env}{ρ:abN}{isSlice:Bool}{len cap:Nat}{lo hi mx:abO}{l h m:Nat}(hb:Cw env len cap lo hi mx l h m)
 (e:∀o,(lo=some o\/hi=some o\/mx=some o)->V k (ρ o) (an env o)) (j:K (l,h,m) k O):dI P (Instr.sliceBounds isSlice len cap (lo.map ρ) (hi.map ρ) (mx.map ρ)) k O K Kp:=by
 obtain⟨f,g,i⟩:=hb;unfold Instr.sliceBounds
 have a:∀c,dI P (do
  let l <-match lo.map ρ with
   |some v=>Instr.sliceBound v h c
   |none=>pure 0
  pure (l,h,m):Sem (Nat × Nat × Nat)) k O K Kp:=by
  intro c;cases lo with
  |none=>simp only at i;subst i;exact af (ag (ag j))
  |some o=>obtain⟨⟨kd,b⟩,d⟩:=i;have:=e o (.inl rfl);rw[b]at this;exact af (qm this d (ag j))
 cases mx with
 | none=>
   simp only at f;subst f;refine af (ag ?_);cases hi with
   |none=>obtain⟨_,rfl⟩:=g;exact af (ag (a _))
   |some o=>obtain⟨⟨kd,b⟩,d⟩:=g;have:=e o (.inr (.inl rfl));rw[b]at this;exact af (qm this d (a _))
 | some p=>
   obtain⟨⟨s,q⟩,r⟩:=f;have n:=e p (.inr (.inr rfl));rw[q]at n;refine af (qm n r ?_);cases hi with
   |none=>simp_all
   |some o=>obtain⟨⟨kd,b⟩,d⟩:=g;have:=e o (.inr (.inl rfl));rw[b]at this;exact af (qm this d (a _))
end
def sk{kk:Nat}:∀{es:acw}(_:∀e∈es,e.cells.length=kk) (l:Nat),flatten (es.drop l)=(flatten es).drop (l*kk)
 |[],_,l=>by simp[flatten]
 |a::es,h,0=>by simp
 |a::es,h,l+1=>by rw[List.drop_succ_cons,sk (λe b=>h e (by simp[b])) l,flatten_cons,aaU,Nat.one_mul,Nat.add_comm,<-List.drop_drop,<-h a (by simp),List.drop_left]
def sm{kk:Nat}:∀{es:acw}(_:∀e∈es,e.cells.length=kk) (l:Nat),flatten (es.take l)=(flatten es).take (l*kk)
 |[],_,l=>by simp[flatten]
 |a::es,h,0=>by simp[flatten]
 | a::es,h,l+1=>by
   have c:=h a (by simp);have d:(l+1)*kk=l*kk+kk:=by grind
   rw[List.take_succ_cons,flatten_cons,sm (λe b=>h e (by simp[b])) l,flatten_cons,abo,aag (l:=a.cells) (by omega)]
   simp_all
section
variable{P:acD}(L:iZ P){o:Oper}{env:Env}{σ:aa}{K:abU}{Kp:abU}
def nz{t:TypeId}{x:acE}{lo hi mx:abO}(a:o.op=.slice t x lo hi mx):x∈o.op.operands/\∀y,(lo=some y\/hi=some y\/mx=some y)->y∈o.op.operands:=by simp_all
def V.J6{k:ah}{b off cap kk N E l h m:Nat}{es:acw}{sp:cT}(p:k.sh b=some (E,N))(s:off+cap*kk<=N)(g:∀e∈es,e.cells.length=kk)
 (t:∀(j:Nat) a,(flatten es)[j]?=some a->∃v,k.cell b (off+j)=some v/\V k v a/\bQ.flat v=true) (u:l<=h) (w:h<=m) (x:m<=cap) (q:h<=es.length) (c:sp=.any\/(sp=.exact/\m=h)):
 V k (.slice (if m=l then some ⟨b,off,none⟩else(some (⟨b,off,none⟩:Addr)).map (·.add (l*kk))) (h-l) (m-l)) (.sl kk ((es.drop l).take (h-l)) sp):=by
 have hlen:((es.drop l).take (h-l)).length=h-l:=by simp;omega
 have d:∀e∈(es.drop l).take (h-l),e.cells.length=kk:=λe i=>g e (List.mem_of_mem_drop (aaV i))
 by_cases f:m=l
 . rw[if_pos f]
   have r:h-l=0:=by omega
   have n:m-l=0:=by omega
   rw[r,n];have:(es.drop l).take 0=[]:=by simp
   rw[this];refine V.ofRow (kk:=kk) (es:=[]) (cap:=0) (by simp) p (by omega) (by simp) (λj a o=>by simp[flatten]at o) (by rcases c with rfl|⟨rfl,_⟩<;>simp[cT.fits])
 . rw[if_neg f,ZR,iz]
   conv=>lhs;rw[<-hlen]
   refine V.ofRow (by omega) p ?_ d (λj a o=>?_) ?_
   . have:=ZZ kk (show l+(m-l)<=cap by omega)
     grind
   . rw[sm (λe i=>g e (List.mem_of_mem_drop i)),sk g]at o
     grind
   . rcases c with rfl|⟨rfl,rfl⟩
     . trivial
     . show m-l=_;rw[hlen]
def wT{t e:Nat}{x:acE}{lo hi:abO}{it g:TI}{es:acw}{sp:cT}{l h:Nat}(r:o.op=.slice t x lo hi none)(u:L.tt t=some it)(v:it.kind=.slice e)(w:L.tt e=some g)
 (D:an env x=.sl g.size es sp) (hb:∀cap,es.length<=cap->Cw env es.length cap lo hi none l h cap) (i:h<=es.length) (y:K (.sl g.size ((es.drop l).take (h-l)) .any) σ):aI P o env σ K Kp:=
 aI.val (s:=λc=>Instr.sliceAt t (c x) (lo.map c) (hi.map c) none) (λc=>by simp[execOp,r]) λk O c j z=>by
  obtain⟨F,A⟩:=nz r;have B:=j x F;rw[D]at B;unfold Instr.sliceAt;refine af (aF L u λT _ m=>?_);rw[bN m v];dsimp only;unfold Instr.slice;refine af (aF L u λd _ hd=>?_);rw[bN hd v];rcases B.kN with⟨G,n,rfl,_⟩|⟨b,off,cap,N,E,n,C,H,I,J,M,U⟩
  . rw[n]
    have a:=hb 0 (by simp);have:=a.le (by simp);have p:l=0:=by omega
    have q:h=0:=by omega
    cases G<;>(
     dsimp only;refine af (lC (mx:=none) a (λo f=>j o (A o (by simpa using f))) ?_);dsimp only;refine af (bI L w (ag (.here ⟨.refl k,_,σ,?_,z,y⟩)));subst p;subst q;simp only[if_true,Nat.sub_zero,List.drop_zero,List.take_nil];exact .slnil _ _ _ (.inl rfl))
  . rw[n]
    dsimp only;have a:=hb cap C;obtain⟨Q,R,S⟩:=a.le C;refine af (lC (mx:=none) a (λo f=>j o (A o (by omega))) ?_);dsimp only;refine af (bI L w (ag (.here ⟨.refl k,_,σ,?_,z,y⟩)));exact V.J6 H I J M Q R S i (.inl rfl)
def uT{t e:Nat}{x:acE}{lo hi:abO}{mx:acE}{it n:TI}{es:acw}{sp:cT}{l h:Nat}(z:o.op=.slice t x lo hi (some mx))(A:L.tt t=some it)(B:it.kind=.slice e)(p:L.tt e=some n)
 (G:an env x=.sl n.size es sp) (hb:∀cap,es.length<=cap->Cw env es.length cap lo hi (some mx) l h h) (q:h<=es.length) (r:∀a,(a=.sl n.size ((es.drop l).take (h-l)) .exact\/(es=[]/\a=.nil))->K a σ):aI P o env σ K Kp:=
 aI.val (s:=λg=>Instr.sliceAt t (g x) (lo.map g) (hi.map g) (some (g mx))) (λg=>by simp[execOp,z]) λk O g m u=>by
  obtain⟨H,v⟩:=nz z;have C:=m x H;rw[G]at C;unfold Instr.sliceAt;refine af (aF L A λU _ w=>?_);rw[bN w B];dsimp only;unfold Instr.slice;refine af (aF L A λd _ hd=>?_);rw[bN hd B];rcases C.kN with⟨D,y,rfl,_⟩|⟨b,off,cap,N,E,y,F,I,J,M,Q,W⟩
  . rw[y]
    have c:=hb 0 (by simp);have:=c.le (by simp);have i:l=0:=by omega
    have j:h=0:=by omega
    cases D with
    | none=>
      dsimp only;refine af (lC (mx:=some mx) c (λo f=>m o (v o f)) ?_);dsimp only;refine af (bI L p (ag (.here ⟨.refl k,.nil,σ,?_,u,r _ (.inr ⟨rfl,rfl⟩)⟩)));subst i;subst j;simp only[if_true,Nat.sub_zero];exact .lit _
    | some D=>
      dsimp only;refine af (lC (mx:=some mx) c (λo f=>m o (v o f)) ?_);dsimp only;refine af (bI L p (ag (.here ⟨.refl k,_,σ,?_,u,r _ (.inl rfl)⟩)));subst i;subst j;simp only[if_true,Nat.sub_zero,List.drop_zero,List.take_nil];exact .slnil _ _ _ (.inr ⟨rfl,rfl⟩)
  . rw[y]
    dsimp only;have c:=hb cap F;obtain⟨R,S,T⟩:=c.le F;refine af (lC (mx:=some mx) c (λo f=>m o (v o f)) ?_);dsimp only;refine af (bI L p (ag (.here ⟨.refl k,_,σ,?_,u,r _ (.inl rfl)⟩)));exact V.J6 I J M Q R S T q (.inr ⟨rfl,rfl⟩)
end
section
variable{P:acD}(L:iZ P){k:ah}{O:aj}{Kp:abB}
end
section
variable{P:acD}(L:iZ P){o:Oper}{env:Env}{σ:aa}{K:abU}{Kp:abU}
def A7{op:BinOp}{t C e:Nat}{x y:acE}{i:TI}{kk:Nat}{es:acw}{sp:cT}(D:o.op=.binOp op t x y C)(F:L.tt t=some i)(G:i.kind=.slice e)(H:an env y=.nil)
 (I:an env x=.sl kk es sp) (j:op=.eql\/op=.neq) (J:es=[]->K (.lit (.bool (op==.eql))) σ) (r:K (.lit (.bool (op==.neq))) σ):aI P o env σ K Kp:=
 aI.val (s:=λg=>do eqGuard op t x y (g x) (g y);binOp op t (g x) (g y)) (λg=>by simp[execOp,D]) λk O g l M=>by
  have A:=l x (by simp_all)
  have B:=l y (by simp_all)
  rw[H]at B;rw[I]at A;have Q:g y=.slice none 0 0:=B.J5
  have m:∃a n c,g x=.slice a n c/\(a.isNone=true->es=[]):=by
   rcases A.kN with⟨W,m,h,_⟩|⟨b,off,cap,N,E,m,_⟩
   . simp_all
   simp_all
  obtain⟨a,n,c,m,X⟩:=m;rw[m,Q];have S:eqGuard op t x y (.slice a n c) (.slice none 0 0)=pure ():=by rcases j with rfl|rfl<;>simp[eqGuard]
  rw[S];refine af (ag ?_)
  have p:∀(R:abD) (u:abB),R a.isNone k O->dI P (Op.equal t (.slice a n c) (.slice none 0 0)) k O R u:=λR u T=>by
   show dI P (Op.equalIn (9999+1) t (.slice a n c) (.slice none 0 0)) k O R u;rw[Op.equalIn];refine af (aF L F λd _ hd=>?_)
   rw[bN hd G];cases a<;>exact ag T
  have fin:∀b:Bool,K (.lit (.bool b)) σ->dI P (do pure (.bool b)) k O (λv q w=>mq q w λz U=>k.Le z/\∃a f,V z v a/\Rel z U f/\K a f) (λv q w=>k.Le q/\∃a f,V q v a/\Rel q w f/\Kp a f):=λb hb=>ag (.here ⟨.refl k,_,σ,.lit _,M,hb⟩)
  rcases j with rfl|rfl
  . refine af (s:=Op.equal t (.slice a n c) (.slice none 0 0)) (p _ _ (fin _ ?_))
    cases Y:a.isNone with
    |true=>simp_all
    |false=>exact r
  . refine af (s:=Op.equal t (.slice a n c) (.slice none 0 0)) (p _ _ (fin (!a.isNone) ?_))
    grind
def HA{i:TI}{d:TypeDesc}(h:dF P i d=true)(a:i.kind=.bool):d=.bool:=by cases d<;>simp_all [dF]
def zB{op:BinOp}{t n:Nat}{x y:acE}{i:TI}{p q:Bool}(r:o.op=.binOp op t x y n)(u:L.tt t=some i)(v:i.kind=.bool)(w:an env x=.lit (.bool p))(z:an env y=.lit (.bool q)){b:Bool}(c:(op=.eql/\b=(p==q))\/(op=.neq/\b=!(p==q)))(h:K (.lit (.bool b)) σ):aI P o env σ K Kp:=
 aI.val (s:=λa=>do eqGuard op t x y (a x) (a y);binOp op t (a x) (a y)) (λa=>by simp[execOp,r]) λk O a e j=>by
  have l:=e x (by simp_all)
  have m:=e y (by simp_all)
  rw[w]at l;rw[z]at m;rw[rA l,rA m];have A:eqGuard op t x y (.bool p) (.bool q)=pure ():=by rcases c with⟨rfl,_⟩|⟨rfl,_⟩<;>simp[eqGuard]
  rw[A];refine af (ag ?_)
  have f:∀(R:abD) (g:abB),R (p==q) k O->dI P (Op.equal t (.bool p) (.bool q)) k O R g:=λR g B=>by
   show dI P (Op.equalIn (9999+1) t (.bool p) (.bool q)) k O R g;rw[Op.equalIn];refine af (aF L u λd _ hd=>?_)
   rw[HA hd v];exact ag B
  rcases c with⟨rfl,rfl⟩|⟨rfl,rfl⟩
  . exact af (s:=Op.equal t (.bool p) (.bool q)) (f _ _ (ag (.here ⟨.refl k,_,σ,.lit _,j,h⟩)))
  . exact af (s:=Op.equal t (.bool p) (.bool q)) (f _ _ (ag (.here ⟨.refl k,_,σ,.lit _,j,h⟩)))
end
inductive jE{α:Sort _}(a:α):Type
 |mk
def yR{α:Type}(x:Option α)(K:α->Prop)(u:jE K:=.mk):Prop:=∃a,x=some a/\K a
@[simp] theorem HB{α:Type}{a:α}{K:α->Prop}{u:jE K}:yR (some a) K u=K a:=by simp[yR]
@[simp] theorem HC{α:Type}{K:α->Prop}{u:jE K}:yR (none:Option α) K u=False:=by simp[yR]
@[simp] theorem sn{α β:Type}{f:α->β}{x:Option α}{K:β->Prop}{u:jE K}:yR (x.map f) K u=yR x (λa=>K (f a)):=by cases x<;>simp
def uU(x:Bool)(A B:Prop)(u:jE A:=.mk)(v:jE B:=.mk):Prop:=(x=true->A)/\(x=false->B)
@[simp] theorem oa{A B:Prop}{u:jE A}{v:jE B}:uU true A B u v=A:=by simp[uU]
@[simp] theorem mz{A B:Prop}{u:jE A}{v:jE B}:uU false A B u v=B:=by simp[uU]
def Vn(σ:aa)(F:ack)(u:jE F:=.mk):Prop:=∀b,σ b=none->F b
section
variable{P:acD}(L:iZ P){o:Oper}{env:Env}{σ:aa}{K:abU}{Kp:abU}
def tO{x:acE}{q t:Nat}{i:TI}(z:o.op=.typeAssert x q t true)(r:L.tt t=some i)(A:i.kind≠.iface)(B:an env x=.lit .nilIface)
 (C:K (.cB [ly i.zero,.lit (.bool false)]) σ):aI P o env σ K Kp:=
 aI.val (s:=λl=>Instr.typeAssert (l x) q t true) (λl=>by simp[execOp,z]) λk O l m D=>by
  have f:=m x (by simp_all);rw[B]at f;generalize l x=v at f;cases f;unfold Instr.typeAssert;refine af (aF L r λdd _ hd=>?_);have E:∀ms,dd≠.interface ms:=λms e=>by subst e;simp[dF]at hd;exact A hd
  have pair:∀{u:Value}{b:Bool}{a:AV},V k u a->V k (.tuple #[u,.bool b]) (.cB [a,.lit (.bool b)]):=λ{u b a} h=>.cB _ _ rfl λj w c f y=>by
   match j with
   |0=>simp_all
   |1=>simp at f y;subst f;subst y;exact .lit _
   |j+2=>simp at f
  have fin:dI P ((do pure (.tuple #[<-zeroValue t,.bool false]):Sem Value)) k O (λv g n=>mq g n λp F=>k.Le p/\∃a d,V p v a/\Rel p F d/\K a d) (λv g n=>k.Le g/\∃a d,V g v a/\Rel g n d/\Kp a d):=af (cR L r (ag (.here ⟨.refl k,_,σ,pair (.ly k _),D,C⟩)))
  simp_all
end
def Od(a:TI)(len:Nat)(parts:List (Nat × AV)):Bool:=decide (len*a.size<=16777216) && (ly a.zero).cells.all AV.flat && (decide (len*a.size=0)||decide ((ly a.zero).cells.length=a.size)) && (parts.map (·.1)==List.range len) && parts.all λp=>decide (p.2.cells.length=a.size) && p.2.cells.all AV.flat
def uV{size:Nat}:∀(parts:List (Nat × AV)) (l:acw) (s:Nat),(parts.map (·.1)=List.range' s parts.length)->(∀p∈parts,p.2.cells.length=size/\p.2.cells.all AV.flat=true)->(s+parts.length)*size=l.length ->
 kI (λj=>some (j*size,size)) l parts=some (l.take (s*size)++flatten (parts.map (·.2)))
 |[],l,s,_,_,c=>by simp[kI,flatten]at c ⊢;simp_all
 | (i,a)::parts,l,s,d,g,c=>by
   simp only[aaT,ZQ,List.range'_succ,List.cons.injEq]at d;obtain⟨rfl,d⟩:=d;obtain⟨h,k⟩:=g (i,a) (by simp);simp only[ZQ]at c;have e:i*size+size<=l.length:=by grind
   have b:i*size+a.cells.length<=l.length:=by simp_all
   simp only[kI];rw[if_pos ⟨h,e,k⟩];rw[uV parts (aJ l (i*size) a.cells) (i+1) d (λp f=>g p (by simp[f])) (by rw[mW b,<-c];grind)];congr 1;rw[aaT,flatten_cons,<-List.append_assoc];congr 1;have:(i+1)*size=i*size+a.cells.length:=by grind
   rw[this];unfold aJ;rw[aau,abo,abo];have m:(List.take (i*size) l).length=i*size:=by grind
   rw[m,aag (by omega)];congr 1;have n:i*size+a.cells.length-i*size=a.cells.length:=by omega
   grind
section
variable{P:acD}(L:iZ P)
def EG{o:Oper}{env:Env}{σ:aa}{K Kp:abU}{t len e:Nat}{parts:abA}{it a:TI}(f:o.op=.buildSlice t len parts)(g:L.tt t=some it)(i:it.kind=.slice e)(j:L.tt e=some a)
 (h:Od a len (parts.toList.map λp=>(p.1,an env p.2))=true) (k:K (.sl a.size (parts.toList.map λp=>an env p.2) .exact) σ):aI P o env σ K Kp:=by
 simp only[Od,zj,aaY,ZP,abc,beq_iff_eq,decide_eq_true_eq]at h;obtain⟨⟨⟨⟨l,r⟩,m⟩,d⟩,n⟩:=h;have hlen:parts.toList.length=len:=by have:=congrArg List.length d;grind
 have b:∀p∈(parts.toList.map λp=>(p.1,an env p.2)),p.2.cells.length=a.size/\p.2.cells.all AV.flat=true:=λp c=>⟨(n p c).1,by grind⟩
 refine yQ L f g i j l (by grind) m (es:=parts.toList.map λp=>an env p.2) ⟨by grind,λx q=>?_⟩ ?_ k
 . obtain⟨p,c,rfl⟩:=List.mem_map.1 q
   exact(b (p.1,an env p.2) (List.mem_map.2 ⟨p,c,rfl⟩)).1
 . rw[uV (size:=a.size) _ _ 0 (by rw[abc,d,ZE,hlen,List.range_eq_range']) b (by grind)]
   simp[Function.comp_def]
inductive Out where
 |ok (a:AV) (σ:aa)
 |no
 |iA (p:Prop) (x:Out)
 |new (σ:aa) (c:acw)
 |panic (v:AV) (σ:aa)
def Out.opt(x:acn)(σ:aa):Out:=match x with|some a=>.ok a σ|none=>.no
def rE(x:Out)(K Kp:abU)(u:jE K:=.mk)(v:jE Kp:=.mk):Prop:=
 match x with
 |.ok a σ=>K a σ
 |.no=>False
 |.iA p x=>p/\rE x K Kp u v
 |.new σ c=>Vn σ λb=>K (.ref b 0) (σ.set b (.cells c))
 |.panic v σ=>Kp v σ
section
variable{K Kp:abU}{u:jE K}{v:jE Kp}
@[simp] theorem Va{a:AV}{σ:aa}:rE (.ok a σ) K Kp u v=K a σ:=propext ZL
@[simp] theorem Vb:rE .no K Kp u v=False:=propext ZL
@[simp] theorem nA{p:Prop}{x:Out}:rE (.iA p x) K Kp u v=(p/\rE x K Kp):=propext ZL
@[simp] theorem iB{x:acn}{σ:aa}:rE (.opt x σ) K Kp u v=yR x (λa=>K a σ):=by cases x<;>simp[Out.opt]
end
def EH(op:BinOp)(kd:IntKind)(a b:Int)(σ:aa):Out:=
 match op,kd with
 |.add,.i64=>.iA (fits (a+b)) (.ok (.lit (.int .i64 (a+b))) σ)
 |.sub,.i64=>.iA (fits (a-b)) (.ok (.lit (.int .i64 (a-b))) σ)
 |.mul,.i64=>.iA (fits (a*b)) (.ok (.lit (.int .i64 (a*b))) σ)
 |.eql,_=>.ok (.lit (.bool (a==b))) σ
 |.neq,_=>.ok (.lit (.bool (a !=b))) σ
 |.lss,_=>.ok (.lit (.bool (decide (a<b)))) σ
 |.leq,_=>.ok (.lit (.bool (decide (a<=b)))) σ
 |.gtr,_=>.ok (.lit (.bool (decide (a>b)))) σ
 |.geq,_=>.ok (.lit (.bool (decide (a>=b)))) σ
 |.shl,_=>.iA (0<=b) (.ok (.lit (.int kd (kd.wrap (a*2 ^ (min b.toNat kd.bits))))) σ)
 |.shr,_=>.iA (0<=b) (.ok (.lit (.int kd (a.fdiv (2 ^ (min b.toNat kd.bits))))) σ)
 |op,kd=>.opt ((pf op kd a b).map .lit) σ
def J7{op:BinOp}{kd:IntKind}{a b:Int}{σ:aa}{K Kp:abU}(h:rE (EH op kd a b σ) K Kp):rB op kd a b λv=>K (.lit v) σ:=by
 have key:∀x:abV,rE (.opt (x.map .lit) σ) K Kp->∃v,x=some v/\K (.lit v) σ:=λx h=>by rw[iB,sn]at h;exact h
 cases op<;>first|exact key _ h|exact h|(cases kd<;>first|exact h|exact key _ h)
def A8(mu:acr)(o:Oper)(env:Env)(σ:aa):Out:=
 match o.op with
 |.move x=>.ok (an env x) σ
 |.assign x=>.ok (an env x) σ
 | .pick c a b=>match an env c with
   |.lit (.bool x)=>.ok (if x then an env a else an env b) σ
   |_=>.no
 | .alloc t=>match L.tt t with
   |some i=>.iA ((ly i.zero).cells.all AV.flat=true) (.new σ (ly i.zero).cells)
   |none=>.no
 |.box _ x=>.iA ((an env x).cells.all AV.flat=true) (if(match o.dst with|some d=>mu.contains d|none=>false)=true then .new σ (an env x).cells else .ok (.cp (an env x) 0) σ)
 | .load t p=>match L.tt t with
   |some i=>.opt (qQ i σ (an env p)) σ
   |none=>.no
 | .store t p x=>match L.tt t with
   |some i=>(match rz i σ (an env p) (an env x)with|some n=>.ok (.lit undef) n|none=>.no)
   |none=>.no
 | .fieldAddr s x j=>match L.tt s with
   | some ⟨.struct,_,_,_,jO⟩=>(match jO[j]? with
     |some f=>.iA (f.2.1≠0) (.opt (rX (an env x) f.1) σ)
     |none=>.no)
   |_=>.no
 | .field s x j=>match L.tt s,an env x with
   | some ⟨.struct,_,_,_,jO⟩,.agg l=>(match jO[j]? with
     |some f=>(match L.tt f.2.2 with|some q=>.opt (cN l f.1 q.size q.agg) σ|none=>.no)
     |none=>.no)
   |_,_=>.no
 | .indexAddr t x m=>match L.tt t with
   | some ⟨.slice e,_,_,_,_⟩=>(match L.tt e,an env x,an env m with
     |some g,.sl u es _,.lit (.int _ z)=>.iA (u=g.size/\0<=z) (.opt ((es[z.toNat]?).map λa=>.cp a 0) σ)
     |some g,.gW b off len _,.lit (.int _ z)=>.iA (0<=z/\z<len) (.ok (.ref b (off+z.toNat*g.size)) σ)
     |_,_,_=>.no)
   | some ⟨.array k e,_,_,_,_⟩=>(match L.tt e,an env m with
     |some g,.lit (.int _ z)=>.iA (0<=z/\z<k) (.opt (rX (an env x) (z.toNat*g.size)) σ)
     |_,_=>.no)
   |_=>.no
 | .index t x m=>match L.tt t with
   | some ⟨.array k e,_,_,_,_⟩=>(match L.tt e,an env x,an env m with
     |some g,.agg l,.lit (.int _ z)=>.iA (0<=z/\z<k) (.opt (cN l (z.toNat*g.size) g.size g.agg) σ)
     |_,_,_=>.no)
   |_=>.no
 | .binOp op t x y _=>match an env x,an env y with
   | .lit (.bool a),.lit (.bool b)=>(match L.tt t with
     | some ⟨.bool,_,_,_,_⟩=>(match op with
       |.eql=>.ok (.lit (.bool (a==b))) σ
       |.neq=>.ok (.lit (.bool (!(a==b)))) σ
       |_=>.no)
     |_=>.no)
   |.lit (.int kd a),.lit (.int h b)=>.iA (kd=h\/op=.shl\/op=.shr) (if(match o.dst with|some d=>mu.contains d|none=>false)=true then .opt ((pf op kd a b).map .lit) σ else EH op kd a b σ)
   |_,_=>.no
 | .unOp .not _ x=>match an env x with
   |.lit (.bool b)=>.ok (.lit (.bool !b)) σ
   |_=>.no
 | .convert _ t x=>match L.tt t,an env x with
   |some ⟨.int kd,_,_,_,_⟩,.lit (.int _ a)=>.ok (.lit (.int kd (kd.wrap a))) σ
   |_,_=>.no
 | .makeInterface t x=>match L.tt t with
   |some i=>.iA (i.kind≠.iface) (.ok (.lZ t (an env x)) σ)
   |none=>.no
 |.makeFunc f fs cs=>.ok (.fn f (fs.toList.map (an env)) (cs.toList.map (an env))) σ
 | .extract x j=>match an env x with
   |.cB l=>.opt (l[j]?) σ
   |_=>.no
 | .typeAssert x _ t true=>match L.tt t,an env x with
   |some i,.lZ d y=>.iA (i.kind≠.iface) (.ok (if d=t then .cB [y,.lit (.bool true)]else .cB [ly i.zero,.lit (.bool false)]) σ)
   |some i,.lit .nilIface=>.iA (i.kind≠.iface) (.ok (.cB [ly i.zero,.lit (.bool false)]) σ)
   |_,_=>.no
 |.nilCheck x=>match an env x with|.cp v off=>.ok (.cp v off) σ|.ref b off=>.ok (.ref b off) σ|.kp b l hole off=>.ok (.kp b l hole off) σ|.fn (.func f) l r=>.ok (.fn (.func f) l r) σ|_=>.no
 | .panic x=>match an env x with
   |.lZ t y=>.panic (.lZ t y) σ
   |_=>.no
 | .build t parts=>match L.tt t with
   |some i=>.iA (i.kind=.struct/\(ly i.zero).cells.all AV.flat=true) (.opt ((kI (λj=>(i.jO[j]?).map λx=>(x.1,x.2.1)) (ly i.zero).cells (parts.toList.map λp=>(p.1,an env p.2))).map .agg) σ)
   |none=>.no
 | .buildSlice t len parts=>match L.tt t with
   | some ⟨.slice e,_,_,_,_⟩=>(match L.tt e with
     |some g=>.iA (Od g len (parts.toList.map λp=>(p.1,an env p.2))=true) (.ok (.sl g.size (parts.toList.map λp=>an env p.2) .exact) σ)
     |none=>.no)
   |_=>.no
 | .call c=>match c.callee,c.args.toList with
   | .builtin .len,[x]=>(match an env x with
     |.sl _ es _=>.ok (.lit (.int .i64 es.length)) σ
     |.lit (.slice none 0 0)=>.ok (.lit (.int .i64 0)) σ
     |.gW _ _ len _=>.ok (.lit (.int .i64 len)) σ
     |_=>.no)
   | .builtin .min,[x,y]=>(match an env x,an env y with
     |.lit (.int kd a),.lit (.int h b)=>.iA (kd=h) (.ok (.lit (.int kd (if b<a then b else a))) σ)
     |_,_=>.no)
   | .builtin .max,[x,y]=>(match an env x,an env y with
     |.lit (.int kd a),.lit (.int h b)=>.iA (kd=h) (.ok (.lit (.int kd (if b>a then b else a))) σ)
     |_,_=>.no)
   |_,_=>.no
 |_=>.no
def py(o:Oper):Bool:=
 match o.op with
 |.buildSlice t _ _=>match L.tt t with|some ⟨.slice _,_,_,_,_⟩=>true|_=>false
 |.binOp _ t _ _ _=>match L.tt t with|some ⟨.int _,_,_,_,_⟩=>true|some ⟨.bool,_,_,_,_⟩=>true|_=>false
 |_=>sa L o
def wU{mu:acr}{o:Oper}{env:Env}{σ:aa}{K Kp:abU}(A:py L o=true)(h:rE (A8 L mu o env σ) K Kp):aI P o env σ K Kp:=by
 unfold A8 at h;unfold py sa at A;split at h
 . next x g=>exact vL (.inl g) h
 . next x g=>exact vL (.inr g) h
 . next c a b g=>
   split at h
   . next x m=>exact Gk g m h
   . exact h.elim
 . next t g=>
   split at h
   . next i w=>exact Cj L g w h.1 h.2
   . exact h.elim
 . next t x g=>
   obtain⟨B,C⟩:=h;generalize (match o.dst with|some d=>mu.contains d|none=>false)=q at C;cases q
   . exact JV g B C
   . exact wC g B C
 . next t p g=>
   split at h
   . next i w=>rw[iB]at h;obtain⟨a,B,C⟩:=h;exact AQ L g w B C
   . exact h.elim
 . next t p x g=>
   split at h
   . next i w=>
     split at h
     . next Z B=>exact Ci L g w B h
     . exact h.elim
   . exact h.elim
 . next s x j g=>
   split at h
   . next I J M jO w=>
     split at h
     . next f U=>rw[nA,iB]at h;obtain⟨B,a,C,S⟩:=h;exact rY L g w rfl U B C S
     . exact h.elim
   . exact h.elim
 . next s x j g=>
   split at h
   . next I J M jO l w m=>
     split at h
     . next f U=>
       split at h
       . next fi V=>rw[iB]at h;obtain⟨a,B,C⟩:=h;exact Ck L g w rfl U V m B C
       . exact h.elim
     . exact h.elim
   . exact h.elim
 . next t x ix g=>
   split at h
   . next e I J M N w=>
     split at h
     . next T kk es sp kd z F m D=>rw[nA,iB,sn]at h;obtain⟨⟨rfl,G⟩,a,B,C⟩:=h;exact wD L g w rfl F m D G B C
     . next T b off len cap kd z F m D=>exact uQ L g w rfl F m D h.1 h.2
     . exact h.elim
   . next k e I J M N w=>
     split at h
     . next T kd z F D=>rw[nA,iB]at h;obtain⟨G,a,B,C⟩:=h;exact uP L g w rfl F D G B C
     . exact h.elim
   . exact h.elim
 . next t x ix g=>
   split at h
   . next k e I J M N w=>
     split at h
     . next T l kd z F m D=>rw[nA,iB]at h;obtain⟨G,a,B,C⟩:=h;exact Cl L g w rfl F m D G B C
     . exact h.elim
   . exact h.elim
 . next op t x y t2 g=>
   split at h
   . next a b m u=>
     split at h
     . next I J M N E=>
       split at h
       . exact zB L g E rfl m u (.inl ⟨rfl,rfl⟩) h
       . exact zB L g E rfl m u (.inr ⟨rfl,rfl⟩) h
       . exact h.elim
     . exact h.elim
   . next kd a H b m u=>
     obtain⟨a7,h⟩:=h;have n:(op≠.shl/\op≠.shr)->H=kd:=λhh=>by simp_all
     generalize (match o.dst with|some d=>mu.contains d|none=>false)=q at h;cases q with
     | true=>
       simp only[if_true,iB,sn]at h;obtain⟨v,R,W⟩:=h;rw[n ⟨(λe=>by subst e;cases R),(λe=>by subst e;cases R)⟩]at u;exact cZ g m u R W
     |false=>
     simp only[zR,if_false]at h;have h:=J7 h;unfold rB at h;split at h
     . rw[n (by simp)]at u;exact nu g m u (.inl ⟨rfl,rfl⟩) h.1 h.2
     . rw[n (by simp)]at u;exact nu g m u (.inr (.inl ⟨rfl,rfl⟩)) h.1 h.2
     . rw[n (by simp)]at u;exact nu g m u (.inr (.inr ⟨rfl,rfl⟩)) h.1 h.2
     . rw[n (by simp)]at u;exact cZ g m u rfl h
     . rw[n (by simp)]at u;exact cZ g m u rfl h
     . rw[n (by simp)]at u;exact cZ g m u rfl h
     . rw[n (by simp)]at u;exact cZ g m u rfl h
     . rw[n (by simp)]at u;exact cZ g m u rfl h
     . rw[n (by simp)]at u;exact cZ g m u rfl h
     . exact rZ g m u h.1 (.inl ⟨rfl,rfl⟩) h.2
     . exact rZ g m u h.1 (.inr ⟨rfl,rfl⟩) h.2
     . next B C S Y h5 h6 h7 h8 h9 a8 a9=>
       obtain⟨v,R,W⟩:=h;rw[n ⟨λe=>by simp_all,λe=>by simp_all⟩]at u;exact cZ g m u R W
   . exact h.elim
 . next t x g=>
   split at h
   . next b m=>exact JY g m h
   . exact h.elim
 . next s t x g=>
   simp only[g]at A;split at h
   . next kd I J M N H a E m=>
     split at A
     . next ks b1 b2 b3 b4 kt c1 c2 c3 c4 hs X=>rw[E]at X;exact wE L g hs E rfl rfl m h
     . cases A
   . exact h.elim
 . next t x g=>
   split at h
   . next i w=>exact nv L g w h.1 h.2
   . exact h.elim
 . next f fs cs g=>exact uR g h
 . next x j g=>
   split at h
   . next l m=>rw[iB]at h;obtain⟨a,B,C⟩:=h;exact wF g m B C
   . exact h.elim
 . next x xt t g=>
   split at h
   . next i d y w m=>exact qR L g w h.1 m h.2
   . next i w m=>exact tO L g w h.1 m h.2
   . exact h.elim
 . next x g=>
   split at h
   . next v off m=>exact fC g (.inl ⟨_,_,m⟩) (by simp_all)
   . next b off m=>exact fC g (.inr (.inl ⟨_,_,m⟩)) (by simp_all)
   . next b l hole off m=>exact fC g (.inr (.inr (.inr ⟨_,_,_,_,m⟩))) (by simp_all)
   . next f l r m=>exact fC g (.inr (.inr (.inl ⟨_,_,_,m⟩))) (by simp_all)
   . exact h.elim
 . next x g=>
   split at h
   . next t y m=>exact Cm g m h
   . exact h.elim
 . next t parts g=>
   split at h
   . next i w=>rw[nA,iB,sn]at h;obtain⟨⟨B,C⟩,l,S,Y⟩:=h;exact Co L g w B C S Y
   . exact h.elim
 . next t len parts g=>
   split at h
   . next e I J M N E=>
     split at h
     . next T F=>exact EG L g E rfl F h.1 h.2
     . exact h.elim
   . exact h.elim
 . next c g=>
   simp only[g]at A;split at h
   . next x O Q=>
     simp only[O,Q]at A;have e:=kV O Q;split at A
     . next t G=>
       split at A
       . next e' I J M N E=>
         rw[e]at g;split at h
         . next kk es sp m=>exact AR L g G E rfl (.inl m) h
         . next m=>exact AR L (kk:=0) (sp:=.any) (es:=[]) g G E rfl (.inr ⟨m,rfl⟩) h
         . next b off len cap m=>exact zx L g G E rfl m h
         . exact h.elim
       . cases A
     . cases A
   . next x y O Q=>
     rw[kV O Q]at g;split at h
     . next kd a H b m u=>obtain⟨rfl,h⟩:=h;exact qg g m u (.inl ⟨rfl,rfl⟩) h
     . exact h.elim
   . next x y O Q=>
     rw[kV O Q]at g;split at h
     . next kd a H b m u=>obtain⟨rfl,h⟩:=h;exact qg g m u (.inr ⟨rfl,rfl⟩) h
     . exact h.elim
   . exact h.elim
 . exact h.elim
end
def kO(pl:ace):Code->Bool
 |.seq a b=>kO pl a && kO pl b
 |.block _ c=>kO pl c
 |.scope c=>kO pl c
 |.cond _ a b=>kO pl a && kO pl b
 |.loop c=>kO pl c
 |.rangeFunc _ _ a c=>kO pl a && kO pl c
 |.region id ops true=>match pl.find? λe=>e.id==id with|some e=>sf ops e|none=>true
 |_=>true
def jI(pl:ace)(todo:acm):Bool:=todo.all fun|.code c=>kO pl c|_=>true
def J8{pl:ace}{id:Nat}{k k':acm}(h:exitTo id k=some k')(a:jI pl k=true):jI pl k'=true:=by unfold jI at a ⊢;rw[ZP]at a ⊢;exact λx b=>a x (qT h x b)
def ab(P:acD)(m:Mo)(fid n:Nat)(ro:acf)(hold:ace)(todo:acm)(s:St)(K:abK):Prop:=jI hold todo=true->Go P m fid n ro todo s K
def wV(ops:acd)(n:Nat)(env:Env)(o:Oper):Option Bool:=
 match o.guard with
 |none=>some true
 | some (j,b)=>match (ops[j]?).bind (·.dst)with
   | some d=>if d<n then(match env d with
     |.lit (.bool x)=>some (if b then x else !x)
     |.lit (.tuple _)=>some false
     |_=>none)else none
   |none=>none
def HE(x:Option Bool)(A B:Prop)(u:jE A:=.mk)(v:jE B:=.mk):Prop:=match x with|some b=>uU b A B u v|none=>False
@[simp] theorem nB{b:Bool}{A B:Prop}{u:jE A}{v:jE B}:HE (some b) A B u v=uU b A B:=propext ZL
@[simp] theorem SX{A B:Prop}{u:jE A}{v:jE B}:HE none A B u v=False:=propext ZL
def wW{ops:acd}{n:Nat}{env:Env}{o:Oper}{go no go' a:Prop}{u:jE go}{v:jE no}(f:go->go')(g:no->a)(h:HE (wV ops n env o) go no u v):rC ops n env o go' a:=by
 unfold wV at h;unfold rC;cases i:o.guard with
 |none=>simp_all
 | some p=>
   obtain⟨j,b⟩:=p;rw[i]at h;simp only at h ⊢;cases hd:(ops[j]?).bind (·.dst)with
   |none=>simp_all
   | some d=>
     rw[hd]at h;simp only at h ⊢;by_cases c:d<n
     . rw [if_pos c]at h
       refine⟨c,?_⟩;split at h
       . next x k=>
         simp only[k];refine⟨λe=>?_,λe=>?_⟩
         . simp_all
         . cases x<;>cases b<;>simp at e
           . simp_all
           simp_all
       . simp_all
       simp_all
     simp_all
def zC{ops:acd}{n:Nat}{env:Env}{o:Oper}{go no:Prop}{u:jE go}{v:jE no}(h:HE (wV ops n env o) go no u v):
 (bW ops n env o/\go)\/∃j b x d a,o.guard=some (j,b)/\ops[j]?=some a/\a.dst=some d/\d<n/\env d=.lit x/\SH x b/\no:=
 sc (wW id id h)
section
variable{P:acD}{m:Mo}{fid n:Nat}{ro:acf}{D:acz}{rc:Rec}{K:abK}{k:acm}{ops:acd}
def Go.SY{Kp:abU}{i:Nat}{is:acr}{env:Env}{σ:aa}(A:∀v env σ,Kp v σ->K (.panic v) ⟨env,σ,D,rc⟩)
 (h:cV P m ops n Kp [i] env σ (λenv σ=>Go P m fid n ro (.inRegion ops is::k) ⟨env,σ,D,rc⟩ K)):Go P m fid n ro (.inRegion ops (i::is)::k) ⟨env,σ,D,rc⟩ K:=by
 obtain⟨o,l,f,h⟩:=h;rcases h with⟨w,h⟩|⟨⟨j,b,x,d,Q,B,C,hd,p,E,q⟩,h⟩
 . rcases h with⟨fo,args,F,s,t⟩|⟨s,t⟩
   . refine .call l s w f (t.mono λr c G=>?_)
     cases r with
     |val a=>exact G
     |panic v=>simp_all
   . refine .op l w f s ?_
     intro H O I u J;refine jd _ (t H O I u J) (λ_ _ _ ⟨v,L,M,N,g,e,a,c,x,y,z⟩=>⟨v,L,M,N,g,e,a,c,x,y,z⟩) (λ_ _ _ ⟨e,a,c,x,y,z⟩=>⟨e,a,c,x,y,A _ _ _ z⟩)
 . exact .unwanted l B C hd p E q h
end
section
variable{P:acD}(L:iZ P)
def EI(mu:acr)(lt:Bool)(o:Oper)(env:Env)(σ:aa):acn:=
 match o.op with
 |.load t p=>if lt then(match L.tt t with|some i=>qQ i σ (an env p)|none=>none)else vz L mu o env
 |_=>vz L mu o env
def A9(mu:acr)(ops:acd)(n:Nat)(lt:Bool)(σ:aa)(K:Env->Prop)(u:jE K:=.mk):acr->Env->Prop
 |[],env=>K env
 | i::S,env=>match ops[i]? with
   |some o=>(Oper.ok n o && o.dst.isSome)=true/\HE (wV ops n env o) (yR (EI L mu lt o env σ) λa=>A9 mu ops n lt σ K u S (bc env o.dst a)) (A9 mu ops n lt σ K u S (bc env o.dst (.lit (.tuple #[]))))
   |none=>False
def EJ{mu:acr}{lt:Bool}{o:Oper}{env:Env}{σ:aa}{a:AV}(h:EI L mu lt o env σ=some a):vz L mu o env=some a\/(vz L mu o env=none/\lt=true/\wQ L o env σ=some a):=by
 unfold EI at h;split at h
 . next t p d=>
   cases lt
   . grind
   . simp only[if_true]at h
     split at h
     . next i e=>
       have f:wQ L o env σ=some a:=by simp_all
       cases b:vz L mu o env with
       |none=>grind
       | some g=>
         left;unfold vz at b;simp only[d,e]at b;split at b
         . next j v off c k=>
           cases c
           simp_all
         . simp_all
         . cases b
     . cases h
 grind
def nC{mu:acr}{ops:acd}{n:Nat}{lt:Bool}{σ:aa}{K:Env->Prop}{u:jE K}:∀{S:acr}{env:Env},A9 L mu ops n lt σ K u S env->jC L mu ops n lt σ S env K
 |[],env,h=>h
 | i :: S,env,h=>by
   unfold A9 at h;unfold jC;split at h
   . next o e=>
     simp only[e];obtain⟨b,f⟩:=h;rw[zj]at b;refine⟨b.1,b.2,?_⟩
     have main:(yR (EI L mu lt o env σ) λa=>A9 L mu ops n lt σ K u S (bc env o.dst a))->(match vz L mu o env with
      |some a=>jC L mu ops n lt σ S (bc env o.dst a) K
      | none=>lt=true/\(match wQ L o env σ with
        |some a=>jC L mu ops n lt σ S (bc env o.dst a) K
        |none=>False)):=by
      rintro⟨a,g,d⟩;rcases EJ L g with h|⟨h,j,c⟩
      . simp only[h];exact nC d
      . simp only[h,c];exact⟨j,nC d⟩
     exact wW main nC f
   simp_all
def uW:Op->Bool
 |.defer _|.go _|.send _ _|.recv _ _ _|.select _ _=>false
 |.call c=>match c.callee with|.builtin .recover=>false|.builtin .close=>false|.invoke _ _=>false|_=>true
 |_=>true
def Oe(m:Mo)(o:Oper)(env:Env)(σ:aa)(R:abU)(Kp:abU):Prop:=
 match o.op with
 |.call ⟨.value fo,args,_⟩=>bZ P m (an env fo) (args.toList.map (an env)) σ λr b=>match r with|.val a=>R a b|.panic v=>Kp v b
 |_=>aI P o env σ R Kp
def Gl{m:Mo}{o:Oper}{env:Env}{σ:aa}{R Kp:abU}(b:uW o.op=true)(h:Oe (P:=P) m o env σ R Kp):Oc P m o env σ R Kp:=by
 unfold Oe at h;split at h
 . next fo args a d=>exact .inl ⟨fo,args,a,d,h⟩
 . exact .inr ⟨(λc e=>by rw[e]at b;cases b),h⟩
def aM(P:acD)(m:Mo)(ops:acd)(n:Nat)(Kp:abU)(p:jD)(env:Env)(σ:aa)(R:abP):Prop:=iM P m ops n Kp p env σ R
def Of(m:Mo)(mu:acr)(ops:acd)(n:Nat)(Kp:abU)(i:Nat)(p:jD)(env:Env)(σ:aa)(go:abP)(R:abP)(u:jE go:=.mk):Prop:=
 match ops[i]? with
 | some o=>Oper.ok n o=true/\HE (wV ops n env o) (if py L o=true then rE (A8 L mu o env σ) (λa b=>go (bc env o.dst a) b) Kp else
    if uW o.op=true then Oe (P:=P) m o env σ (λa b=>aM P m ops n Kp p (bc env o.dst a) b R) Kp else ji P m ops n Kp i env σ (λenv σ=>aM P m ops n Kp p env σ R)) (go (bc env o.dst (.lit (.tuple #[]))) σ)
 |none=>False
def im(m:Mo)(mu:acr)(ops:acd)(n:Nat)(Kp:abU):jD->Env->aa->abP->Prop
 |.done,env,σ,R=>R env σ
 |.take S lt p,env,σ,R=>A9 L mu ops n lt σ (λa=>im m mu ops n Kp p a σ R) .mk S env
 |.one i p,env,σ,R=>Of L m mu ops n Kp i p env σ (λenv σ=>im m mu ops n Kp p env σ R) R
 |.both i p q,env,σ,R=>Of L m mu ops n Kp i p env σ (λenv σ=>im m mu ops n Kp p env σ R) R/\im m mu ops n Kp q env σ R
def tP{m:Mo}{mu:acr}{ops:acd}{n:Nat}{Kp:abU}{p:jD}{R:abP}(r:∀{env σ},im L m mu ops n Kp p env σ R->iM P m ops n Kp p env σ R){i:Nat}{env:Env}{σ:aa}
 (h:Of L m mu ops n Kp i p env σ (λenv σ=>im L m mu ops n Kp p env σ R) R):ji P m ops n Kp i env σ (λenv σ=>iM P m ops n Kp p env σ R):=by
 unfold Of at h;split at h
 . next o g=>
   obtain⟨d,h⟩:=h;rcases zC h with⟨s,h⟩|⟨j,b,x,t,u,v,w,k,l,y,q,h⟩
   . split at h
     . next f=>
       refine⟨o,g,d,.inl ⟨s,.inr ⟨λc e=>?_,(wU L f h).mono λa z=>r⟩⟩⟩;unfold py sa at f;simp_all
     . split at h
       . next A=>exact⟨o,g,d,.inl ⟨s,Gl A h⟩⟩
       . exact h
   . exact⟨o,g,d,.inr ⟨⟨j,b,x,t,u,v,w,k,l,y,q⟩,r h⟩⟩
 . exact h.elim
def iM.im{m:Mo}(mu:acr){ops:acd}{n:Nat}{Kp:abU}{R:abP}:∀{p:jD}{env:Env}{σ:aa},im L m mu ops n Kp p env σ R->iM P m ops n Kp p env σ R
 |.done,_,_,h=>.done h
 |.take S lt p,_,_,h=>iM.take L mu (jC.mono L (λa h=>iM.im mu h) (nC L h))
 |.one i p,_,_,h=>iM.one (tP L (iM.im mu) h)
 |.both i p q,_,_,h=>iM.both (tP L (iM.im mu) h.1) (iM.im mu h.2)
def aM.go{m:Mo}(mu:acr){ops:acd}{n:Nat}{Kp:abU}{R:abP}{p:jD}{env:Env}{σ:aa}(h:im L m mu ops n Kp p env σ R):aM P m ops n Kp p env σ R:=iM.im L mu h
def bs(m:Mo)(fid n:Nat)(ro:acf)(mu:acr)(hold:ace):Nat->acm->St->abK->Prop
 |0,todo,s,K=>ab P m fid n ro hold todo s K
 | f + 1,todo,s,K=>match todo with
   |[]=>K (.leave none) s
   |.code .ret::_=>K (.leave (some .ret)) s
   |.code .skip::k=>bs m fid n ro mu hold f k s K
   |.code (.label _)::k=>bs m fid n ro mu hold f k s K
   |.inBlock _::k=>bs m fid n ro mu hold f k s K
   |.inScope _::k=>bs m fid n ro mu hold f k s K
   |.code (.seq a b)::k=>bs m fid n ro mu hold f (.code a::.code b::k) s K
   |.code (.block id c)::k=>bs m fid n ro mu hold f (.code c::.inBlock id::k) s K
   |.code (.scope c)::k=>bs m fid n ro mu hold f (.code c::.inScope c::k) s K
   | .code (.exit id)::k=>match exitTo id k with
     |some g=>bs m fid n ro mu hold f g s K
     |none=>K (.leave (some (.exit id))) s
   | .code (.cond c a b)::k=>Operand.ok n c=true/\(match an s.env c with
     |.lit (.bool x)=>uU x (bs m fid n ro mu hold f (.code a::k) s K) (bs m fid n ro mu hold f (.code b::k) s K)
     |_=>False)
   |.code (.region _ ops false)::k=>bs m fid n ro mu hold f (.inRegion ops (List.range ops.size)::k) s K
   | .code (.region id ops true)::k=>match hold.find? λe=>e.id==id with
     |some ⟨_,p⟩=>im L m mu ops n (λv σ=>∀env,K (.panic v) {s with env,σ}) p s.env s.σ (λenv σ=>ab P m fid n ro hold k {s with env,σ} K)
     |none=>ab P m fid n ro hold (.code (.region id ops true)::k) s K
   |.inRegion _ []::k=>bs m fid n ro mu hold f k s K
   | .inRegion ops (i::is)::k=>match ops[i]? with
     | some o=>Oper.ok n o=true/\
       HE (wV ops n s.env o) (if py L o=true then rE (A8 L mu o s.env s.σ) (λa d=>bs m fid n ro mu hold f (.inRegion ops is::k) {s with env:=bc s.env o.dst a,σ:=d} K) (λa d=>K (.panic a) {s with σ:=d})
        else if uW o.op=true then Oe (P:=P) m o s.env s.σ (λa d=>ab P m fid n ro hold (.inRegion ops is::k) {s with env:=bc s.env o.dst a,σ:=d} K) (λa d=>∀env,K (.panic a) {s with env,σ:=d})
        else ab P m fid n ro hold (.inRegion ops (i::is)::k) s K) (bs m fid n ro mu hold f (.inRegion ops is::k) {s with env:=bc s.env o.dst (.lit (.tuple #[]))} K)
     |none=>ab P m fid n ro hold (.inRegion ops (i::is)::k) s K
   |todo=>ab P m fid n ro hold todo s K
def Go.bs{m:Mo}{fid n:Nat}{ro:acf}(mu:acr)(hold:ace):∀(f:Nat){todo:acm}{s:St}{K:abK},jI hold todo=true->bs L m fid n ro mu hold f todo s K->Go P m fid n ro todo s K
 |0,_,_,_,g,h=>h g
 | f + 1,todo,s,K,g,h=>by
   unfold bQ.bs at h;split at h
   . exact .leave (.inl ⟨rfl,rfl⟩) h
   . exact .leave (.inr (.inl ⟨_,rfl,rfl⟩)) h
   . exact .skip (Go.bs mu hold f (by simpa[jI,kO]using g) h)
   . exact .label (Go.bs mu hold f (by simpa[jI,kO]using g) h)
   . exact .inBlock (Go.bs mu hold f (by simpa[jI,kO]using g) h)
   . exact .inScope (Go.bs mu hold f (by simpa[jI,kO]using g) h)
   . exact .seq (Go.bs mu hold f (by simpa[jI,kO,and_assoc]using g) h)
   . exact .block (Go.bs mu hold f (by simpa[jI,kO]using g) h)
   . exact .scope (Go.bs mu hold f (by simpa[jI,kO]using g) h)
   . split at h
     . next S A=>exact .exit A (Go.bs mu hold f (J8 A (by simp only[jI,ZY,zj]at g ⊢;exact g.2)) h)
     . next A=>exact .leave (.inr (.inr ⟨_,_,rfl,A,rfl⟩)) h
   . next c a b k=>
     obtain⟨B,u⟩:=h;split at u
     . next x C=>
       refine .cond C B ?_;cases x
       . exact Go.bs mu hold f (by simp only[jI,ZY,zj,kO]at g ⊢;simp_all) (u.2 rfl)
       . exact Go.bs mu hold f (by simp only[jI,ZY,zj,kO]at g ⊢;simp_all) (u.1 rfl)
     simp_all
   . exact .region (Go.bs mu hold f (by simpa[jI,kO]using g) h)
   . next id ops k=>
     split at h
     . next E p N=>
       have F:sf ops ⟨E,p⟩=true:=by simp only[jI,ZY,kO,N,zj]at g;exact g.1
       simp only[sf,zj]at F;obtain⟨env,σ,D,rc⟩:=s;refine Go.draw L.mixed F.1 λl B u O=>?_
       exact cV.mono (λenv σ h=>h (by simp only[jI,ZY,zj]at g ⊢;exact g.2)) _ _ _ (iM.im L mu h _ _ _ F.2 l B u O (λ_ _ _ h=>by cases h))
     . exact h g
   . exact .zv (Go.bs mu hold f (by simpa[jI,kO]using g) h)
   . next ops i is k=>
     split at h
     . next o G=>
       obtain⟨w,h⟩:=h;have q:jI hold (.inRegion ops is::k)=true:=by simpa[jI,kO]using g
       rcases zC h with⟨M,t⟩|⟨j,b,x,d,T,t,Q,hd,H,C,I,h⟩
       . split at t
         . next y=>
           refine .op G M w (λc e=>?_) ?_
           . unfold py sa at y;simp_all
           . exact(wU L y t).mono λa r J=>Go.bs mu hold f q J
         . split at t
           . next R=>
             have z:cV P m ops n (λa r=>∀env,K (.panic a) {s with env,σ:=r}) [i] s.env s.σ (λenv r=>Go P m fid n ro (.inRegion ops is::k) {s with env,σ:=r} K):=⟨o,G,w,.inl ⟨M,(Gl R t).mono λa r J=>J q⟩⟩
             exact Go.SY (λv env σ h=>h env) z
           . exact t g
       . exact .unwanted G t Q hd H C I (Go.bs mu hold f q h)
     . exact h g
   . exact h g
end

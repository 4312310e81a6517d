import Derived.Test.YtkcceaplmgdnfaaGreatDoorC2
set_option linter.all false
namespace Go.bQ
open Go.Conc
abbrev aby:=List (AV × Nat × List AV)
abbrev abI:=List (Int × AV)
abbrev abK:=Exit->St->Prop
abbrev abP:=Env->aa->Prop
abbrev abT:=eT->aa->Prop
abbrev abU:=AV->aa->Prop
abbrev acn:=Option AV
abbrev acu:=aa->Prop
abbrev acw:=List AV
abbrev acz:=List kr
def AV.W(a a':AV):Prop:=∀k v,V k v a->V k v a'
def AV.W.refl(a:AV):a.W a:=λ_ _ h=>h
abbrev AV.nil:AV:=.lit (.slice none 0 0)
def V.Wu{k:ah}(kk:Nat):V k (.slice none 0 0) (.sl kk [] .any):=.slnil none kk .any (.inl rfl)
def fQ(kk:Nat):AV.nil.W (.sl kk [] .any):=λk v h=>by cases h;exact .Wu kk
def ik(kk:Nat)(es:acw)(sp:cT):(AV.sl kk es sp).W (.sl kk es .any):=λk v h=>by
 cases h with
 |sl b off cap _ N E _ _ c d e f g i j l=>exact .sl b off cap kk N E es .any c d e f g i j trivial
 |slnil a=>exact .slnil a kk .any (.inl rfl)
def ly:Value->AV
 |.agg c=>.agg (c.toList.map .lit)
 |v=>.lit v
def V.ly(k:ah)(v:Value):V k v (ly v):=by
 cases v<;>first|exact .lit _|skip
 rename_i c;refine .agg _ _ (by simp) λi v a d b=>?_
 simp only[ZT]at b;rw[show c.toList[i]?=c[i]? from by simp,d]at b;simp at b;subst b;exact .lit v
def flatten_cons(a:AV)(es:acw):flatten (a::es)=a.cells++flatten es:=rfl
def flatten_append(es fs:acw):flatten (es++fs)=flatten es++flatten fs:=by simp[flatten]
def bt{kk:Nat}:∀{es:acw},(∀e∈es,e.cells.length=kk)->(flatten es).length=es.length*kk
 |[],_=>by simp[flatten]
 |a::es,h=>by rw[flatten_cons,Rp,bt (λe b=>h e (by simp[b])),h a (by simp),ZQ,Nat.succ_mul,Nat.add_comm]
def mr{kk:Nat}:∀{es:acw}(_:∀e∈es,e.cells.length=kk){i:Nat}{a:AV}(_:es[i]?=some a) (j:Nat) (_:j<kk),(flatten es)[i*kk+j]?=a.cells[j]?
 |[],_,i,a,b,_,_=>by simp at b
 |x::es,h,0,a,b,j,c=>by simp at b;subst b;rw[flatten_cons,Nat.zero_mul,aaz,ZS (by simp_all)]
 | x::es,h,i+1,a,b,j,c=>by
   rw[flatten_cons,ZK (by grind),h x (by simp)];have:(i+1)*kk+j-kk=i*kk+j:=by grind
   rw[this];exact mr (λe d=>h e (by simp[d])) (by simp_all) j c
section
variable{P:acD}(L:iZ P){k:ah}{O:aj}{Kp:abB}
def Rel.Hw{σ:aa}(h:Rel k O σ){r:Nat}(i:O r=none){k':ah}(g:k.Le k'){x y:Own}:Rel k' (((O.set r x).set r y).del r) σ:=⟨λb a e c=>by
 obtain⟨z,d,f⟩:=h.1 b a e c;have:b≠r:=λq=>by simp_all
 exact⟨z,by simp[aj.del,aj.set,this,d],f.mono g⟩,λb a e c=>by
 obtain⟨d,f⟩:=(h.mono g).2 b a e c;refine⟨?_,f⟩;by_cases q:b=r
 . simp[aj.del,q]
 . simp[aj.del,aj.set,q,d]⟩
def ns{K:Addr->abX}{E:TypeId}{c:abY}
 (l:∀r k' O',Gh k O r->(mq k' O' λd m=>k.Le d/\(∀j v,c[j]?=some v->d.cell r j=some v)/\d.sh r=some (E,c.size)/\(∀σ,Rel k O σ->Rel d m σ))->K ⟨r,0,none⟩ k' O'):dI P (newRow E c) k O K Kp:=by
 refine af (s:=newObj (.cells c E)) ⟨rfl,λr g=>ag (l r _ _ g ?_)⟩;obtain⟨f1,o,p⟩:=g;have a:k.Le (k.made r (.cells c E)):=.made p;have b:∀j,(k.made r (.cells c E)).cell r j=none:=o;refine⟨_,_,(nX (n:=c.size) (c:=c) (e:=E) (r:=r) (by simp[aj.set]) (by simp[ah.made,ah.eD])).trans (EC _ _ r (by simp[aj.set])),a.trans (.wA b),λj v i=>?_,by simp[ah.wA,ah.made,ah.eD],λσ h=>h.Hw f1 (a.trans (.wA b))⟩;have f:j<c.size:=(Array.getElem?_eq_some_iff.1 i).1;simp only[ah.wA,true_and,f,if_true];exact i
def jf{K:Addr->abX}{E:TypeId}{c:abY}{σ:aa}(h:Rel k O σ){l:acw}(d:c.size=l.length)(e:∀(i:Nat) v a,c[i]?=some v->l[i]?=some a->V k v a)(f:∀(i:Nat) v,c[i]?=some v->flat v=true)
 (g:∀r k' O',σ r=none->k.Le k'->Rel k' O' (σ.set r (.cells l))->K ⟨r,0,none⟩ k' O'):dI P (newRow E c) k O K Kp:=by
 refine af (s:=newObj (.cells c E)) ⟨rfl,λr b=>ag (g r _ _ (h.isNone b.1 b.2.2) (.made b.2.2) ?_)⟩;exact(h.mono (.made b.2.2)).set (.cells c E l d (λi v a j m=>(e i v a j m).mono (.made b.2.2)) f)
end
section
variable{P:acD}(L:iZ P){o:Oper}{env:Env}{σ:aa}{K:abU}{Kp:abU}
def Cj{t:Nat}{i:TI}(c:o.op=.alloc t)(d:L.tt t=some i)(e:(ly i.zero).cells.all AV.flat=true)(f:∀b,σ b=none->K (.ref b 0) (σ.set b (.cells (ly i.zero).cells))):aI P o env σ K Kp:=
 aI.val (s:=λ_=>Instr.alloc t true (.tuple #[])) (λg=>by simp[execOp,c]) λk O g q h=>by
  unfold Instr.alloc;refine af (cR L d ?_);obtain⟨j,l,m⟩:=(V.ly k i.zero).cells e;refine af (jf h j l m λr u v n p a=>ag ?_);exact .here ⟨p,_,_,.ref r 0,a,f r n⟩
def wC{t:Nat}{x:acE}(d:o.op=.box t x)(e:(an env x).cells.all AV.flat=true)(f:∀b,σ b=none->K (.ref b 0) (σ.set b (.cells (an env x).cells))):aI P o env σ K Kp:=
 aI.val (s:=λa=>Instr.box t (a x)) (λa=>by simp[execOp,d]) λk O a g h=>by
  unfold Instr.box;obtain⟨i,j,l⟩:=(g x (by simp[d,Op.operands])).cells e;refine af (jf h i j l λr p q m n c=>ag ?_);exact .here ⟨n,_,_,.ref r 0,c,f r m⟩
def JV{t:Nat}{x:acE}(e:o.op=.box t x)(h:(an env x).cells.all AV.flat=true)(i:K (.cp (an env x) 0) σ):aI P o env σ K Kp:=
 aI.val (s:=λc=>Instr.box t (c x)) (λc=>by simp[execOp,e]) λk O c l m=>by
  unfold Instr.box;obtain⟨A,n,p⟩:=(l x (by simp[e,Op.operands])).cells h;refine af (ns λr B C D q=>ag ?_);obtain⟨u,v,g,f,w,y,d⟩:=q;refine⟨u,v,g,f,_,σ,?_,d σ m,i⟩;refine V.cp r 0 0 _ _ _ (λj=>(c x).cells.getD j undef) y (by omega) (λj E=>?_) (λj a z=>?_)
  . have b:j<(c x).cells.size:=by omega
    rw[aaz,w j ((c x).cells[j]) (by simp[b])];have:=p j ((c x).cells[j]) (by simp[b])
    simp_all
  . have b:j<(c x).cells.size:=by grind
    have:=(n j ((c x).cells[j]) a (by simp[b]) z).mono f;simpa[Array.getD,b]using this
end
inductive JW(k:ah):Value->Nat->acw->cT->Prop
 |nil (a:Option Addr) (kk:Nat) (sp:cT):(sp=.any\/(sp=.exact/\a.isSome=true))->JW k (.slice a 0 0) kk [] sp
 | row (b off cap kk N:Nat) (E:TypeId) (es:acw) (sp:cT):es.length<=cap->k.sh b=some (E,N)->off+cap*kk<=N->(∀e∈es,e.cells.length=kk) ->
    (∀O,pq k O b off (flatten es))->sp.fits b off es.length kk cap->JW k (.slice (some ⟨b,off,none⟩) es.length cap) kk es sp
def V.Hy{k:ah}{v:Value}{kk:Nat}{es:acw}{sp:cT}(h:V k v (.sl kk es sp)):JW k v kk es sp:=by
 cases h with
 |sl b off cap _ N E _ _ c d e f g i j l=>exact .row b off cap kk N E es sp d e f g (λO=>.known i j) l
 |slnil a _ _ h=>exact .nil a kk sp h
def JW.len{k:ah}{v:Value}{kk:Nat}{es:acw}{sp:cT}(h:JW k v kk es sp):∃a c,v=.slice a es.length c:=by
 cases h
 . simp_all
 simp_all
def V.ofRow{k:ah}{b off cap kk N:Nat}{E:TypeId}{es:acw}{sp:cT}(c:es.length<=cap)(d:k.sh b=some (E,N))(f:off+cap*kk<=N)(g:∀e∈es,e.cells.length=kk)
 (h:∀(j:Nat) a,(flatten es)[j]?=some a->∃v,k.cell b (off+j)=some v/\V k v a/\bQ.flat v=true) (i:sp.fits b off es.length kk cap):V k (.slice (some ⟨b,off,none⟩) es.length cap) (.sl kk es sp):=by
 refine .sl b off cap kk N E es sp (λj=>(k.cell b (off+j)).getD undef) c d f g (λj l=>?_) (λj a m=>?_) i
 . obtain⟨v,n,_,o⟩:=h j (flatten es)[j] (by simp[l])
   simp_all
 grind
def V.kN{k:ah}{v:Value}{kk:Nat}{es:acw}{sp:cT}(h:V k v (.sl kk es sp)):(∃a,v=.slice a 0 0/\es=[]/\(sp=.any\/(sp=.exact/\a.isSome=true)))\/
 ∃b off cap N E,v=.slice (some ⟨b,off,none⟩) es.length cap/\es.length<=cap/\k.sh b=some (E,N)/\off+cap*kk<=N/\(∀e∈es,e.cells.length=kk)/\(∀(j:Nat) a,(flatten es)[j]?=some a->∃v,k.cell b (off+j)=some v/\V k v a/\bQ.flat v=true)/\sp.fits b off es.length kk cap:=by
 cases h with
 |sl b off cap _ N E _ _ c g i l m f n o=>exact .inr ⟨b,off,cap,N,E,rfl,g,i,l,m,λj a d=>⟨c j,(f j (List.getElem?_eq_some_iff.1 d).1).1,n j a d,(f j (List.getElem?_eq_some_iff.1 d).1).2⟩,o⟩
 |slnil a _ _ h=>simp_all
def V.JX{k:ah}{b off cap kk N:Nat}{es:acw}{sp:cT}(h:V k (.slice (some ⟨b,off,none⟩) N cap) (.sl kk es sp)):∀(j:Nat) a,(flatten es)[j]?=some a->∃v,k.cell b (off+j)=some v/\V k v a/\bQ.flat v=true:=by
 intro j a d;cases h with
 |sl _ _ _ _ N E _ _ c e f g i l m n=>grind
 |slnil=>simp[flatten]at d
section
variable{P:acD}(L:iZ P){o:Oper}{env:Env}{σ:aa}{K:abU}{Kp:abU}
def bN{i:TI}{d:TypeDesc}{e:Nat}(h:dF P i d=true)(a:i.kind=.slice e):d=.slice e:=by cases d<;>simp_all [dF]
def nY{i:TI}{d:TypeDesc}{n e:Nat}(h:dF P i d=true)(a:i.kind=.array n e):d=.array n e:=by cases d<;>simp_all [dF]
def AR{x:acE}{b:abW}{t e:Nat}{i:TI}{kk:Nat}{es:acw}{sp:cT}(j:o.op=.call ⟨.builtin .len,#[x],b⟩)(l:b[0]?=some t)(m:L.tt t=some i)(n:i.kind=.slice e)
 (f:an env x=.sl kk es sp\/(an env x=.nil/\es=[])) (p:K (.lit (.int .i64 es.length)) σ):aI P o env σ K Kp:=
 fun k O g q r=>by
  have h:=q x (by simp[j,Op.operands,Call.operands])
  have s:∃a c,g x=.slice a es.length c:=by
   rcases f with f|⟨f,rfl⟩
   . rw[f]at h;exact h.Hy.len
   . rw[f]at h
     generalize g x=v at h;cases h
     simp_all
  obtain⟨a,c,u⟩:=s;have:execOp g o=(do pure (Next.value (<-Builtin.len_ b o.type #[g x]))):=by simp[execOp,j,resolve,invoke,builtin]
  rw[this];refine af ?_;unfold Builtin.len_;simp only[l,aaQ,aaM];refine af (aF L m λd _ hd=>?_);rw[bN hd n,u];exact ag (ag ⟨_,.inl rfl,.here ⟨.refl k,_,σ,.lit _,r,p⟩⟩)
def zx{x:acE}{f:abW}{t e:Nat}{i:TI}{b off len cap:Nat}(j:o.op=.call ⟨.builtin .len,#[x],f⟩)(l:f[0]?=some t)(m:L.tt t=some i)(n:i.kind=.slice e)
 (p:an env x=.gW b off len cap) (q:K (.lit (.int .i64 len)) σ):aI P o env σ K Kp:=
 fun k O g r s=>by
  have h:=r x (by simp[j,Op.operands,Call.operands])
  have u:∃a c,g x=.slice a len c:=by
   rw[p]at h;generalize g x=v at h;cases h
   simp_all
  obtain⟨a,c,w⟩:=u;have:execOp g o=(do pure (Next.value (<-Builtin.len_ f o.type #[g x]))):=by simp[execOp,j,resolve,invoke,builtin]
  rw[this];refine af ?_;unfold Builtin.len_;simp only[l,aaQ,aaM];refine af (aF L m λd _ hd=>?_);rw[bN hd n,w];exact ag (ag ⟨_,.inl rfl,.here ⟨.refl k,_,σ,.lit _,s,q⟩⟩)
def dk{k:ah}{v:Value}{kd:IntKind}{n:Int}(h:V k v (.lit (.int kd n))):v=.int kd n:=by cases h;rfl
def wD{t e:Nat}{x i:acE}{it f:TI}{es:acw}{sp:cT}{n:Int}{kd:IntKind}{a:AV}(m:o.op=.indexAddr t x i)(z:L.tt t=some it)(A:it.kind=.slice e)(D:L.tt e=some f)
 (F:an env x=.sl f.size es sp) (hi:an env i=.lit (.int kd n)) (G:0<=n) (g:es[n.toNat]?=some a) (H:K (.cp a 0) σ):aI P o env σ K Kp:=
 aI.val (s:=λh=>Instr.indexAt t (h x) (h i)) (λh=>by simp[execOp,m]) λk O h B I=>by
  have l:=B x (by simp[m,Op.operands]);have C:=B i (by simp[m,Op.operands]);rw[F]at l;rw[hi]at C;rw[dk C];have p:n.toNat<es.length:=(List.getElem?_eq_some_iff.1 g).1;generalize h x=v at l;have c:=l;cases l.Hy with
  |nil=>simp at p
  | row b off cap _ N E _ _ X J Y q Z g6=>
    unfold Instr.indexAt;refine af (ag ?_);refine af (aF L z λd _ hd=>?_);rw[bN hd A];dsimp only;refine af (ag ?_);dsimp only;refine af (aF L z λd2 _ r=>?_);rw[bN r A];dsimp only;rw[if_pos ⟨G,by omega⟩];refine af (bI L D (ag (.here ⟨.refl k,_,σ,?_,I,H⟩)));rw[iz];have M:a.cells.length=f.size:=q a (List.mem_iff_getElem?.2 ⟨_,g⟩)
    have w:off+n.toNat*f.size+a.cells.length<=N:=by
     have hn:n.toNat<es.length:=(List.getElem?_eq_some_iff.1 g).1;have:=ZZ f.size (show n.toNat+1<=cap by omega)
     grind
    refine V.cp b (off+n.toNat*f.size) 0 N E a (λj=>(k.cell b (off+n.toNat*f.size+j)).getD undef) J w (λj Q=>?_) (λj y R=>?_)
    . have S:=mr q g j (by omega)
      obtain⟨u,T,_,U⟩:=c.JX (n.toNat*f.size+j) a.cells[j] (by simp_all)
      grind
    . have Q:j<a.cells.length:=(List.getElem?_eq_some_iff.1 R).1
      have S:=mr q g j (by omega);obtain⟨u,T,W,_⟩:=c.JX (n.toNat*f.size+j) y (by simp_all)
      grind
end
section
variable{P:acD}(L:iZ P){o:Oper}{env:Env}{σ:aa}{K:abU}{Kp:abU}
def uN{k:ah}{O:aj}{Kp:abB}{t:Nat}{info:TypeInfo}{K:Nat->abX}(h:P.info? t=some info)(a:K info.size k O):dI P (sizeOf t) k O K Kp:=by unfold sizeOf typeInfo;refine af (af (bo ?_));rw[h];exact ag a
def uO{i:TI}{d:TypeDesc}(h:dF P i d=true)(b:i.kind=.struct){j:Nat}{x:Nat × Nat × Nat}(c:i.jO[j]?=some x):∃fs f info,d=.struct fs/\fs[j]?=some f/\f.offset=x.1/\P.info? f.type=some info/\info.size=x.2.1/\f.type=x.2.2:=by
 cases d with
 | struct fs=>
   simp only[dF,zj,beq_iff_eq]at h;have a:=congrArg (λl=>l[j]?) h.2;simp only[ZT,c,ZR]at a;obtain⟨f,g,e⟩:=Option.map_eq_some_iff.1 a;simp only[zG]at e
   simp_all
 |_=>simp[dF,b]at h
def rX(a:AV)(n:Nat):acn:=
 match a with
 |.cp v off=>some (.cp v (off+n))
 |.kp b l hole off=>some (.kp b l hole (off+n))
 |.ref b off=>some (.ref b (off+n))
 |_=>none
def V.rX{k:ah}{v:Value}{a a':AV}{n:Nat}(h:V k v a)(d:rX a n=some a'):∃b off,v=.pointer (some ⟨b,off,none⟩)/\V k (.pointer (some ⟨b,off+n,none⟩)) a':=by
 cases a<;>simp only[bQ.rX,reduceCtorEq,kn]at d
 . subst d
   cases h with
   |cp b base _ N E _ c e f g i=>exact⟨b,_,rfl,by rw[Nat.add_assoc];exact .cp b base _ N E _ c e f g i⟩
 . subst d
   cases h with
   |kp _ _ N E _ _ c e f g i=>exact⟨_,_,rfl,.kp _ _ N E _ _ c e f g i⟩
 . subst d
   cases h;exact⟨_,_,rfl,.ref _ _⟩
def rY{s j:Nat}{x:acE}{i:TI}{f:Nat × Nat × Nat}{a':AV}(h:o.op=.fieldAddr s x j)(l:L.tt s=some i)(m:i.kind=.struct)(n:i.jO[j]?=some f)(p:f.2.1≠0)
 (q:rX (an env x) f.1=some a') (r:K a' σ):aI P o env σ K Kp:=
 aI.val (s:=λa=>Instr.fieldAt s (a x) j) (λa=>by simp[execOp,h]) λk O a t u=>by
  obtain⟨b,off,e,c⟩:=(t x (by simp[h,Op.operands])).rX q;unfold Instr.fieldAt;refine af (aF L l λd _ hd=>?_);obtain⟨fs,g,info,rfl,v,w,y,z,_⟩:=uO hd m n;dsimp only;rw[v,e];dsimp only;refine af (ag ?_);unfold fieldPlace;refine af (af (uN y ?_));rw[z,if_neg p];refine ag (ag (.here ⟨.refl k,_,σ,?_,u,r⟩));rw[iz,w];exact c
def uP{t n e:Nat}{x a:acE}{it i:TI}{z:Int}{kd:IntKind}{a':AV}(f:o.op=.indexAddr t x a)(j:L.tt t=some it)(l:it.kind=.array n e)(q:L.tt e=some i)
 (hi:an env a=.lit (.int kd z)) (r:0<=z/\z<n) (u:rX (an env x) (z.toNat*i.size)=some a') (v:K a' σ):aI P o env σ K Kp:=
 aI.val (s:=λc=>Instr.indexAt t (c x) (c a)) (λc=>by simp[execOp,f]) λk O c m w=>by
  obtain⟨b,off,y,g⟩:=(m x (by simp[f,Op.operands])).rX u;have p:=m a (by simp[f,Op.operands]);rw[hi]at p;rw[dk p,y];unfold Instr.indexAt;refine af (ag ?_);refine af (aF L j λd _ hd=>?_);rw[nY hd l];dsimp only;refine af (ag ?_);refine af (ag ?_);dsimp only;refine af (aF L j λA _ h=>?_);rw[nY h l];dsimp only;rw[if_pos r];refine af (bI L q (ag (.here ⟨.refl k,_,σ,?_,w,v⟩)));rw[iz];exact g
def uQ{t e:Nat}{x c:acE}{it i:TI}{b off len cap:Nat}{z:Int}{kd:IntKind}(f:o.op=.indexAddr t x c)(j:L.tt t=some it)(l:it.kind=.slice e)(p:L.tt e=some i)
 (q:an env x=.gW b off len cap) (hi:an env c=.lit (.int kd z)) (r:0<=z/\z<len) (u:K (.ref b (off+z.toNat*i.size)) σ):aI P o env σ K Kp:=
 aI.val (s:=λa=>Instr.indexAt t (a x) (a c)) (λa=>by simp[execOp,f]) λk O a m w=>by
  have g:=m x (by simp[f,Op.operands]);have n:=m c (by simp[f,Op.operands]);rw[q]at g;rw[hi]at n;rw[dk n];generalize a x=v at g;cases g;unfold Instr.indexAt;refine af (ag ?_);refine af (aF L j λd _ hd=>?_);rw[bN hd l];dsimp only;refine af (ag ?_);dsimp only;refine af (aF L j λy _ h=>?_);rw[bN h l];dsimp only;rw[if_pos r];refine af (bI L p (ag (.here ⟨.refl k,_,σ,?_,w,u⟩)));rw[iz];exact .ref _ _
def V.part{k:ah}{O:aj}{Kp:abB}{t off:Nat}{i:TI}{c:abY}{l:acw}{a:AV}{K:abB}(n:c.size=l.length)(g:∀(j:Nat) v a,c[j]?=some v->l[j]?=some a->V k v a)
 (e:L.tt t=some i) (b:cN l off i.size i.agg=some a) (f:∀v,V k v a->K v k O):dI P (part t c off) k O K Kp:=by
 unfold Go.part;refine af (qf L e ?_);unfold cN at b;cases d:i.agg
 . simp only[d,zR,if_false]at b ⊢
   have h:off<l.length:=(List.getElem?_eq_some_iff.1 b).1;rw[show c[off]?=some c[off]from by simp_all];exact f _ (g off _ a (by simp_all) b)
 . simp only[d,if_true]at b ⊢
   split at b
   . next m=>
     simp only[kn]at b;subst b;refine af (bI L e (ag (f _ (.agg _ _ ?_ λj v a o p=>?_))))
     . grind
     grind
   . cases b
def Ck{s j:Nat}{x:acE}{i h:TI}{f:Nat × Nat × Nat}{l:acw}{a:AV}(p:o.op=.field s x j)(q:L.tt s=some i)(r:i.kind=.struct)(t:i.jO[j]?=some f)(m:L.tt f.2.2=some h)
 (u:an env x=.agg l) (w:cN l f.1 h.size h.agg=some a) (y:K a σ):aI P o env σ K Kp:=
 aI.val (s:=λe=>Instr.field s (e x) j) (λe=>by simp[execOp,p]) λk O e n z=>by
  have b:=n x (by simp[p,Op.operands]);rw[u]at b;generalize e x=v at b;cases b with
  | agg c l A B=>
    unfold Instr.field;refine af (aF L q λd _ hd=>?_);obtain⟨fs,g,info,rfl,b,C,E,F,D⟩:=uO hd r t;dsimp only;rw[b];dsimp only;refine af (ag ?_);rw[C,D];exact V.part L A B m w λv n=>.here ⟨.refl k,a,σ,n,z,y⟩
def Cl{t n e:Nat}{x f:acE}{it g:TI}{z:Int}{kd:IntKind}{l:acw}{a:AV}(i:o.op=.index t x f)(q:L.tt t=some it)(r:it.kind=.array n e)(m:L.tt e=some g)
 (u:an env x=.agg l) (hi:an env f=.lit (.int kd z)) (w:0<=z/\z<n) (y:cN l (z.toNat*g.size) g.size g.agg=some a) (A:K a σ):aI P o env σ K Kp:=
 aI.val (s:=λb=>Instr.index t (b x) (b f)) (λb=>by simp[execOp,i]) λk O b h B=>by
  have j:=h x (by simp[i,Op.operands]);have p:=h f (by simp[i,Op.operands]);rw[u]at j;rw[hi]at p;rw[dk p];generalize b x=v at j;cases j with
  | agg c l C D=>
    unfold Instr.index;refine af (ag ?_);refine af (aF L q λd _ hd=>?_);rw[nY hd r];dsimp only;rw[if_pos w];refine af (bI L m ?_);exact V.part L C D m y λv h=>.here ⟨.refl k,a,σ,h,B,A⟩
def pf(op:BinOp)(k:IntKind)(x y:Int):abV:=
 match op with
 |.add=>some (.int k (k.wrap (x+y)))
 |.sub=>some (.int k (k.wrap (x-y)))
 |.mul=>some (.int k (k.wrap (x*y)))
 |.quo=>if y=0 then none else some (.int k (k.wrap (x.tdiv y)))
 |.rem=>if y=0 then none else some (.int k (x.tmod y))
 |.and=>some (.int k (k.wrap ((BitVec.ofInt k.bits x &&& BitVec.ofInt k.bits y).toNat)))
 |.or=>some (.int k (k.wrap ((BitVec.ofInt k.bits x|||BitVec.ofInt k.bits y).toNat)))
 |.xor=>some (.int k (k.wrap ((BitVec.ofInt k.bits x ^^^ BitVec.ofInt k.bits y).toNat)))
 |.eql=>some (.bool (x==y))
 |.neq=>some (.bool (x !=y))
 |.lss=>some (.bool (x<y))
 |.leq=>some (.bool (x<=y))
 |.gtr=>some (.bool (x>y))
 |.geq=>some (.bool (x>=y))
 |_=>none
def cZ{op:BinOp}{t l:Nat}{x y:acE}{kd:IntKind}{a b:Int}{v:Value}(g:o.op=.binOp op t x y l)(m:an env x=.lit (.int kd a))(n:an env y=.lit (.int kd b))(d:pf op kd a b=some v)(p:K (.lit v) σ):
 aI P o env σ K Kp:=λk O c f q=>by
 have i:=f x (by simp[g,Op.operands]);have j:=f y (by simp[g,Op.operands]);rw[m]at i;rw[n]at j;have r:=dk i;have s:=dk j
 have key:(do eqGuard op t x y (c x) (c y);binOp op t (c x) (c y))=(pure v:Sem Value):=by
  rw[r,s]
  cases op<;>simp only[pf,reduceCtorEq,kn]at d<;>
   first
    |(subst d;simp[eqGuard,binOp,Op.intArith,Op.intBits,Op.intCmp];done)
    | (split at d
       . cases d
       . next h=>simp only[kn]at d;subst d;simp[eqGuard,binOp,Op.intDiv,h])
 have:execOp c o=pure (.value v):=by
  have e:execOp c o=(do let v <-(do eqGuard op t x y (c x) (c y);binOp op t (c x) (c y));pure (.value v)):=by simp[execOp,g]
  simp_all
 rw[this];exact ag ⟨v,.inl rfl,.here ⟨.refl k,_,σ,.lit v,q,p⟩⟩
def wrap_i64{n:Int}(h:-9223372036854775808<=n/\n<=9223372036854775807):IntKind.i64.wrap n=n:=by simp only[IntKind.wrap,IntKind.bits,IntKind.signed];simp;omega
def nu{op:BinOp}{t e:Nat}{x y:acE}{a b r:Int}(f:o.op=.binOp op t x y e)(g:an env x=.lit (.int .i64 a))(h:an env y=.lit (.int .i64 b))
 (d:(op=.add/\r=a+b)\/(op=.sub/\r=a-b)\/(op=.mul/\r=a*b)) (c:-9223372036854775808<=r/\r<=9223372036854775807) (i:K (.lit (.int .i64 r)) σ):aI P o env σ K Kp:=by
 have j:=wrap_i64 c;rcases d with⟨rfl,rfl⟩|⟨rfl,rfl⟩|⟨rfl,rfl⟩<;>exact cZ f g h (by simp only[pf,j]) i
def rZ{op:BinOp}{t j:Nat}{x y:acE}{kd l:IntKind}{a b:Int}{v:Value}(f:o.op=.binOp op t x y j)(m:an env x=.lit (.int kd a))(n:an env y=.lit (.int l b))(hb:0<=b)
 (g:(op=.shl/\v=.int kd (kd.wrap (a*2 ^ (min b.toNat kd.bits))))\/(op=.shr/\v=.int kd (a.fdiv (2 ^ (min b.toNat kd.bits))))) (p:K (.lit v) σ):
 aI P o env σ K Kp:=λk O c d q=>by
 have h:=d x (by simp[f,Op.operands]);have i:=d y (by simp[f,Op.operands]);rw[m]at h;rw[n]at i;have r:=dk h;have s:=dk i;have u:¬b<0:=by omega
 have key:(do eqGuard op t x y (c x) (c y);binOp op t (c x) (c y))=(pure v:Sem Value):=by
  rw[r,s];rcases g with⟨rfl,rfl⟩|⟨rfl,rfl⟩<;>simp[eqGuard,binOp,Op.shift,u]
 have:execOp c o=pure (.value v):=by
  have e:execOp c o=(do let v <-(do eqGuard op t x y (c x) (c y);binOp op t (c x) (c y));pure (.value v)):=by simp[execOp,f]
  simp_all
 rw[this];exact ag ⟨v,.inl rfl,.here ⟨.refl k,_,σ,.lit v,q,p⟩⟩
def rA{k:ah}{v:Value}{b:Bool}(h:V k v (.lit (.bool b))):v=.bool b:=by cases h;rfl
def JY{t:Nat}{x:acE}{b:Bool}(c:o.op=.unOp .not t x)(e:an env x=.lit (.bool b))(f:K (.lit (.bool !b)) σ):aI P o env σ K Kp:=λk O g a h=>by
 have d:=a x (by simp[c,Op.operands]);rw[e]at d;have:execOp g o=pure (.value (.bool !b)):=by simp[execOp,c,rA d,Op.unary]
 rw[this];exact ag ⟨_,.inl rfl,.here ⟨.refl k,_,σ,.lit _,h,f⟩⟩
def wE{s t:Nat}{x:acE}{is it:TI}{kd f:IntKind}{b:IntKind}{a:Int}(g:o.op=.convert s t x)(j:L.tt s=some is)(l:L.tt t=some it)(m:is.kind=.int f)(n:it.kind=.int kd)(p:an env x=.lit (.int b a))(q:K (.lit (.int kd (kd.wrap a))) σ):aI P o env σ K Kp:=
 aI.val (s:=λc=>convert s t (c x)) (λc=>by simp[execOp,g]) λk O c e r=>by
  have h:=e x (by simp[g,Op.operands])
  rw[p]at h;rw[dk h];unfold convert;refine af (aF L j λd _ hd=>af (aF L l λi _ u=>?_))
  have v:i=.int kd:=by cases i<;>simp_all [dF]
  have w:d=.int f:=by cases d<;>simp_all [dF]
  subst w v;exact ag (.here ⟨.refl k,_,σ,.lit _,r,q⟩)
def qg{b:Builtin}{c:abW}{x y:acE}{kd:IntKind}{p q:Int}(d:o.op=.call ⟨.builtin b,#[x,y],c⟩)(g:an env x=.lit (.int kd p))(h:an env y=.lit (.int kd q))
 {r:Int}(hb:(b=.min/\r=if q<p then q else p)\/(b=.max/\r=if q>p then q else p)) (i:K (.lit (.int kd r)) σ):aI P o env σ K Kp:=λk O j a l=>by
 have e:=a x (by simp[d,Op.operands,Call.operands])
 have f:=a y (by simp[d,Op.operands,Call.operands])
 rw[g]at e;rw[h]at f;have m:=dk e;have n:=dk f
 have:execOp j o=pure (.value (.int kd r)):=by
  rcases hb with⟨rfl,rfl⟩|⟨rfl,rfl⟩<;>
  simp[execOp,d,resolve,invoke,builtin,m,n,Builtin.min_,Builtin.max_,Builtin.min2,Builtin.max2]
 rw[this];exact ag ⟨_,.inl rfl,.here ⟨.refl k,_,σ,.lit _,l,i⟩⟩
def nv{t:Nat}{x:acE}{i:TI}(l:o.op=.makeInterface t x)(m:L.tt t=some i)(n:i.kind≠.iface)(p:K (.lZ t (an env x)) σ):aI P o env σ K Kp:=
 aI.val (s:=λf=>Instr.makeInterface t (f x)) (λf=>by simp[execOp,l]) λk O f g q=>by
  unfold Instr.makeInterface;refine af (aF L m λd _ hd=>?_)
  have:∀ms,d≠.interface ms:=λms e=>by subst e;simp[dF]at hd;exact n hd
  have fin:dI P (pure (Value.iface t (f x)):Sem Value) k O (λv c h=>mq c h λj r=>k.Le j/\∃a b,V j v a/\Rel j r b/\K a b) (λv c h=>k.Le c/\∃a b,V c v a/\Rel c h b/\Kp a b):=ag (.here ⟨.refl k,_,σ,.lZ _ _ _ (g x (by simp[l,Op.operands])),q,p⟩)
  simp_all
def Vs.ofArray{k:ah}{ρ:abN}{env:Env}{xs:abQ}(h:∀x∈xs,V k (ρ x) (an env x)):(xs.map ρ).size=(xs.toList.map (an env)).length/\∀(i:Nat) v a,(xs.map ρ)[i]?=some v->(xs.toList.map (an env))[i]?=some a->V k v a:=by
 refine⟨by simp,λi v a b c=>?_⟩
 grind
def uR{fn:Fn}{fs cs:abQ}(b:o.op=.makeFunc fn fs cs)(d:K (.fn fn (fs.toList.map (an env)) (cs.toList.map (an env))) σ):aI P o env σ K Kp:=λk O ρ a e=>by
 have:execOp ρ o=pure (.value (.func fn (fs.map ρ) (cs.map ρ))):=by simp[execOp,b,Instr.makeFunc]
 rw[this];obtain⟨f,g⟩:=Vs.ofArray (k:=k) (ρ:=ρ) (env:=env) (xs:=fs) λx c=>a x (by simp[b,Op.operands,c])
 obtain⟨h,i⟩:=Vs.ofArray (k:=k) (ρ:=ρ) (env:=env) (xs:=cs) λx c=>a x (by simp[b,Op.operands,c])
 exact ag ⟨_,.inl rfl,.here ⟨.refl k,_,σ,.fn _ _ _ _ _ f g h i,e,d⟩⟩
def wF{x:acE}{j:Nat}{l:acw}{a:AV}(e:o.op=.extract x j)(h:an env x=.cB l)(i:l[j]?=some a)(m:K a σ):aI P o env σ K Kp:=λk O f b n=>by
 have d:=b x (by simp[e,Op.operands]);rw[h]at d;generalize p:f x=v at d;cases d with
 | cB c l r q=>
   have g:j<c.size:=by grind
   have:execOp f o=pure (.value c[j]):=by simp[execOp,e,Instr.extract,p,g]
   rw[this];exact ag ⟨_,.inl rfl,.here ⟨.refl k,_,σ,q j _ a (by simp[g]) i,n,m⟩⟩
def qR{x:acE}{z t:Nat}{i:TI}{d:Nat}{y:AV}(A:o.op=.typeAssert x z t true)(B:L.tt t=some i)(E:i.kind≠.iface)(F:an env x=.lZ d y)
 (n:K (if d=t then .cB [y,.lit (.bool true)]else .cB [ly i.zero,.lit (.bool false)]) σ):aI P o env σ K Kp:=
 aI.val (s:=λm=>Instr.typeAssert (m x) z t true) (λm=>by simp[execOp,A]) λk O m p C=>by
  have g:=p x (by simp[A,Op.operands]);rw[F]at g;generalize m x=v at g;cases g with
  | lZ _ v _ G=>
    unfold Instr.typeAssert;refine af (aF L B λdd _ hd=>?_);have H:∀ms,dd≠.interface ms:=λms e=>by subst e;simp[dF]at hd;exact E hd
    have pair:∀{u:Value}{b:Bool}{a:AV},V k u a->V k (.tuple #[u,.bool b]) (.cB [a,.lit (.bool b)]):=λ{u b a} h=>.cB _ _ rfl λj w c g D=>by
     match j with
     |0=>simp_all
     |1=>simp at g D;subst g;subst D;exact .lit _
     |j+2=>simp at g
    have fin:dI P (if d=t then(pure (.tuple #[v,.bool true]):Sem Value)else(do pure (.tuple #[<-zeroValue t,.bool false]))) k O (λv l q=>mq l q λr I=>k.Le r/\∃a f,V r v a/\Rel r I f/\K a f) (λv l q=>k.Le l/\∃a f,V l v a/\Rel l q f/\Kp a f):=by
     split at n
     . next e=>rw[if_pos e];exact ag (.here ⟨.refl k,_,σ,pair G,C,n⟩)
     . next e=>rw[if_neg e];exact af (cR L B (ag (.here ⟨.refl k,_,σ,pair (.ly k _),C,n⟩)))
    simp_all
def fC{x:acE}(g:o.op=.nilCheck x)(h:(∃v off,an env x=.cp v off)\/(∃b off,an env x=.ref b off)\/(∃f l r,an env x=.fn (.func f) l r)\/∃b l hole off,an env x=.kp b l hole off)(i:K (an env x) σ):aI P o env σ K Kp:=λk O c d j=>by
 have a:=d x (by simp[g,Op.operands])
 have:execOp c o=pure (.value (c x)):=by rcases h with⟨v,off,e⟩|⟨b,off,e⟩|⟨f,l,r,e⟩|⟨b,l,hole,off,e⟩<;>rw[e]at a<;>generalize m:c x=w at a<;>cases a<;>simp[execOp,g,m]
 rw[this];exact ag ⟨_,.inl rfl,.here ⟨.refl k,_,σ,a,j,i⟩⟩
def Cm{x:acE}{t:Nat}{y:AV}(c:o.op=.panic x)(e:an env x=.lZ t y)(f:Kp (.lZ t y) σ):aI P o env σ K Kp:=λk O d a g=>by
 have b:=a x (by simp[c,Op.operands])
 rw[e]at b;generalize h:d x=w at b;cases b with
 | lZ _ v _ i=>
   have:execOp d o=Sem.halt (.panic (.iface t v)):=by simp[execOp,c,h,Instr.panic,goPanic];rfl
   rw[this];exact⟨.refl k,_,σ,.lZ _ _ _ i,g,f⟩
def Cn{op:BinOp}{t F e:Nat}{x y:acE}{i:TI}{kk:Nat}{es:acw}{sp:cT}{isNil:Bool}(r:o.op=.binOp op t x y F)(G:L.tt t=some i)(H:i.kind=.slice e)(I:an env y=.nil)
 (J:(an env x=.nil/\isNil=true)\/(an env x=.sl kk es sp/\es≠[]/\isNil=false)\/(an env x=.sl kk es sp/\sp≠.any/\isNil=false)){b:Bool}(l:(op=.eql/\b=isNil)\/(op=.neq/\b=!isNil)) (M:K (.lit (.bool b)) σ):aI P o env σ K Kp:=
 aI.val (s:=λf=>do eqGuard op t x y (f x) (f y);binOp op t (f x) (f y)) (λf=>by simp[execOp,r]) λk O f m N=>by
  have j:=m x (by simp[r,Op.operands])
  have u:=m y (by simp[r,Op.operands])
  rw[I]at u;have Q:f y=.slice none 0 0:=by generalize f y=w at u;cases u;rfl
  have z:∃a n c,f x=.slice a n c/\a.isNone=isNil:=by
   rcases J with⟨e,rfl⟩|⟨e,A,rfl⟩|⟨e,A,rfl⟩<;>rw[e]at j
   . generalize f x=w at j;cases j;simp_all
   . generalize f x=w at j
     cases j.Hy with
     |nil=>simp_all
     |row=>simp_all
   . generalize f x=w at j
     cases j.Hy with
     |nil a _ _ h=>simp_all
     |row=>simp_all
  obtain⟨a,n,c,z,E⟩:=z;rw[z,Q];have S:eqGuard op t x y (.slice a n c) (.slice none 0 0)=pure ():=by rcases l with⟨rfl,_⟩|⟨rfl,_⟩<;>simp[eqGuard]
  rw[S];refine af (ag ?_)
  have fin:∀{s:Sem Value},s=(do pure (.bool b))->dI P s k O (λv p B=>mq p B λC T=>k.Le C/\∃a g,V C v a/\Rel C T g/\K a g) (λv p B=>k.Le p/\∃a g,V p v a/\Rel p B g/\Kp a g):=λe=>by rw[e];exact ag (.here ⟨.refl k,_,σ,.lit _,N,M⟩)
  have q:∀(R:abD) (D:abB),R isNil k O->dI P (Op.equal t (.slice a n c) (.slice none 0 0)) k O R D:=λR D U=>by
   show dI P (Op.equalIn (9999+1) t (.slice a n c) (.slice none 0 0)) k O R D;rw[Op.equalIn];refine af (aF L G λd _ hd=>?_)
   rw[bN hd H];cases a<;>simp at E<;>subst E<;>exact ag U
  rcases l with⟨rfl,rfl⟩|⟨rfl,rfl⟩
  . exact af (s:=Op.equal t (.slice a n c) (.slice none 0 0)) (q _ _ (fin rfl))
  . exact af (s:=Op.equal t (.slice a n c) (.slice none 0 0)) (q _ _ (fin rfl))
end
def EE(a:AV)(kk:Nat)(es:acw):Prop:=(a=.nil/\es=[])\/∃sp,a=.sl kk es sp
def Tok(σ0 σ:aa)(a:AV)(kk:Nat)(es:acw):Prop:=σ0.Le σ/\((a=.nil/\es=[])\/a=.sl kk es .exact\/∃b e,σ0 b=none/\a=.sl kk es (.tok b e)/\σ b=some (.tail e))
def Tok.Qz{σ0 σ:aa}{a:AV}{kk:Nat}{es:acw}(h:Tok σ0 σ a kk es):EE a kk es:=by
 rcases h.2 with h|h|⟨b,e,_,h,_⟩
 . exact .inl h
 . exact .inr ⟨_,h⟩
 . exact .inr ⟨_,h⟩
def EE.W{a:AV}{kk:Nat}{es:acw}(h:EE a kk es):a.W (.sl kk es .any):=by
 rcases h with⟨rfl,rfl⟩|⟨sp,rfl⟩
 . exact fQ kk
 . exact ik kk es sp
def Tok.W{σ0 σ:aa}{a:AV}{kk:Nat}{es:acw}(h:Tok σ0 σ a kk es):a.W (.sl kk es .any):=h.Qz.W
def Tok.nil(σ:aa)(kk:Nat):Tok σ σ .nil kk []:=⟨λ_ _ h=>h,.inl ⟨rfl,rfl⟩⟩
def Tok.exact(σ:aa)(kk:Nat)(es:acw):Tok σ σ (.sl kk es .exact) kk es:=⟨λ_ _ h=>h,.inr (.inl rfl)⟩
section
variable{P:acD}(L:iZ P){k:ah}{O:aj}{Kp:abB}
def yP{K:abE}{b off N:Nat}{E:TypeId}:∀(vs:acg) (i:Nat) (k:ah) (O:aj),O b=some (.tail (off+i))->k.sh b=some (E,N)->off+i+vs.length<=N->(∀v∈vs,flat v=true) ->
 (∀k' O',k.Le k'->(∀(j:Nat) v,vs[j]?=some v->k'.cell b (off+i+j)=some v)->O'=O.set b (.tail (off+i+vs.length))->K () k' O')->dI P (storeCells ⟨b,off,none⟩ vs i) k O K Kp:=by
 intro vs;induction vs with
 | nil=>
   intro i k O e f hlen g h;refine ag (h k O (.refl k) (λj v d=>by simp at d) ?_);funext x;by_cases a:x=b
   . subst a;simp[aj.set,e]
   . simp[aj.set,a]
 | cons v vs l=>
   intro i k O e f hlen g h;simp only[ZQ]at hlen;unfold storeCells;rw[iz];refine af (s:=store ⟨b,off+i,none⟩ v) ⟨rfl,g v (by simp),rfl,.inr (.inl ⟨E,N,e,f,by grind,λm=>?_⟩)⟩;refine l (i+1) _ _ (by simp[aj.set];omega) f (by omega) (λu n=>g u (by simp[n])) λk' O' c p o=>?_
   refine h k' O' ((ah.Le.put m).trans c) (λj u d=>?_) ?_
   . cases j with
     |zero=>simp at d;subst d;exact c.cell _ _ _ (by simp[ah.put])
     |succ j=>grind
   . rw[o];funext x
     by_cases a:x=b
     . subst a;simp[aj.set];omega
     . simp[aj.set,a]
def nextslicecap_le{iA c:Nat}(h:c<iA):Builtin.nextslicecap iA c<=4*iA+2000:=by
 have g:∀(r c b:Nat),c<=b->Builtin.growBy iA r c<=max b ((iA+(iA+768) / 4)):=by
  intro r;induction r with
  |zero=>intro c b hb;simp only[Builtin.growBy];omega
  | succ r a=>
    intro c b hb;simp only[Builtin.growBy];split
    . omega
    grind
 unfold Builtin.nextslicecap;split
 . omega
 . split
   . omega
   . refine KD (g 4 c iA (by omega)) (by omega)
def qh{K:abY->abX}{v:Value}{a:AV}{kk:Nat}{es:acw}{n:Nat}(g:V k v a)(i:EE a kk es)(l:n<=es.length)
 (h:∀c:abY,c.size=n*kk->(∀(j:Nat) u x,c[j]?=some u->(flatten es)[j]?=some x->V k u x)->(∀(j:Nat) u,c[j]?=some u->flat u=true)->K c k O):dI P (Builtin.firstCells kk n v) k O K Kp:=by
 rcases i with⟨rfl,rfl⟩|⟨sp,rfl⟩
 . cases g
   have:n=0:=by simp_all
   subst this;exact ag (h #[] (by simp) (λj u x d=>by simp at d) (λj u d=>by simp at d))
 . cases g.Hy with
   | nil a=>
     have:n=0:=by simp_all
     subst this;have e:Builtin.firstCells kk 0 (.slice a 0 0)=pure #[]:=by cases a<;>simp[Builtin.firstCells,loadCells,loadCellsFrom]
     rw[e];exact ag (h #[] (by simp) (λj u x d=>by simp at d) (λj u d=>by simp at d))
   | row b off cap _ N E _ _ t w y m o z=>
     unfold Builtin.firstCells loadCells;have f:=bt m;have p:n*kk<=(flatten es).length:=by rw[f];exact ZZ kk l
     rw[show(⟨b,off,none⟩:Addr)=⟨b,off+0,none⟩by rfl]
     refine je (o O) (n*kk) 0 #[] (by omega) λvs q r s=>?_
     grind
def JZ{K:Nat->abX}{v:Value}{a:AV}{kk:Nat}{es:acw}(b:V k v a)(e:EE a kk es)(d:K es.length k O):dI P (Builtin.lenOf v) k O K Kp:=by
 rcases e with⟨rfl,rfl⟩|⟨sp,rfl⟩
 . cases b;exact ag d
 . obtain⟨x,c,rfl⟩:=b.Hy.len;exact ag d
end
def vw{P:acD}{k:ah}{O:aj}{Kp:abB}{K:Addr->abX}{E:TypeId}{c:abY}{n:Nat}(t:n<=c.size)
 (i:∀r k' O',Gh k O r->(mq k' O' λf l=>k.Le f/\(∀j v,j<n->c[j]?=some v->f.cell r j=some v)/\f.sh r=some (E,c.size)/\(∀σ,Rel k O σ->Rel f l (σ.set r (.tail n))))->K ⟨r,0,none⟩ k' O'):dI P (newRow E c) k O K Kp:=by
 refine af (s:=newObj (.cells c E)) ⟨rfl,λr g=>ag (i r _ _ g ?_)⟩
 obtain⟨f1,m,o⟩:=g;have a:k.Le (k.made r (.cells c E)):=.made o;have d:∀j,(k.made r (.cells c E)).cell r j=none:=m;refine⟨_,_,nX (n:=n) (c:=c) (e:=E) (r:=r) (by simp[aj.set]) (by simp[ah.made,ah.eD]),a.trans (.wA d),λj v p q=>by simp only[ah.wA,true_and,p,if_true];exact q,by simp[ah.wA,ah.made,ah.eD],λσ h=>?_⟩
 have:((O.set r (.obj (.cells c E))).set r (.tail n))=O.set r (.tail n):=by funext b;by_cases hb:b=r<;>simp[aj.set,hb]
 rw[this];exact(h.mono (a.trans (.wA d))).set (.tail n)
section
variable{P:acD}(L:iZ P){o:Oper}{env:Env}{σ:aa}{K:abU}{Kp:abU}
def pv{k:ah}{O:aj}{Kp:abB}{K:abE}{n:Nat}(h:K () k O):dI P (askRoom n) k O K Kp:=by
 unfold askRoom;split
 . exact⟨rfl,h⟩
 . exact h
def aK{s x:acE}{I:abW}{t t2 e e2:Nat}{it a8 g:TI}{σ0:aa}{es xs:acw}(ho:o.op=.call ⟨.builtin .append,#[s,x],I⟩)(h0:I[0]?=some t)(h1:I[1]?=some t2)(ht:L.tt t=some it)(hk:it.kind=.slice e)
 (aC:L.tt t2=some a8) (aE:a8.kind=.slice e2) (he:L.tt e=some g) (hb:g.bytes<=1024) (hlen:es.length+xs.length<=1073741824) (hs:Tok σ0 σ (an env s) g.size es) (J:EE (an env x) g.size xs)
 (hK:∀a' σ',Tok σ0 σ' a' g.size (es++xs)->K a' σ'):aI P o env σ K Kp:=λk O ρ hv S=>by
 have D:=hv s (by simp[ho,Op.operands,Call.operands])
 have w:=hv x (by simp[ho,Op.operands,Call.operands])
 have:execOp ρ o=(do pure (Next.value (<-Builtin.append_ I o.type #[ρ s,ρ x]))):=by simp[execOp,ho,resolve,invoke,builtin]
 rw[this];refine af ?_;have aL:g.zero.cells.size=g.size:=by obtain⟨_,_,_,_,_,_,h⟩:=L.facts he;exact h
 have aO:∃base cap,ρ s=.slice base es.length cap/\((((an env s=.nil/\base=none)\/(an env s=.sl g.size [] .exact/\∃a,base=some a))/\cap=0/\es=[])\/
  ∃ b off N E sp,base=some ⟨b,off,none⟩/\an env s=.sl g.size es sp/\es.length<=cap/\k.sh b=some (E,N)/\off+cap*g.size<=N/\(∀e∈es,e.cells.length=g.size)/\
    (∀(j:Nat) a,(flatten es)[j]?=some a->∃v,k.cell b (off+j)=some v/\V k v a/\bQ.flat v=true)/\sp.fits b off es.length g.size cap/\(sp=.exact\/∃e,σ0 b=none/\sp=.tok b e/\σ b=some (.tail e))):=by
  rcases hs.2 with⟨h,rfl⟩|h|⟨b,en,a9,h,F⟩<;>rw[h]at D
  . generalize ρ s=v at D;cases D;simp_all
  . rcases D.kN with⟨a0,q0,rfl,q⟩|⟨b,off,cap,N,E,q1,q2,q3,q4,q5,q6,q7⟩
    . rcases q with q|⟨_,q⟩
      . cases q
      . cases a0 with
        |none=>cases q
        |some a0=>grind
    grind
  . rcases D.kN with⟨_,_,_,q⟩|⟨b',off,cap,N,E,q1,q2,q3,q4,q5,q6,q7⟩
    . simp_all
    . obtain⟨rfl,_⟩:=id q7
      grind
 obtain⟨base,cap,ad,M⟩:=aO;have l:=hs.1;unfold Builtin.append_;simp only[h0,h1,aaQ,aaM,abm];refine af (aF L ht λd _ hd=>?_)
 rw[bN hd hk,ad];dsimp only;refine af (bI L he ?_);refine af (aF L aC λd2 _ T=>?_)
 rw[bN T aE];refine af (ag ?_);dsimp only;simp only[zR,if_false,Bool.not_false,if_true];refine af (JZ w J ?_)
 by_cases m:es.length+xs.length<=cap
 ·
  rw[if_pos m];refine af (qh w J (ZF _) λc U W Q=>?_)
  rcases M with⟨⟨B,rfl⟩|⟨B,a0,rfl⟩,rfl,rfl⟩|⟨b,off,N,E,sp,rfl,B,g1,g2,g3,g4,g5,g6,rfl|⟨en,a9,rfl,F⟩⟩
  . have A:xs=[]:=by simp_all
    subst A;dsimp only;refine ag ?_;refine ag ⟨_,.inl rfl,.here ⟨.refl k,.nil,σ,?_,S,hK _ _ ⟨l,.inl ⟨rfl,rfl⟩⟩⟩⟩
    simp_all
  . have A:xs=[]:=by simp_all
    subst A
    have X:c.toList=[]:=by simp_all
    dsimp only;rw[X];refine af (ag ?_);refine ag (ag ⟨_,.inl rfl,.here ⟨.refl k,.sl g.size [] .exact,σ,?_,S,hK _ _ ⟨l,.inr (.inl (by simp))⟩⟩⟩)
    simp_all
  . have bw:cap=es.length:=g6
    have A:xs=[]:=by cases xs with|nil=>rfl|cons _ _=>grind
    subst A
    have X:c.toList=[]:=by simp_all
    dsimp only;rw[X];refine af (ag ?_);refine ag (ag ⟨_,.inl rfl,.here ⟨.refl k,.sl g.size es .exact,σ,?_,S,hK _ _ ⟨l,.inr (.inl (by simp))⟩⟩⟩)
    simp_all
  . obtain ⟨_,bB⟩:=g6
    obtain⟨y,hO,hy⟩:=S.1 b _ F (by simp)
    cases hy;dsimp only;rw[iz]
    have c5:(flatten xs).length=c.size/\∀e∈xs,e.cells.length=g.size:=by
     rcases J with⟨_,rfl⟩|⟨sp,J⟩
     . exact⟨by simp[flatten];simp_all,by simp⟩
     . rw[J]at w
       rcases w.kN with⟨_,_,rfl,_⟩|⟨_,_,_,_,_,_,_,_,_,q5,_⟩
       . exact⟨by simp[flatten];simp_all,by simp⟩
       . exact⟨by rw[bt q5,U],q5⟩
    have hmul:off+(es.length+xs.length)*g.size<=N:=KD (Nat.add_le_add_left (ZZ _ m) off) g3;rw[aaU]at hmul;refine af (yP c.toList 0 k O (by simp_all) g2 (by grind) (λu hu=>?_) λk' O' i p b0=>?_)
    . obtain⟨j,hj,rfl⟩:=List.mem_iff_getElem.1 hu
      exact Q j _ (by simp_all)
    . refine ag (ag ⟨_,.inl rfl,.here ⟨i,.sl g.size (es++xs) (.tok b (off+(es++xs).length*g.size)),σ.set b (.tail (off+(es++xs).length*g.size)),?_,?_,hK _ _ ⟨?_,.inr (.inr ⟨b,_,a9,rfl,by simp[aa.set]⟩)⟩⟩⟩)
      . rw [show es.length+xs.length=(es++xs).length by simp]
        refine V.ofRow (by simp_all) (i.sh _ _ g2) g3 (λz hz=>?_) (λj a B=>?_) ⟨rfl,rfl⟩
        . grind
        . rw[flatten_append]at B
          by_cases hj:j<(flatten es).length
          . rw[ZS hj]at B
            obtain⟨u,hu,b1,b2⟩:=g5 j a B;exact⟨u,i.cell _ _ _ hu,b1.mono i,b2⟩
          . rw[ZK (by omega)]at B
            have G:j-(flatten es).length<c.size:=by grind
            have C:c[j-(flatten es).length]?=some c[j-(flatten es).length]:=by simp[G]
            refine⟨_,?_,(W _ _ a C B).mono i,Q _ _ C⟩;have:=p (j-(flatten es).length) _ (by rw[abv];exact C)
            rw[<-this];congr 1;have b3:=bt g4;omega
      . rw[b0]
        have:off+es.length*g.size+0+c.toList.length=off+(es++xs).length*g.size:=by grind
        rw[this];exact(S.mono i).set (.tail _)
      . intro b' y hy
        have:b'≠b:=λq=>by simp_all
        simp[aa.set,this,l b' y hy]
 ·
  rw[if_neg m]
  have al:¬((es.length+xs.length:Nat):Int)>IntKind.i64.max:=by have:IntKind.i64.max=9223372036854775807:=rfl;omega
  refine af (cU L he λinfo _ _ c6 _=>?_)
  rw[if_neg (λq=>al q.1)]
  refine af (cU L he λY _ _ av _=>?_)
  have Z:=nextslicecap_le (Nat.lt_of_not_le m)
  have a7:¬(Builtin.nextslicecap (es.length+xs.length) cap*Y.bytes>2 ^ 48):=by rw[av];have h1:Builtin.nextslicecap (es.length+xs.length) cap*g.bytes<=(4*(es.length+xs.length)+2000)*1024:=Nat.mul_le_mul Z hb;omega
  rw[if_neg a7];refine af (s:=choose _) (λt=>?_)
  have H:(Question.appendCap (es.length+xs.length) cap e).forced=false:=rfl;rw[H];simp only[zR,if_false];have b4:∃f,(Question.appendCap (es.length+xs.length) cap e).cut t=f/\es.length+xs.length<=f:=⟨_,rfl,by simp only[Question.cut];omega⟩
  obtain⟨f,ax,bx⟩:=b4;rw[ax];refine ag ?_;refine af (cU L he λb5 _ _ _ _=>?_)
  refine af (pv ?_);refine af (qh (a:=an env s) (by grind) hs.Qz (ZF _) λc U W Q=>?_)
  refine af (qh w J (ZF _) λd b6 T b7=>?_)
  refine af (cR L he ?_)
  have b8:∀e∈es,e.cells.length=g.size:=by grind
  have A:∀e∈xs,e.cells.length=g.size:=by
   rcases J with⟨_,rfl⟩|⟨sp,J⟩
   . simp
   . rw[J]at w
     rcases w.kN with⟨_,_,rfl,_⟩|⟨_,_,_,_,_,_,_,_,_,q5,_⟩
     . simp
     . exact q5
  have b9:(Builtin.zeroCells g.zero.cells (f-(es.length+xs.length))).size=(f-(es.length+xs.length))*g.size:=by simp[Builtin.zeroCells,aL]
  refine af (vw (n:=(es.length+xs.length)*g.size) ?_ λr k' O' R ht=>ag (ag ⟨_,.inl rfl,?_⟩))
  . grind
  . obtain ⟨k2,O2,hg,i,p,bm,bA⟩:=ht
    refine⟨k2,O2,hg,i,.sl g.size (es++xs) (.tok r ((es++xs).length*g.size)),σ.set r (.tail ((es++xs).length*g.size)),?_,?_,hK _ _ ⟨?_,.inr (.inr ⟨r,_,?_,rfl,by simp[aa.set]⟩)⟩⟩
    . rw [show es.length+xs.length=(es++xs).length by simp]
      refine V.ofRow (by grind) bm ?_ (λz hz=>?_) (λj a B=>?_) ⟨rfl,by omega⟩
      . simp only[Array.size_append,U,b6,b9]
        have:f*g.size=(es.length+xs.length)*g.size+(f-(es.length+xs.length))*g.size:=by rw[<-Nat.add_mul];grind
        grind
      . grind
      . rw [flatten_append]at B
        have b3:=bt b8;have c7:=bt A;rw[aaz]
        by_cases hj:j<(flatten es).length
        . rw[ZS hj]at B
          have G:j<c.size:=by omega
          have C:c[j]?=some c[j]:=by simp[G]
          refine⟨c[j],p j _ ?_ ?_,(W j _ a C B).mono i,Q j _ C⟩
          . grind
          grind
        . rw[ZK (by omega)]at B
          have G:j-(flatten es).length<d.size:=by grind
          have ay:d[j-(flatten es).length]?=some d[j-(flatten es).length]:=by simp[G]
          refine⟨_,p j _ ?_ ?_,(T _ _ a ay B).mono i,b7 _ _ ay⟩
          . grind
          grind
    . grind
    . intro b' y hy
      have h1:=l b' y hy;have:b'≠r:=λq=>by rw[q,S.isNone R.1 R.2.2]at h1;cases h1
      simp[aa.set,this,h1]
    . cases q:σ0 r with
      |none=>rfl
      |some y=>have:=l r y q;rw[S.isNone R.1 R.2.2]at this;cases this
end

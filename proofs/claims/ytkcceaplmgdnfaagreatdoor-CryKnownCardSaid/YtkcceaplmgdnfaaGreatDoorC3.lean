import Derived.Test.YtkcceaplmgdnfaaGreatDoorC2
set_option linter.all false
namespace Go.bu
open Go.Conc
def AV.W(a a':AV):Prop:=∀k v,V k v a->V k v a'
theorem AV.W.refl(a:AV):a.W a:=λ_ _ h=>h
abbrev AV.nil:AV:=.lit (.slice none 0 0)
theorem V.UG{k:ai}(kk:Nat):V k (.slice none 0 0) (.sl kk [] .any):=.slnil none kk .any (.inl rfl)
theorem cz(kk:Nat):AV.nil.W (.sl kk [] .any):=λk v h=>by cases h;exact .UG kk
theorem bQ(kk:Nat)(es:List AV)(sp:cQ):(AV.sl kk es sp).W (.sl kk es .any):=λk v h=>by
 cases h with
 |sl b off cap _ N E _ _ c d e f g i j l=>exact .sl b off cap kk N E es .any c d e f g i j trivial
 |slnil a=>exact .slnil a kk .any (.inl rfl)
def iP:Value->AV
 |.agg c=>.agg (c.toList.map .lit)
 |v=>.lit v
theorem V.iP(k:ai)(v:Value):V k v (iP v):=by
 cases v<;>first|exact .lit _|skip
 rename_i c;refine .agg _ _ (by simp) λi v a d b=>?_
 simp only[List.getElem?_map]at b;rw[show c.toList[i]?=c[i]? from by simp,d]at b;simp at b;subst b;exact .lit v
theorem flatten_cons(a:AV)(es:List AV):flatten (a::es)=a.cells++flatten es:=rfl
theorem flatten_append(es fs:List AV):flatten (es++fs)=flatten es++flatten fs:=by simp[flatten]
theorem bc{kk:Nat}:∀{es:List AV},(∀e∈es,e.cells.length=kk)->(flatten es).length=es.length*kk
 |[],_=>by simp[flatten]
 |a::es,h=>by rw[flatten_cons,List.length_append,bc (λe b=>h e (by simp[b])),h a (by simp),List.length_cons,Nat.succ_mul,Nat.add_comm]
theorem lz{kk:Nat}:∀{es:List AV}(_:∀e∈es,e.cells.length=kk){i:Nat}{a:AV}(_:es[i]?=some a) (j:Nat) (_:j<kk),(flatten es)[i*kk+j]?=a.cells[j]?
 |[],_,i,a,b,_,_=>by simp at b
 |x::es,h,0,a,b,j,c=>by simp at b;subst b;rw[flatten_cons,Nat.zero_mul,Nat.zero_add,List.getElem?_append_left (by simp_all)]
 | x::es,h,i+1,a,b,j,c=>by
   rw[flatten_cons,List.getElem?_append_right (by grind),h x (by simp)];have:(i+1)*kk+j-kk=i*kk+j:=by grind
   rw[this];exact lz (λe d=>h e (by simp[d])) (by simp_all) j c
section
variable{P:Program}(L:hQ P){k:ai}{O:aj}{Kp:Value->ai->aj->Prop}
theorem Rel.FN{σ:aa}(h:Rel k O σ){r:Nat}(i:O r=none){k':ai}(g:k.Le k'){x y:Own}:Rel k' (((O.set r x).set r y).del r) σ:=⟨λb a e c=>by
 obtain⟨z,d,f⟩:=h.1 b a e c;have:b≠r:=λq=>by simp_all
 exact⟨z,by simp[aj.del,aj.set,this,d],f.mono g⟩,λb a e c=>by
 obtain⟨d,f⟩:=(h.mono g).2 b a e c;refine⟨?_,f⟩;by_cases q:b=r
 . simp[aj.del,q]
 . simp[aj.del,aj.set,q,d]⟩
theorem mh{K:Addr->ai->aj->Prop}{E:TypeId}{c:Array Value}
 (l:∀r k' O',EK k O r->(ly k' O' λd m=>k.Le d/\(∀j v,c[j]?=some v->d.cell r j=some v)/\d.sh r=some (E,c.size)/\(∀σ,Rel k O σ->Rel d m σ))->K ⟨r,0,none⟩ k' O'):dk P (newRow E c) k O K Kp:=by
 refine ag (s:=newObj (.cells c E)) ⟨rfl,λr g=>ah (l r _ _ g ?_)⟩;obtain⟨f1,o,p⟩:=g;have a:k.Le (k.made r (.cells c E)):=.made p;have b:∀j,(k.made r (.cells c E)).cell r j=none:=o;refine⟨_,_,(mQ (n:=c.size) (c:=c) (e:=E) (r:=r) (by simp[aj.set]) (by simp[ai.made,ai.dQ])).trans (CZ _ _ r (by simp[aj.set])),a.trans (.uT b),λj v i=>?_,by simp[ai.uT,ai.made,ai.dQ],λσ h=>h.FN f1 (a.trans (.uT b))⟩;have f:j<c.size:=(Array.getElem?_eq_some_iff.1 i).1;simp only[ai.uT,true_and,f,if_true];exact i
theorem iA{K:Addr->ai->aj->Prop}{E:TypeId}{c:Array Value}{σ:aa}(h:Rel k O σ){l:List AV}(d:c.size=l.length)(e:∀(i:Nat) v a,c[i]?=some v->l[i]?=some a->V k v a)(f:∀(i:Nat) v,c[i]?=some v->flat v=true)
 (g:∀r k' O',σ r=none->k.Le k'->Rel k' O' (σ.set r (.cells l))->K ⟨r,0,none⟩ k' O'):dk P (newRow E c) k O K Kp:=by
 refine ag (s:=newObj (.cells c E)) ⟨rfl,λr b=>ah (g r _ _ (h.isNone b.1 b.2.2) (.made b.2.2) ?_)⟩;exact(h.mono (.made b.2.2)).set (.cells c E l d (λi v a j m=>(e i v a j m).mono (.made b.2.2)) f)
end
section
variable{P:Program}(L:hQ P){o:Oper}{env:Env}{σ:aa}{K:AV->aa->Prop}{Kp:AV->aa->Prop}
theorem AI{t:Nat}{i:TI}(c:o.op=.alloc t)(d:L.tt t=some i)(e:(iP i.zero).cells.all AV.flat=true)(f:∀b,σ b=none->K (.ref b 0) (σ.set b (.cells (iP i.zero).cells))):aJ P o env σ K Kp:=
 aJ.val (s:=λ_=>Instr.alloc t true (.tuple #[])) (λg=>by simp[execOp,c]) λk O g q h=>by
  unfold Instr.alloc;refine ag (cD L d ?_);obtain⟨j,l,m⟩:=(V.iP k i.zero).cells e;refine ag (iA h j l m λr u v n p a=>ah ?_);exact .here ⟨p,_,_,.ref r 0,a,f r n⟩
theorem uV{t:Nat}{x:Operand}(d:o.op=.box t x)(e:(au env x).cells.all AV.flat=true)(f:∀b,σ b=none->K (.ref b 0) (σ.set b (.cells (au env x).cells))):aJ P o env σ K Kp:=
 aJ.val (s:=λa=>Instr.box t (a x)) (λa=>by simp[execOp,d]) λk O a g h=>by
  unfold Instr.box;obtain⟨i,j,l⟩:=(g x (by simp[d,Op.operands])).cells e;refine ag (iA h i j l λr p q m n c=>ah ?_);exact .here ⟨n,_,_,.ref r 0,c,f r m⟩
theorem Ie{t:Nat}{x:Operand}(e:o.op=.box t x)(h:(au env x).cells.all AV.flat=true)(i:K (.cp (au env x) 0) σ):aJ P o env σ K Kp:=
 aJ.val (s:=λc=>Instr.box t (c x)) (λc=>by simp[execOp,e]) λk O c l m=>by
  unfold Instr.box;obtain⟨A,n,p⟩:=(l x (by simp[e,Op.operands])).cells h;refine ag (mh λr B C D q=>ah ?_);obtain⟨u,v,g,f,w,y,d⟩:=q;refine⟨u,v,g,f,_,σ,?_,d σ m,i⟩;refine V.cp r 0 0 _ _ _ (λj=>(c x).cells.getD j undef) y (by omega) (λj E=>?_) (λj a z=>?_)
  . have b:j<(c x).cells.size:=by omega
    rw[Nat.zero_add,w j ((c x).cells[j]) (by simp[b])];have:=p j ((c x).cells[j]) (by simp[b])
    simp_all
  . have b:j<(c x).cells.size:=by grind
    have:=(n j ((c x).cells[j]) a (by simp[b]) z).mono f;simpa[Array.getD,b]using this
end
inductive Ig(k:ai):Value->Nat->List AV->cQ->Prop
 |nil (a:Option Addr) (kk:Nat) (sp:cQ):(sp=.any\/(sp=.exact/\a.isSome=true))->Ig k (.slice a 0 0) kk [] sp
 | row (b off cap kk N:Nat) (E:TypeId) (es:List AV) (sp:cQ):es.length<=cap->k.sh b=some (E,N)->off+cap*kk<=N->(∀e∈es,e.cells.length=kk) ->
    (∀O,nN k O b off (flatten es))->sp.fits b off es.length kk cap->Ig k (.slice (some ⟨b,off,none⟩) es.length cap) kk es sp
theorem V.FO{k:ai}{v:Value}{kk:Nat}{es:List AV}{sp:cQ}(h:V k v (.sl kk es sp)):Ig k v kk es sp:=by
 cases h with
 |sl b off cap _ N E _ _ c d e f g i j l=>exact .row b off cap kk N E es sp d e f g (λO=>.known i j) l
 |slnil a _ _ h=>exact .nil a kk sp h
theorem Ig.len{k:ai}{v:Value}{kk:Nat}{es:List AV}{sp:cQ}(h:Ig k v kk es sp):∃a c,v=.slice a es.length c:=by
 cases h
 . simp_all
 simp_all
theorem V.ofRow{k:ai}{b off cap kk N:Nat}{E:TypeId}{es:List AV}{sp:cQ}(c:es.length<=cap)(d:k.sh b=some (E,N))(f:off+cap*kk<=N)(g:∀e∈es,e.cells.length=kk)
 (h:∀(j:Nat) a,(flatten es)[j]?=some a->∃v,k.cell b (off+j)=some v/\V k v a/\bu.flat v=true) (i:sp.fits b off es.length kk cap):V k (.slice (some ⟨b,off,none⟩) es.length cap) (.sl kk es sp):=by
 refine .sl b off cap kk N E es sp (λj=>(k.cell b (off+j)).getD undef) c d f g (λj l=>?_) (λj a m=>?_) i
 . obtain⟨v,n,_,o⟩:=h j (flatten es)[j] (by simp[l])
   simp_all
 grind
theorem V.jW{k:ai}{v:Value}{kk:Nat}{es:List AV}{sp:cQ}(h:V k v (.sl kk es sp)):(∃a,v=.slice a 0 0/\es=[]/\(sp=.any\/(sp=.exact/\a.isSome=true)))\/
 ∃b off cap N E,v=.slice (some ⟨b,off,none⟩) es.length cap/\es.length<=cap/\k.sh b=some (E,N)/\off+cap*kk<=N/\(∀e∈es,e.cells.length=kk)/\(∀(j:Nat) a,(flatten es)[j]?=some a->∃v,k.cell b (off+j)=some v/\V k v a/\bu.flat v=true)/\sp.fits b off es.length kk cap:=by
 cases h with
 |sl b off cap _ N E _ _ c g i l m f n o=>exact .inr ⟨b,off,cap,N,E,rfl,g,i,l,m,λj a d=>⟨c j,(f j (List.getElem?_eq_some_iff.1 d).1).1,n j a d,(f j (List.getElem?_eq_some_iff.1 d).1).2⟩,o⟩
 |slnil a _ _ h=>simp_all
theorem V.Ih{k:ai}{b off cap kk N:Nat}{es:List AV}{sp:cQ}(h:V k (.slice (some ⟨b,off,none⟩) N cap) (.sl kk es sp)):∀(j:Nat) a,(flatten es)[j]?=some a->∃v,k.cell b (off+j)=some v/\V k v a/\bu.flat v=true:=by
 intro j a d;cases h with
 |sl _ _ _ _ N E _ _ c e f g i l m n=>grind
 |slnil=>simp[flatten]at d
section
variable{P:Program}(L:hQ P){o:Oper}{env:Env}{σ:aa}{K:AV->aa->Prop}{Kp:AV->aa->Prop}
theorem bg{i:TI}{d:TypeDesc}{e:Nat}(h:dg P i d=true)(a:i.kind=.slice e):d=.slice e:=by cases d<;>simp_all [dg]
theorem mR{i:TI}{d:TypeDesc}{n e:Nat}(h:dg P i d=true)(a:i.kind=.array n e):d=.array n e:=by cases d<;>simp_all [dg]
theorem zb{x:Operand}{b:Array TypeId}{t e:Nat}{i:TI}{kk:Nat}{es:List AV}{sp:cQ}(j:o.op=.call ⟨.builtin .len,#[x],b⟩)(l:b[0]?=some t)(m:L.tt t=some i)(n:i.kind=.slice e)
 (f:au env x=.sl kk es sp\/(au env x=.nil/\es=[])) (p:K (.lit (.int .i64 es.length)) σ):aJ P o env σ K Kp:=
 fun k O g q r=>by
  have h:=q x (by simp[j,Op.operands,Call.operands])
  have s:∃a c,g x=.slice a es.length c:=by
   rcases f with f|⟨f,rfl⟩
   . rw[f]at h;exact h.FO.len
   . rw[f]at h
     generalize g x=v at h;cases h
     simp_all
  obtain⟨a,c,u⟩:=s;have:execOp g o=(do pure (Next.value (<-Builtin.len_ b o.type #[g x]))):=by simp[execOp,j,resolve,invoke,builtin]
  rw[this];refine ag ?_;unfold Builtin.len_;simp only[l,List.getElem?_toArray,List.getElem?_cons_zero];refine ag (aE L m λd _ hd=>?_);rw[bg hd n,u];exact ah (ah ⟨_,.inl rfl,.here ⟨.refl k,_,σ,.lit _,r,p⟩⟩)
theorem xU{x:Operand}{f:Array TypeId}{t e:Nat}{i:TI}{b off len cap:Nat}(j:o.op=.call ⟨.builtin .len,#[x],f⟩)(l:f[0]?=some t)(m:L.tt t=some i)(n:i.kind=.slice e)
 (p:au env x=.kB b off len cap) (q:K (.lit (.int .i64 len)) σ):aJ P o env σ K Kp:=
 fun k O g r s=>by
  have h:=r x (by simp[j,Op.operands,Call.operands])
  have u:∃a c,g x=.slice a len c:=by
   rw[p]at h;generalize g x=v at h;cases h
   simp_all
  obtain⟨a,c,w⟩:=u;have:execOp g o=(do pure (Next.value (<-Builtin.len_ f o.type #[g x]))):=by simp[execOp,j,resolve,invoke,builtin]
  rw[this];refine ag ?_;unfold Builtin.len_;simp only[l,List.getElem?_toArray,List.getElem?_cons_zero];refine ag (aE L m λd _ hd=>?_);rw[bg hd n,w];exact ah (ah ⟨_,.inl rfl,.here ⟨.refl k,_,σ,.lit _,s,q⟩⟩)
theorem dC{k:ai}{v:Value}{kd:IntKind}{n:Int}(h:V k v (.lit (.int kd n))):v=.int kd n:=by cases h;rfl
theorem uW{t e:Nat}{x i:Operand}{it f:TI}{es:List AV}{sp:cQ}{n:Int}{kd:IntKind}{a:AV}(m:o.op=.indexAddr t x i)(z:L.tt t=some it)(A:it.kind=.slice e)(D:L.tt e=some f)
 (F:au env x=.sl f.size es sp) (G:au env i=.lit (.int kd n)) (H:0<=n) (g:es[n.toNat]?=some a) (I:K (.cp a 0) σ):aJ P o env σ K Kp:=
 aJ.val (s:=λh=>Instr.indexAt t (h x) (h i)) (λh=>by simp[execOp,m]) λk O h B J=>by
  have l:=B x (by simp[m,Op.operands]);have C:=B i (by simp[m,Op.operands]);rw[F]at l;rw[G]at C;rw[dC C];have p:n.toNat<es.length:=(List.getElem?_eq_some_iff.1 g).1;generalize h x=v at l;have c:=l;cases l.FO with
  |nil=>simp at p
  | row b off cap _ N E _ _ Y M Z q g5 g6=>
    unfold Instr.indexAt;refine ag (ah ?_);refine ag (aE L z λd _ hd=>?_);rw[bg hd A];dsimp only;refine ag (ah ?_);dsimp only;refine ag (aE L z λd2 _ r=>?_);rw[bg r A];dsimp only;rw[if_pos ⟨H,by omega⟩];refine ag (bf L D (ah (.here ⟨.refl k,_,σ,?_,J,I⟩)));rw[fD];have Q:a.cells.length=f.size:=q a (List.mem_iff_getElem?.2 ⟨_,g⟩)
    have w:off+n.toNat*f.size+a.cells.length<=N:=by
     have hn:n.toNat<es.length:=(List.getElem?_eq_some_iff.1 g).1;have:=Nat.mul_le_mul_right f.size (show n.toNat+1<=cap by omega)
     grind
    refine V.cp b (off+n.toNat*f.size) 0 N E a (λj=>(k.cell b (off+n.toNat*f.size+j)).getD undef) M w (λj R=>?_) (λj y S=>?_)
    . have T:=lz q g j (by omega)
      obtain⟨u,U,_,W⟩:=c.Ih (n.toNat*f.size+j) a.cells[j] (by simp_all)
      grind
    . have R:j<a.cells.length:=(List.getElem?_eq_some_iff.1 S).1
      have T:=lz q g j (by omega);obtain⟨u,U,X,_⟩:=c.Ih (n.toNat*f.size+j) y (by simp_all)
      grind
end
section
variable{P:Program}(L:hQ P){o:Oper}{env:Env}{σ:aa}{K:AV->aa->Prop}{Kp:AV->aa->Prop}
theorem sW{k:ai}{O:aj}{Kp:Value->ai->aj->Prop}{t:Nat}{info:TypeInfo}{K:Nat->ai->aj->Prop}(h:P.info? t=some info)(a:K info.size k O):dk P (sizeOf t) k O K Kp:=by unfold sizeOf typeInfo;refine ag (ag (bb ?_));rw[h];exact ah a
theorem sX{i:TI}{d:TypeDesc}(h:dg P i d=true)(b:i.kind=.struct){j:Nat}{x:Nat × Nat × Nat}(c:i.jc[j]?=some x):∃fs f info,d=.struct fs/\fs[j]?=some f/\f.offset=x.1/\P.info? f.type=some info/\info.size=x.2.1/\f.type=x.2.2:=by
 cases d with
 | struct fs=>
   simp only[dg,Bool.and_eq_true,beq_iff_eq]at h;have a:=congrArg (λl=>l[j]?) h.2;simp only[List.getElem?_map,c,Option.map_some]at a;obtain⟨f,g,e⟩:=Option.map_eq_some_iff.1 a;simp only[Prod.mk.injEq]at e
   simp_all
 |_=>simp[dg,b]at h
def qu(a:AV)(n:Nat):Option AV:=
 match a with
 |.cp v off=>some (.cp v (off+n))
 |.kp b l hole off=>some (.kp b l hole (off+n))
 |.ref b off=>some (.ref b (off+n))
 |_=>none
theorem V.qu{k:ai}{v:Value}{a a':AV}{n:Nat}(h:V k v a)(d:qu a n=some a'):∃b off,v=.pointer (some ⟨b,off,none⟩)/\V k (.pointer (some ⟨b,off+n,none⟩)) a':=by
 cases a<;>simp only[bu.qu,reduceCtorEq,Option.some.injEq]at d
 . subst d
   cases h with
   |cp b base _ N E _ c e f g i=>exact⟨b,_,rfl,by rw[Nat.add_assoc];exact .cp b base _ N E _ c e f g i⟩
 . subst d
   cases h with
   |kp _ _ N E _ _ c e f g i=>exact⟨_,_,rfl,.kp _ _ N E _ _ c e f g i⟩
 . subst d
   cases h;exact⟨_,_,rfl,.ref _ _⟩
theorem qv{s j:Nat}{x:Operand}{i:TI}{f:Nat × Nat × Nat}{a':AV}(h:o.op=.fieldAddr s x j)(l:L.tt s=some i)(m:i.kind=.struct)(n:i.jc[j]?=some f)(p:f.2.1≠0)
 (q:qu (au env x) f.1=some a') (r:K a' σ):aJ P o env σ K Kp:=
 aJ.val (s:=λa=>Instr.fieldAt s (a x) j) (λa=>by simp[execOp,h]) λk O a t u=>by
  obtain⟨b,off,e,c⟩:=(t x (by simp[h,Op.operands])).qu q;unfold Instr.fieldAt;refine ag (aE L l λd _ hd=>?_);obtain⟨fs,g,info,rfl,v,w,y,z,_⟩:=sX hd m n;dsimp only;rw[v,e];dsimp only;refine ag (ah ?_);unfold fieldPlace;refine ag (ag (sW y ?_));rw[z,if_neg p];refine ah (ah (.here ⟨.refl k,_,σ,?_,u,r⟩));rw[fD,w];exact c
theorem sY{t n e:Nat}{x a:Operand}{it i:TI}{z:Int}{kd:IntKind}{a':AV}(f:o.op=.indexAddr t x a)(j:L.tt t=some it)(l:it.kind=.array n e)(q:L.tt e=some i)
 (r:au env a=.lit (.int kd z)) (u:0<=z/\z<n) (v:qu (au env x) (z.toNat*i.size)=some a') (w:K a' σ):aJ P o env σ K Kp:=
 aJ.val (s:=λc=>Instr.indexAt t (c x) (c a)) (λc=>by simp[execOp,f]) λk O c m y=>by
  obtain⟨b,off,A,g⟩:=(m x (by simp[f,Op.operands])).qu v;have p:=m a (by simp[f,Op.operands]);rw[r]at p;rw[dC p,A];unfold Instr.indexAt;refine ag (ah ?_);refine ag (aE L j λd _ hd=>?_);rw[mR hd l];dsimp only;refine ag (ah ?_);refine ag (ah ?_);dsimp only;refine ag (aE L j λB _ h=>?_);rw[mR h l];dsimp only;rw[if_pos u];refine ag (bf L q (ah (.here ⟨.refl k,_,σ,?_,y,w⟩)));rw[fD];exact g
theorem sZ{t e:Nat}{x c:Operand}{it i:TI}{b off len cap:Nat}{z:Int}{kd:IntKind}(f:o.op=.indexAddr t x c)(j:L.tt t=some it)(l:it.kind=.slice e)(p:L.tt e=some i)
 (q:au env x=.kB b off len cap) (r:au env c=.lit (.int kd z)) (u:0<=z/\z<len) (w:K (.ref b (off+z.toNat*i.size)) σ):aJ P o env σ K Kp:=
 aJ.val (s:=λa=>Instr.indexAt t (a x) (a c)) (λa=>by simp[execOp,f]) λk O a m y=>by
  have g:=m x (by simp[f,Op.operands]);have n:=m c (by simp[f,Op.operands]);rw[q]at g;rw[r]at n;rw[dC n];generalize a x=v at g;cases g;unfold Instr.indexAt;refine ag (ah ?_);refine ag (aE L j λd _ hd=>?_);rw[bg hd l];dsimp only;refine ag (ah ?_);dsimp only;refine ag (aE L j λA _ h=>?_);rw[bg h l];dsimp only;rw[if_pos u];refine ag (bf L p (ah (.here ⟨.refl k,_,σ,?_,y,w⟩)));rw[fD];exact .ref _ _
theorem V.part{k:ai}{O:aj}{Kp:Value->ai->aj->Prop}{t off:Nat}{i:TI}{c:Array Value}{l:List AV}{a:AV}{K:Value->ai->aj->Prop}(n:c.size=l.length)(g:∀(j:Nat) v a,c[j]?=some v->l[j]?=some a->V k v a)
 (e:L.tt t=some i) (b:cy l off i.size i.agg=some a) (f:∀v,V k v a->K v k O):dk P (part t c off) k O K Kp:=by
 unfold Go.part;refine ag (oD L e ?_);unfold cy at b;cases d:i.agg
 . simp only[d,Bool.false_eq_true,if_false]at b ⊢
   have h:off<l.length:=(List.getElem?_eq_some_iff.1 b).1;rw[show c[off]?=some c[off]from by simp_all];exact f _ (g off _ a (by simp_all) b)
 . simp only[d,if_true]at b ⊢
   split at b
   . next m=>
     simp only[Option.some.injEq]at b;subst b;refine ag (bf L e (ah (f _ (.agg _ _ ?_ λj v a o p=>?_))))
     . grind
     grind
   . cases b
theorem AJ{s j:Nat}{x:Operand}{i h:TI}{f:Nat × Nat × Nat}{l:List AV}{a:AV}(p:o.op=.field s x j)(q:L.tt s=some i)(r:i.kind=.struct)(t:i.jc[j]?=some f)(m:L.tt f.2.2=some h)
 (u:au env x=.agg l) (w:cy l f.1 h.size h.agg=some a) (y:K a σ):aJ P o env σ K Kp:=
 aJ.val (s:=λe=>Instr.field s (e x) j) (λe=>by simp[execOp,p]) λk O e n z=>by
  have b:=n x (by simp[p,Op.operands]);rw[u]at b;generalize e x=v at b;cases b with
  | agg c l A B=>
    unfold Instr.field;refine ag (aE L q λd _ hd=>?_);obtain⟨fs,g,info,rfl,b,C,E,F,D⟩:=sX hd r t;dsimp only;rw[b];dsimp only;refine ag (ah ?_);rw[C,D];exact V.part L A B m w λv n=>.here ⟨.refl k,a,σ,n,z,y⟩
theorem AL{t n e:Nat}{x f:Operand}{it g:TI}{z:Int}{kd:IntKind}{l:List AV}{a:AV}(i:o.op=.index t x f)(q:L.tt t=some it)(r:it.kind=.array n e)(m:L.tt e=some g)
 (u:au env x=.agg l) (w:au env f=.lit (.int kd z)) (y:0<=z/\z<n) (A:cy l (z.toNat*g.size) g.size g.agg=some a) (B:K a σ):aJ P o env σ K Kp:=
 aJ.val (s:=λb=>Instr.index t (b x) (b f)) (λb=>by simp[execOp,i]) λk O b h C=>by
  have j:=h x (by simp[i,Op.operands]);have p:=h f (by simp[i,Op.operands]);rw[u]at j;rw[w]at p;rw[dC p];generalize b x=v at j;cases j with
  | agg c l D E=>
    unfold Instr.index;refine ag (ah ?_);refine ag (aE L q λd _ hd=>?_);rw[mR hd r];dsimp only;rw[if_pos y];refine ag (bf L m ?_);exact V.part L D E m A λv h=>.here ⟨.refl k,a,σ,h,C,B⟩
def uX(op:BinOp)(k:IntKind)(x y:Int):Option Value:=
 match op with
 |.add=>some (.int k (k.wrap (x+y)))
 |.sub=>some (.int k (k.wrap (x-y)))
 |.mul=>some (.int k (k.wrap (x*y)))
 |.quo=>if y=0 then none else some (.int k (k.wrap (x.tdiv y)))
 |.rem=>if y=0 then none else some (.int k (x.tmod y))
 |.and=>some (.int k (k.wrap ((BitVec.ofInt k.bits x &&& BitVec.ofInt k.bits y).toNat)))
 |.or=>some (.int k (k.wrap ((BitVec.ofInt k.bits x|||BitVec.ofInt k.bits y).toNat)))
 |.xor=>some (.int k (k.wrap ((BitVec.ofInt k.bits x ^^^ BitVec.ofInt k.bits y).toNat)))
 |.eql=>some (.bool (x==y))
 |.neq=>some (.bool (x !=y))
 |.lss=>some (.bool (x<y))
 |.leq=>some (.bool (x<=y))
 |.gtr=>some (.bool (x>y))
 |.geq=>some (.bool (x>=y))
 |_=>none
theorem cH{op:BinOp}{t l:Nat}{x y:Operand}{kd:IntKind}{a b:Int}{v:Value}(g:o.op=.binOp op t x y l)(m:au env x=.lit (.int kd a))(n:au env y=.lit (.int kd b))(d:uX op kd a b=some v)(p:K (.lit v) σ):
 aJ P o env σ K Kp:=λk O c f q=>by
 have i:=f x (by simp[g,Op.operands]);have j:=f y (by simp[g,Op.operands]);rw[m]at i;rw[n]at j;have r:=dC i;have s:=dC j
 have key:(do eqGuard op t x y (c x) (c y);binOp op t (c x) (c y))=(pure v:Sem Value):=by
  rw[r,s]
  cases op<;>simp only[uX,reduceCtorEq,Option.some.injEq]at d<;>
   first
    |(subst d;simp[eqGuard,binOp,Op.intArith,Op.intBits,Op.intCmp];done)
    | (split at d
       . cases d
       . next h=>simp only[Option.some.injEq]at d;subst d;simp[eqGuard,binOp,Op.intDiv,h])
 have:execOp c o=pure (.value v):=by
  have e:execOp c o=(do let v <-(do eqGuard op t x y (c x) (c y);binOp op t (c x) (c y));pure (.value v)):=by simp[execOp,g]
  simp_all
 rw[this];exact ah ⟨v,.inl rfl,.here ⟨.refl k,_,σ,.lit v,q,p⟩⟩
theorem wrap_i64{n:Int}(h:-9223372036854775808<=n/\n<=9223372036854775807):IntKind.i64.wrap n=n:=by simp only[IntKind.wrap,IntKind.bits,IntKind.signed];simp;omega
theorem mi{op:BinOp}{t e:Nat}{x y:Operand}{a b r:Int}(f:o.op=.binOp op t x y e)(g:au env x=.lit (.int .i64 a))(h:au env y=.lit (.int .i64 b))
 (d:(op=.add/\r=a+b)\/(op=.sub/\r=a-b)\/(op=.mul/\r=a*b)) (c:-9223372036854775808<=r/\r<=9223372036854775807) (i:K (.lit (.int .i64 r)) σ):aJ P o env σ K Kp:=by
 have j:=wrap_i64 c;rcases d with⟨rfl,rfl⟩|⟨rfl,rfl⟩|⟨rfl,rfl⟩<;>exact cH f g h (by simp only[uX,j]) i
theorem qw{op:BinOp}{t j:Nat}{x y:Operand}{kd l:IntKind}{a b:Int}{v:Value}(f:o.op=.binOp op t x y j)(m:au env x=.lit (.int kd a))(n:au env y=.lit (.int l b))(hb:0<=b)
 (g:(op=.shl/\v=.int kd (kd.wrap (a*2 ^ (min b.toNat kd.bits))))\/(op=.shr/\v=.int kd (a.fdiv (2 ^ (min b.toNat kd.bits))))) (p:K (.lit v) σ):
 aJ P o env σ K Kp:=λk O c d q=>by
 have h:=d x (by simp[f,Op.operands]);have i:=d y (by simp[f,Op.operands]);rw[m]at h;rw[n]at i;have r:=dC h;have s:=dC i;have u:¬b<0:=by omega
 have key:(do eqGuard op t x y (c x) (c y);binOp op t (c x) (c y))=(pure v:Sem Value):=by
  rw[r,s];rcases g with⟨rfl,rfl⟩|⟨rfl,rfl⟩<;>simp[eqGuard,binOp,Op.shift,u]
 have:execOp c o=pure (.value v):=by
  have e:execOp c o=(do let v <-(do eqGuard op t x y (c x) (c y);binOp op t (c x) (c y));pure (.value v)):=by simp[execOp,f]
  simp_all
 rw[this];exact ah ⟨v,.inl rfl,.here ⟨.refl k,_,σ,.lit v,q,p⟩⟩
theorem pX{k:ai}{v:Value}{b:Bool}(h:V k v (.lit (.bool b))):v=.bool b:=by cases h;rfl
theorem Ii{t:Nat}{x:Operand}{b:Bool}(c:o.op=.unOp .not t x)(e:au env x=.lit (.bool b))(f:K (.lit (.bool !b)) σ):aJ P o env σ K Kp:=λk O g a h=>by
 have d:=a x (by simp[c,Op.operands]);rw[e]at d;have:execOp g o=pure (.value (.bool !b)):=by simp[execOp,c,pX d,Op.unary]
 rw[this];exact ah ⟨_,.inl rfl,.here ⟨.refl k,_,σ,.lit _,h,f⟩⟩
theorem uY{s t:Nat}{x:Operand}{is it:TI}{kd f:IntKind}{b:IntKind}{a:Int}(g:o.op=.convert s t x)(j:L.tt s=some is)(l:L.tt t=some it)(m:is.kind=.int f)(n:it.kind=.int kd)(p:au env x=.lit (.int b a))(q:K (.lit (.int kd (kd.wrap a))) σ):aJ P o env σ K Kp:=
 aJ.val (s:=λc=>convert s t (c x)) (λc=>by simp[execOp,g]) λk O c e r=>by
  have h:=e x (by simp[g,Op.operands])
  rw[p]at h;rw[dC h];unfold convert;refine ag (aE L j λd _ hd=>ag (aE L l λi _ u=>?_))
  have v:i=.int kd:=by cases i<;>simp_all [dg]
  have w:d=.int f:=by cases d<;>simp_all [dg]
  subst w v;exact ah (.here ⟨.refl k,_,σ,.lit _,r,q⟩)
theorem oE{b:Builtin}{c:Array TypeId}{x y:Operand}{kd:IntKind}{p q:Int}(d:o.op=.call ⟨.builtin b,#[x,y],c⟩)(g:au env x=.lit (.int kd p))(h:au env y=.lit (.int kd q))
 {r:Int}(hb:(b=.min/\r=if q<p then q else p)\/(b=.max/\r=if q>p then q else p)) (i:K (.lit (.int kd r)) σ):aJ P o env σ K Kp:=λk O j a l=>by
 have e:=a x (by simp[d,Op.operands,Call.operands])
 have f:=a y (by simp[d,Op.operands,Call.operands])
 rw[g]at e;rw[h]at f;have m:=dC e;have n:=dC f
 have:execOp j o=pure (.value (.int kd r)):=by
  rcases hb with⟨rfl,rfl⟩|⟨rfl,rfl⟩<;>
  simp[execOp,d,resolve,invoke,builtin,m,n,Builtin.min_,Builtin.max_,Builtin.min2,Builtin.max2]
 rw[this];exact ah ⟨_,.inl rfl,.here ⟨.refl k,_,σ,.lit _,l,i⟩⟩
theorem mj{t:Nat}{x:Operand}{i:TI}(l:o.op=.makeInterface t x)(m:L.tt t=some i)(n:i.kind≠.iface)(p:K (.kD t (au env x)) σ):aJ P o env σ K Kp:=
 aJ.val (s:=λf=>Instr.makeInterface t (f x)) (λf=>by simp[execOp,l]) λk O f g q=>by
  unfold Instr.makeInterface;refine ag (aE L m λd _ hd=>?_)
  have:∀ms,d≠.interface ms:=λms e=>by subst e;simp[dg]at hd;exact n hd
  have fin:dk P (pure (Value.iface t (f x)):Sem Value) k O (λv c h=>ly c h λj r=>k.Le j/\∃a b,V j v a/\Rel j r b/\K a b) (λv c h=>k.Le c/\∃a b,V c v a/\Rel c h b/\Kp a b):=ah (.here ⟨.refl k,_,σ,.kD _ _ _ (g x (by simp[l,Op.operands])),q,p⟩)
  simp_all
theorem Vs.ofArray{k:ai}{ρ:Operand->Value}{env:Env}{xs:Array Operand}(h:∀x∈xs,V k (ρ x) (au env x)):(xs.map ρ).size=(xs.toList.map (au env)).length/\∀(i:Nat) v a,(xs.map ρ)[i]?=some v->(xs.toList.map (au env))[i]?=some a->V k v a:=by
 refine⟨by simp,λi v a b c=>?_⟩
 grind
theorem s5{fn:Fn}{fs cs:Array Operand}(b:o.op=.makeFunc fn fs cs)(d:K (.fn fn (fs.toList.map (au env)) (cs.toList.map (au env))) σ):aJ P o env σ K Kp:=λk O ρ a e=>by
 have:execOp ρ o=pure (.value (.func fn (fs.map ρ) (cs.map ρ))):=by simp[execOp,b,Instr.makeFunc]
 rw[this];obtain⟨f,g⟩:=Vs.ofArray (k:=k) (ρ:=ρ) (env:=env) (xs:=fs) λx c=>a x (by simp[b,Op.operands,c])
 obtain⟨h,i⟩:=Vs.ofArray (k:=k) (ρ:=ρ) (env:=env) (xs:=cs) λx c=>a x (by simp[b,Op.operands,c])
 exact ah ⟨_,.inl rfl,.here ⟨.refl k,_,σ,.fn _ _ _ _ _ f g h i,e,d⟩⟩
theorem uZ{x:Operand}{j:Nat}{l:List AV}{a:AV}(e:o.op=.extract x j)(h:au env x=.bp l)(i:l[j]?=some a)(m:K a σ):aJ P o env σ K Kp:=λk O f b n=>by
 have d:=b x (by simp[e,Op.operands]);rw[h]at d;generalize p:f x=v at d;cases d with
 | bp c l r q=>
   have g:j<c.size:=by grind
   have:execOp f o=pure (.value c[j]):=by simp[execOp,e,Instr.extract,p,g]
   rw[this];exact ah ⟨_,.inl rfl,.here ⟨.refl k,_,σ,q j _ a (by simp[g]) i,n,m⟩⟩
theorem py{x:Operand}{z t:Nat}{i:TI}{d:Nat}{y:AV}(A:o.op=.typeAssert x z t true)(B:L.tt t=some i)(E:i.kind≠.iface)(F:au env x=.kD d y)
 (n:K (if d=t then .bp [y,.lit (.bool true)]else .bp [iP i.zero,.lit (.bool false)]) σ):aJ P o env σ K Kp:=
 aJ.val (s:=λm=>Instr.typeAssert (m x) z t true) (λm=>by simp[execOp,A]) λk O m p C=>by
  have g:=p x (by simp[A,Op.operands]);rw[F]at g;generalize m x=v at g;cases g with
  | kD _ v _ G=>
    unfold Instr.typeAssert;refine ag (aE L B λdd _ hd=>?_);have H:∀ms,dd≠.interface ms:=λms e=>by subst e;simp[dg]at hd;exact E hd
    have pair:∀{u:Value}{b:Bool}{a:AV},V k u a->V k (.tuple #[u,.bool b]) (.bp [a,.lit (.bool b)]):=λ{u b a} h=>.bp _ _ rfl λj w c g D=>by
     match j with
     |0=>simp_all
     |1=>simp at g D;subst g;subst D;exact .lit _
     |j+2=>simp at g
    have fin:dk P (if d=t then(pure (.tuple #[v,.bool true]):Sem Value)else(do pure (.tuple #[<-zeroValue t,.bool false]))) k O (λv l q=>ly l q λr I=>k.Le r/\∃a f,V r v a/\Rel r I f/\K a f) (λv l q=>k.Le l/\∃a f,V l v a/\Rel l q f/\Kp a f):=by
     split at n
     . next e=>rw[if_pos e];exact ah (.here ⟨.refl k,_,σ,pair G,C,n⟩)
     . next e=>rw[if_neg e];exact ag (cD L B (ah (.here ⟨.refl k,_,σ,pair (.iP k _),C,n⟩)))
    simp_all
theorem eu{x:Operand}(g:o.op=.nilCheck x)(h:(∃v off,au env x=.cp v off)\/(∃b off,au env x=.ref b off)\/(∃f l r,au env x=.fn (.func f) l r)\/∃b l hole off,au env x=.kp b l hole off)(i:K (au env x) σ):aJ P o env σ K Kp:=λk O c d j=>by
 have a:=d x (by simp[g,Op.operands])
 have:execOp c o=pure (.value (c x)):=by rcases h with⟨v,off,e⟩|⟨b,off,e⟩|⟨f,l,r,e⟩|⟨b,l,hole,off,e⟩<;>rw[e]at a<;>generalize m:c x=w at a<;>cases a<;>simp[execOp,g,m]
 rw[this];exact ah ⟨_,.inl rfl,.here ⟨.refl k,_,σ,a,j,i⟩⟩
theorem AM{x:Operand}{t:Nat}{y:AV}(c:o.op=.panic x)(e:au env x=.kD t y)(f:Kp (.kD t y) σ):aJ P o env σ K Kp:=λk O d a g=>by
 have b:=a x (by simp[c,Op.operands])
 rw[e]at b;generalize h:d x=w at b;cases b with
 | kD _ v _ i=>
   have:execOp d o=Sem.halt (.panic (.iface t v)):=by simp[execOp,c,h,Instr.panic,goPanic];rfl
   rw[this];exact⟨.refl k,_,σ,.kD _ _ _ i,g,f⟩
theorem AN{op:BinOp}{t F e:Nat}{x y:Operand}{i:TI}{kk:Nat}{es:List AV}{sp:cQ}{isNil:Bool}(r:o.op=.binOp op t x y F)(G:L.tt t=some i)(H:i.kind=.slice e)(I:au env y=.nil)
 (J:(au env x=.nil/\isNil=true)\/(au env x=.sl kk es sp/\es≠[]/\isNil=false)\/(au env x=.sl kk es sp/\sp≠.any/\isNil=false)){b:Bool}(l:(op=.eql/\b=isNil)\/(op=.neq/\b=!isNil)) (M:K (.lit (.bool b)) σ):aJ P o env σ K Kp:=
 aJ.val (s:=λf=>do eqGuard op t x y (f x) (f y);binOp op t (f x) (f y)) (λf=>by simp[execOp,r]) λk O f m N=>by
  have j:=m x (by simp[r,Op.operands])
  have u:=m y (by simp[r,Op.operands])
  rw[I]at u;have Q:f y=.slice none 0 0:=by generalize f y=w at u;cases u;rfl
  have z:∃a n c,f x=.slice a n c/\a.isNone=isNil:=by
   rcases J with⟨e,rfl⟩|⟨e,A,rfl⟩|⟨e,A,rfl⟩<;>rw[e]at j
   . generalize f x=w at j;cases j;simp_all
   . generalize f x=w at j
     cases j.FO with
     |nil=>simp_all
     |row=>simp_all
   . generalize f x=w at j
     cases j.FO with
     |nil a _ _ h=>simp_all
     |row=>simp_all
  obtain⟨a,n,c,z,E⟩:=z;rw[z,Q];have S:eqGuard op t x y (.slice a n c) (.slice none 0 0)=pure ():=by rcases l with⟨rfl,_⟩|⟨rfl,_⟩<;>simp[eqGuard]
  rw[S];refine ag (ah ?_)
  have fin:∀{s:Sem Value},s=(do pure (.bool b))->dk P s k O (λv p B=>ly p B λC T=>k.Le C/\∃a g,V C v a/\Rel C T g/\K a g) (λv p B=>k.Le p/\∃a g,V p v a/\Rel p B g/\Kp a g):=λe=>by rw[e];exact ah (.here ⟨.refl k,_,σ,.lit _,N,M⟩)
  have q:∀(R:Bool->ai->aj->Prop) (D:Value->ai->aj->Prop),R isNil k O->dk P (Op.equal t (.slice a n c) (.slice none 0 0)) k O R D:=λR D U=>by
   show dk P (Op.equalIn (9999+1) t (.slice a n c) (.slice none 0 0)) k O R D;rw[Op.equalIn];refine ag (aE L G λd _ hd=>?_)
   rw[bg hd H];cases a<;>simp at E<;>subst E<;>exact ah U
  rcases l with⟨rfl,rfl⟩|⟨rfl,rfl⟩
  . exact ag (s:=Op.equal t (.slice a n c) (.slice none 0 0)) (q _ _ (fin rfl))
  . exact ag (s:=Op.equal t (.slice a n c) (.slice none 0 0)) (q _ _ (fin rfl))
end
def C1(a:AV)(kk:Nat)(es:List AV):Prop:=(a=.nil/\es=[])\/∃sp,a=.sl kk es sp
def Tok(σ0 σ:aa)(a:AV)(kk:Nat)(es:List AV):Prop:=σ0.Le σ/\((a=.nil/\es=[])\/a=.sl kk es .exact\/∃b e,σ0 b=none/\a=.sl kk es (.tok b e)/\σ b=some (.tail e))
theorem Tok.QM{σ0 σ:aa}{a:AV}{kk:Nat}{es:List AV}(h:Tok σ0 σ a kk es):C1 a kk es:=by
 rcases h.2 with h|h|⟨b,e,_,h,_⟩
 . exact .inl h
 . exact .inr ⟨_,h⟩
 . exact .inr ⟨_,h⟩
theorem C1.W{a:AV}{kk:Nat}{es:List AV}(h:C1 a kk es):a.W (.sl kk es .any):=by
 rcases h with⟨rfl,rfl⟩|⟨sp,rfl⟩
 . exact cz kk
 . exact bQ kk es sp
theorem Tok.W{σ0 σ:aa}{a:AV}{kk:Nat}{es:List AV}(h:Tok σ0 σ a kk es):a.W (.sl kk es .any):=h.QM.W
theorem Tok.nil(σ:aa)(kk:Nat):Tok σ σ .nil kk []:=⟨λ_ _ h=>h,.inl ⟨rfl,rfl⟩⟩
theorem Tok.exact(σ:aa)(kk:Nat)(es:List AV):Tok σ σ (.sl kk es .exact) kk es:=⟨λ_ _ h=>h,.inr (.inl rfl)⟩
section
variable{P:Program}(L:hQ P){k:ai}{O:aj}{Kp:Value->ai->aj->Prop}
theorem xq{K:Unit->ai->aj->Prop}{b off N:Nat}{E:TypeId}:∀(vs:List Value) (i:Nat) (k:ai) (O:aj),O b=some (.tail (off+i))->k.sh b=some (E,N)->off+i+vs.length<=N->(∀v∈vs,flat v=true) ->
 (∀k' O',k.Le k'->(∀(j:Nat) v,vs[j]?=some v->k'.cell b (off+i+j)=some v)->O'=O.set b (.tail (off+i+vs.length))->K () k' O')->dk P (storeCells ⟨b,off,none⟩ vs i) k O K Kp:=by
 intro vs;induction vs with
 | nil=>
   intro i k O e f hlen g h;refine ah (h k O (.refl k) (λj v d=>by simp at d) ?_);funext x;by_cases a:x=b
   . subst a;simp[aj.set,e]
   . simp[aj.set,a]
 | cons v vs l=>
   intro i k O e f hlen g h;simp only[List.length_cons]at hlen;unfold storeCells;rw[fD];refine ag (s:=store ⟨b,off+i,none⟩ v) ⟨rfl,g v (by simp),rfl,.inr (.inl ⟨E,N,e,f,by grind,λm=>?_⟩)⟩;refine l (i+1) _ _ (by simp[aj.set];omega) f (by omega) (λu n=>g u (by simp[n])) λk' O' c p o=>?_
   refine h k' O' ((ai.Le.put m).trans c) (λj u d=>?_) ?_
   . cases j with
     |zero=>simp at d;subst d;exact c.cell _ _ _ (by simp[ai.put])
     |succ j=>grind
   . rw[o];funext x
     by_cases a:x=b
     . subst a;simp[aj.set];omega
     . simp[aj.set,a]
theorem nextslicecap_le{gu c:Nat}(h:c<gu):Builtin.nextslicecap gu c<=4*gu+2000:=by
 have g:∀(r c b:Nat),c<=b->Builtin.growBy gu r c<=max b ((gu+(gu+768) / 4)):=by
  intro r;induction r with
  |zero=>intro c b hb;simp only[Builtin.growBy];omega
  | succ r a=>
    intro c b hb;simp only[Builtin.growBy];split
    . omega
    grind
 unfold Builtin.nextslicecap;split
 . omega
 . split
   . omega
   . refine Nat.le_trans (g 4 c gu (by omega)) (by omega)
theorem oH{K:Array Value->ai->aj->Prop}{v:Value}{a:AV}{kk:Nat}{es:List AV}{n:Nat}(g:V k v a)(i:C1 a kk es)(l:n<=es.length)
 (h:∀c:Array Value,c.size=n*kk->(∀(j:Nat) u x,c[j]?=some u->(flatten es)[j]?=some x->V k u x)->(∀(j:Nat) u,c[j]?=some u->flat u=true)->K c k O):dk P (Builtin.firstCells kk n v) k O K Kp:=by
 rcases i with⟨rfl,rfl⟩|⟨sp,rfl⟩
 . cases g
   have:n=0:=by simp_all
   subst this;exact ah (h #[] (by simp) (λj u x d=>by simp at d) (λj u d=>by simp at d))
 . cases g.FO with
   | nil a=>
     have:n=0:=by simp_all
     subst this;have e:Builtin.firstCells kk 0 (.slice a 0 0)=pure #[]:=by cases a<;>simp[Builtin.firstCells,loadCells,loadCellsFrom]
     rw[e];exact ah (h #[] (by simp) (λj u x d=>by simp at d) (λj u d=>by simp at d))
   | row b off cap _ N E _ _ t w y m o z=>
     unfold Builtin.firstCells loadCells;have f:=bc m;have p:n*kk<=(flatten es).length:=by rw[f];exact Nat.mul_le_mul_right kk l
     rw[show(⟨b,off,none⟩:Addr)=⟨b,off+0,none⟩by rfl]
     refine iz (o O) (n*kk) 0 #[] (by omega) λvs q r s=>?_
     grind
theorem Ij{K:Nat->ai->aj->Prop}{v:Value}{a:AV}{kk:Nat}{es:List AV}(b:V k v a)(e:C1 a kk es)(d:K es.length k O):dk P (Builtin.lenOf v) k O K Kp:=by
 rcases e with⟨rfl,rfl⟩|⟨sp,rfl⟩
 . cases b;exact ah d
 . obtain⟨x,c,rfl⟩:=b.FO.len;exact ah d
end
theorem tY{P:Program}{k:ai}{O:aj}{Kp:Value->ai->aj->Prop}{K:Addr->ai->aj->Prop}{E:TypeId}{c:Array Value}{n:Nat}(t:n<=c.size)
 (i:∀r k' O',EK k O r->(ly k' O' λf l=>k.Le f/\(∀j v,j<n->c[j]?=some v->f.cell r j=some v)/\f.sh r=some (E,c.size)/\(∀σ,Rel k O σ->Rel f l (σ.set r (.tail n))))->K ⟨r,0,none⟩ k' O'):dk P (newRow E c) k O K Kp:=by
 refine ag (s:=newObj (.cells c E)) ⟨rfl,λr g=>ah (i r _ _ g ?_)⟩
 obtain⟨f1,m,o⟩:=g;have a:k.Le (k.made r (.cells c E)):=.made o;have d:∀j,(k.made r (.cells c E)).cell r j=none:=m;refine⟨_,_,mQ (n:=n) (c:=c) (e:=E) (r:=r) (by simp[aj.set]) (by simp[ai.made,ai.dQ]),a.trans (.uT d),λj v p q=>by simp only[ai.uT,true_and,p,if_true];exact q,by simp[ai.uT,ai.made,ai.dQ],λσ h=>?_⟩
 have:((O.set r (.obj (.cells c E))).set r (.tail n))=O.set r (.tail n):=by funext b;by_cases hb:b=r<;>simp[aj.set,hb]
 rw[this];exact(h.mono (a.trans (.uT d))).set (.tail n)
section
variable{P:Program}(L:hQ P){o:Oper}{env:Env}{σ:aa}{K:AV->aa->Prop}{Kp:AV->aa->Prop}
theorem s8{k:ai}{O:aj}{Kp:Value->ai->aj->Prop}{K:Unit->ai->aj->Prop}{n:Nat}(h:K () k O):dk P (askRoom n) k O K Kp:=by
 unfold askRoom;split
 . exact⟨rfl,h⟩
 . exact h
theorem aR{s x:Operand}{I:Array TypeId}{t t2 e e2:Nat}{it a8 g:TI}{σ0:aa}{es xs:List AV}(ho:o.op=.call ⟨.builtin .append,#[s,x],I⟩)(h0:I[0]?=some t)(h1:I[1]?=some t2)(ht:L.tt t=some it)(hk:it.kind=.slice e)
 (ax:L.tt t2=some a8) (ay:a8.kind=.slice e2) (he:L.tt e=some g) (hb:g.bytes<=1024) (hlen:es.length+xs.length<=1073741824) (hs:Tok σ0 σ (au env s) g.size es) (J:C1 (au env x) g.size xs)
 (hK:∀a' σ',Tok σ0 σ' a' g.size (es++xs)->K a' σ'):aJ P o env σ K Kp:=λk O ρ hv S=>by
 have D:=hv s (by simp[ho,Op.operands,Call.operands])
 have w:=hv x (by simp[ho,Op.operands,Call.operands])
 have:execOp ρ o=(do pure (Next.value (<-Builtin.append_ I o.type #[ρ s,ρ x]))):=by simp[execOp,ho,resolve,invoke,builtin]
 rw[this];refine ag ?_;have b1:g.zero.cells.size=g.size:=by obtain⟨_,_,_,_,_,_,h⟩:=L.facts he;exact h
 have b2:∃base cap,ρ s=.slice base es.length cap/\((((au env s=.nil/\base=none)\/(au env s=.sl g.size [] .exact/\∃a,base=some a))/\cap=0/\es=[])\/
  ∃ b off N E sp,base=some ⟨b,off,none⟩/\au env s=.sl g.size es sp/\es.length<=cap/\k.sh b=some (E,N)/\off+cap*g.size<=N/\(∀e∈es,e.cells.length=g.size)/\
    (∀(j:Nat) a,(flatten es)[j]?=some a->∃v,k.cell b (off+j)=some v/\V k v a/\bu.flat v=true)/\sp.fits b off es.length g.size cap/\(sp=.exact\/∃e,σ0 b=none/\sp=.tok b e/\σ b=some (.tail e))):=by
  rcases hs.2 with⟨h,rfl⟩|h|⟨b,en,a9,h,F⟩<;>rw[h]at D
  . generalize ρ s=v at D;cases D;simp_all
  . rcases D.jW with⟨a0,q0,rfl,q⟩|⟨b,off,cap,N,E,q1,q2,q3,q4,q5,q6,q7⟩
    . rcases q with q|⟨_,q⟩
      . cases q
      . cases a0 with
        |none=>cases q
        |some a0=>grind
    grind
  . rcases D.jW with⟨_,_,_,q⟩|⟨b',off,cap,N,E,q1,q2,q3,q4,q5,q6,q7⟩
    . simp_all
    . obtain⟨rfl,_⟩:=id q7
      grind
 obtain⟨base,cap,ab,M⟩:=b2;have l:=hs.1;unfold Builtin.append_;simp only[h0,h1,List.getElem?_toArray,List.getElem?_cons_zero,List.getElem?_cons_succ];refine ag (aE L ht λd _ hd=>?_)
 rw[bg hd hk,ab];dsimp only;refine ag (bf L he ?_);refine ag (aE L ax λd2 _ T=>?_)
 rw[bg T ay];refine ag (ah ?_);dsimp only;simp only[Bool.false_eq_true,if_false,Bool.not_false,if_true];refine ag (Ij w J ?_)
 by_cases m:es.length+xs.length<=cap
 ·
  rw[if_pos m];refine ag (oH w J (Nat.le_refl _) λc U W Q=>?_)
  rcases M with⟨⟨B,rfl⟩|⟨B,a0,rfl⟩,rfl,rfl⟩|⟨b,off,N,E,sp,rfl,B,g1,g2,g3,g4,g5,g6,rfl|⟨en,a9,rfl,F⟩⟩
  . have A:xs=[]:=by simp_all
    subst A;dsimp only;refine ah ?_;refine ah ⟨_,.inl rfl,.here ⟨.refl k,.nil,σ,?_,S,hK _ _ ⟨l,.inl ⟨rfl,rfl⟩⟩⟩⟩
    simp_all
  . have A:xs=[]:=by simp_all
    subst A
    have X:c.toList=[]:=by simp_all
    dsimp only;rw[X];refine ag (ah ?_);refine ah (ah ⟨_,.inl rfl,.here ⟨.refl k,.sl g.size [] .exact,σ,?_,S,hK _ _ ⟨l,.inr (.inl (by simp))⟩⟩⟩)
    simp_all
  . have bA:cap=es.length:=g6
    have A:xs=[]:=by cases xs with|nil=>rfl|cons _ _=>grind
    subst A
    have X:c.toList=[]:=by simp_all
    dsimp only;rw[X];refine ag (ah ?_);refine ah (ah ⟨_,.inl rfl,.here ⟨.refl k,.sl g.size es .exact,σ,?_,S,hK _ _ ⟨l,.inr (.inl (by simp))⟩⟩⟩)
    simp_all
  . obtain ⟨_,c7⟩:=g6
    obtain⟨y,hO,hy⟩:=S.1 b _ F (by simp)
    cases hy;dsimp only;rw[fD]
    have ca:(flatten xs).length=c.size/\∀e∈xs,e.cells.length=g.size:=by
     rcases J with⟨_,rfl⟩|⟨sp,J⟩
     . exact⟨by simp[flatten];simp_all,by simp⟩
     . rw[J]at w
       rcases w.jW with⟨_,_,rfl,_⟩|⟨_,_,_,_,_,_,_,_,_,q5,_⟩
       . exact⟨by simp[flatten];simp_all,by simp⟩
       . exact⟨by rw[bc q5,U],q5⟩
    have hmul:off+(es.length+xs.length)*g.size<=N:=Nat.le_trans (Nat.add_le_add_left (Nat.mul_le_mul_right _ m) off) g3;rw[Nat.add_mul]at hmul;refine ag (xq c.toList 0 k O (by simp_all) g2 (by grind) (λu hu=>?_) λk' O' i p b3=>?_)
    . obtain⟨j,hj,rfl⟩:=List.mem_iff_getElem.1 hu
      exact Q j _ (by simp_all)
    . refine ah (ah ⟨_,.inl rfl,.here ⟨i,.sl g.size (es++xs) (.tok b (off+(es++xs).length*g.size)),σ.set b (.tail (off+(es++xs).length*g.size)),?_,?_,hK _ _ ⟨?_,.inr (.inr ⟨b,_,a9,rfl,by simp[aa.set]⟩)⟩⟩⟩)
      . rw [show es.length+xs.length=(es++xs).length by simp]
        refine V.ofRow (by simp_all) (i.sh _ _ g2) g3 (λz hz=>?_) (λj a B=>?_) ⟨rfl,rfl⟩
        . grind
        . rw[flatten_append]at B
          by_cases hj:j<(flatten es).length
          . rw[List.getElem?_append_left hj]at B
            obtain⟨u,hu,b4,b5⟩:=g5 j a B;exact⟨u,i.cell _ _ _ hu,b4.mono i,b5⟩
          . rw[List.getElem?_append_right (by omega)]at B
            have G:j-(flatten es).length<c.size:=by grind
            have C:c[j-(flatten es).length]?=some c[j-(flatten es).length]:=by simp[G]
            refine⟨_,?_,(W _ _ a C B).mono i,Q _ _ C⟩;have:=p (j-(flatten es).length) _ (by rw[Array.getElem?_toList];exact C)
            rw[<-this];congr 1;have b6:=bc g4;omega
      . rw[b3]
        have:off+es.length*g.size+0+c.toList.length=off+(es++xs).length*g.size:=by grind
        rw[this];exact(S.mono i).set (.tail _)
      . intro b' y hy
        have:b'≠b:=λq=>by simp_all
        simp[aa.set,this,l b' y hy]
 ·
  rw[if_neg m]
  have ad:¬((es.length+xs.length:Nat):Int)>IntKind.i64.max:=by have:IntKind.i64.max=9223372036854775807:=rfl;omega
  refine ag (cV L he λinfo _ _ cb _=>?_)
  rw[if_neg (λq=>ad q.1)]
  refine ag (cV L he λY _ _ al _=>?_)
  have Z:=nextslicecap_le (Nat.lt_of_not_le m)
  have a7:¬(Builtin.nextslicecap (es.length+xs.length) cap*Y.bytes>2 ^ 48):=by rw[al];have h1:Builtin.nextslicecap (es.length+xs.length) cap*g.bytes<=(4*(es.length+xs.length)+2000)*1024:=Nat.mul_le_mul Z hb;omega
  rw[if_neg a7];refine ag (s:=choose _) (λt=>?_)
  have H:(Question.appendCap (es.length+xs.length) cap e).forced=false:=rfl;rw[H];simp only[Bool.false_eq_true,if_false];have b7:∃f,(Question.appendCap (es.length+xs.length) cap e).cut t=f/\es.length+xs.length<=f:=⟨_,rfl,by simp only[Question.cut];omega⟩
  obtain⟨f,ar,bB⟩:=b7;rw[ar];refine ah ?_;refine ag (cV L he λb8 _ _ _ _=>?_)
  refine ag (s8 ?_);refine ag (oH (a:=au env s) (by grind) hs.QM (Nat.le_refl _) λc U W Q=>?_)
  refine ag (oH w J (Nat.le_refl _) λd b9 T bm=>?_)
  refine ag (cD L he ?_)
  have br:∀e∈es,e.cells.length=g.size:=by grind
  have A:∀e∈xs,e.cells.length=g.size:=by
   rcases J with⟨_,rfl⟩|⟨sp,J⟩
   . simp
   . rw[J]at w
     rcases w.jW with⟨_,_,rfl,_⟩|⟨_,_,_,_,_,_,_,_,_,q5,_⟩
     . simp
     . exact q5
  have bw:(Builtin.zeroCells g.zero.cells (f-(es.length+xs.length))).size=(f-(es.length+xs.length))*g.size:=by simp[Builtin.zeroCells,b1]
  refine ag (tY (n:=(es.length+xs.length)*g.size) ?_ λr k' O' R ht=>ah (ah ⟨_,.inl rfl,?_⟩))
  . grind
  . obtain ⟨k2,O2,hg,i,p,bx,c6⟩:=ht
    refine⟨k2,O2,hg,i,.sl g.size (es++xs) (.tok r ((es++xs).length*g.size)),σ.set r (.tail ((es++xs).length*g.size)),?_,?_,hK _ _ ⟨?_,.inr (.inr ⟨r,_,?_,rfl,by simp[aa.set]⟩)⟩⟩
    . rw [show es.length+xs.length=(es++xs).length by simp]
      refine V.ofRow (by grind) bx ?_ (λz hz=>?_) (λj a B=>?_) ⟨rfl,by omega⟩
      . simp only[Array.size_append,U,b9,bw]
        have:f*g.size=(es.length+xs.length)*g.size+(f-(es.length+xs.length))*g.size:=by rw[<-Nat.add_mul];grind
        grind
      . grind
      . rw [flatten_append]at B
        have b6:=bc br;have cg:=bc A;rw[Nat.zero_add]
        by_cases hj:j<(flatten es).length
        . rw[List.getElem?_append_left hj]at B
          have G:j<c.size:=by omega
          have C:c[j]?=some c[j]:=by simp[G]
          refine⟨c[j],p j _ ?_ ?_,(W j _ a C B).mono i,Q j _ C⟩
          . grind
          grind
        . rw[List.getElem?_append_right (by omega)]at B
          have G:j-(flatten es).length<d.size:=by grind
          have av:d[j-(flatten es).length]?=some d[j-(flatten es).length]:=by simp[G]
          refine⟨_,p j _ ?_ ?_,(T _ _ a av B).mono i,bm _ _ av⟩
          . grind
          grind
    . grind
    . intro b' y hy
      have h1:=l b' y hy;have:b'≠r:=λq=>by rw[q,S.isNone R.1 R.2.2]at h1;cases h1
      simp[aa.set,this,h1]
    . cases q:σ0 r with
      |none=>rfl
      |some y=>have:=l r y q;rw[S.isNone R.1 R.2.2]at this;cases this
end
end Go.bu

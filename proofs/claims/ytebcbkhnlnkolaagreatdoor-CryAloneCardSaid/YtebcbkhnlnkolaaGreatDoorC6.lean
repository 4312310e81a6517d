import Derived.Conc.CrowdTrace
import Derived.Test.YtebcbkhnlnkolaaGreatDoorC5
set_option linter.all false
namespace Go.bN
open Go.Conc
def ChanAt(w:World)(b:Nat):Prop:=∃cap buf cl s r a,w.heap[b]?=some (.chan cap buf cl s r a)
def Kept(kk:afm)(OO:afl)(w w':World)(b:Nat):Prop:=
 w'.heap[b]?=w.heap[b]?\/(ChanAt w b/\ChanAt w' b/\∀i,OO i b=none)\/
 ∃c a e,w.heap[b]?=some (.cells c e (0,0))/\w'.heap[b]?=some (.cells a e (0,0))/\a.size=c.size/\(∀i x,OO i b=some x->∃f,x=.part f/\∀n,f n≠none->a[n]?=c[n]?)/\∀n,a[n]?=c[n]?\/∀i,(kk i).cell b n=none
def Calm(Z:Base)(w w':World):Prop:=(oE w.os w'.os/\w'.output=w.output)/\∀b,b<Z.W0.heap.size->w'.heap[b]?=w.heap[b]?
def NU(kk:afm)(OO:afl)(B:Nat):Loc->Prop
 |.cell a=>a.block<B/\∀i,¬aZ (OO i) a.block a.off/\(kk i).cell a.block a.off=none
 |.obj r=>r<B/\∀i o,OO i r≠some (.obj o)
 |_=>True
def Told(Z:Base)(J M:afa)(t:Trace)(n:Nat)(a:Touch):Prop:=Knows t 0 n\/(∃j,J j/\Knows t j n)\/(∃p,M p/\Before t n p)\/(Z.Shun a.loc/\a.kind=.atomic/\(t.counts n->n<Z.N0))
def Cq{t B}(h:∀op∈t,op.act.low B){n a}(c:touchAt t n=some a):match a.loc with|.cell ad=>ad.block<B|.obj r=>r<B|_=>True:=by
 obtain⟨x,d,b⟩:=touch_of c;have:=h x (acb d);obtain⟨f,fn,pos,act⟩:=x;cases act with
 |access e=>simp only[MemAct.touch?,kn]at b;subst b;simp only[MemAct.low,Loc.low]at this;omega
 |mark m=>cases m<;>simp_all [MemAct.touch?,MemAct.low]<;>(subst b;simpa using this)
 |_=>simp[MemAct.touch?]at b
section
variable{Z:Base}{kk:afm}{OO:afl}{J M:afa}{w:World}{t:Trace}
def cV.wG(h:cV Z kk OO J M w t)(Fl:Nat->afa){u w' kk' OO' J' M'}
 (U:w'.heap.size=w.heap.size) (V:Calm Z w w') (hb:∀b,Kept kk OO w w' b) (z:∀op∈u,op.act.low w.heap.size)
 (a9:∀i j,Fl i j->∀n a,touchAt t n=some a->a.loc.isMemory=true -> ¬Z.Shun a.loc->K4 Z t i n->K4 Z (t++u) j n)
 (O:∀j b n v,(kk' j).cell b n=some v->∃i,Fl i j/\(kk i).cell b n=some v)
 (hs:∀j b s,(kk' j).sh b=some s->∃i,Fl i j/\(kk i).sh b=some s)
 (D:∀j b x,OO' j b=some x->∃i,Fl i j/\OO i b=some x/\∀s,(kk i).sh b=some s->(kk' j).sh b=some s)
 (hd:∀i j b x,i≠j->OO' i b=some x->OO' j b=none)
 (hr:∀said,¬Race said (t++u))
 (hu:∀op∈u,∀a,op.act.touch?=some a->a.loc.isMemory=true->NU kk OO w.heap.size a.loc)
 (W:∀m op a,u[m]?=some op->op.act.touch?=some a->a.loc.isMemory=true->Told Z J' M' (t++u) (t.size+m) a)
 (S:∀n a,touchAt t n=some a->a.loc.isMemory=true->((∃j,J j/\Knows t j n)\/(∃p,M p/\Before t n p))->Told Z J' M' (t++u) n a):cV Z kk' OO' J' M' w' (t++u):=by
 have F:∀j b n,aZ (OO' j) b n->∃i,Fl i j/\aZ (OO i) b n:=λj b n y=>by
  rcases y with⟨o,q⟩|⟨m,q,A⟩|⟨f,q,A⟩
  . obtain⟨i,d,g,_⟩:=D j b _ q;exact⟨i,d,.inl ⟨o,g⟩⟩
  . obtain⟨i,d,g,_⟩:=D j b _ q;exact⟨i,d,.inr (.inl ⟨m,g,A⟩)⟩
  obtain⟨i,d,g,_⟩:=D j b _ q;exact⟨i,d,.inr (.inr ⟨f,g,A⟩)⟩
 have al:∀i j b n v,(kk i).cell b n=some v -> ¬aZ (OO j) b n:=λi j b n v N=>by
  by_cases e:i=j
  . subst e;exact(h.sat i).apart b n v N
  exact h.qh j i b n v (zs e) N
 have B:∀i b x,OO i b=some x->(∀f,x≠.part f)->w'.heap[b]?=w.heap[b]?:=λi b x P av=>by
  rcases hb b with d|⟨_,_,d⟩|⟨_,_,_,_,_,_,d,_⟩
  . exact d
  . simp_all
  grind
 have hold:∀{n:Nat}{a:Touch},touchAt (t++u) n=some a->(touchAt t n=some a/\n<t.size)\/∃m op,u[m]?=some op/\op.act.touch?=some a/\n=t.size+m:=λ{n a} S=>by
  obtain⟨x,P,X⟩:=touch_of S;by_cases hn:n<t.size
  . rw[aei hn]at P
    exact .inl ⟨by rw[touchAt_of P];exact X,hn⟩
  grind
 refine⟨λj=>⟨λb n v N y=>?_,λb n v N=>?_,λb s Y=>?_,λb o C=>?_,λb n a7=>?_,λb f a8=>?_⟩,hd,λi j b n v ax N y=>?_,λj n a I A=>?_,hr,λop E=>?_,λn a I A=>?_,by simp;exact aap h.n0 (adh _ _),h.FO _,λa G=>?_,λr G=>?_,h.BP.step V.1.1 V.1.2 (by omega) V.2,λj b x P=>by obtain⟨i,_,d,_⟩:=D j b x P;exact h.mine i b x d⟩
 . grind
 . obtain⟨i,_,d⟩:=O j b n v N
   have g:=(h.sat i).cell b n v d;rcases hb b with k|⟨⟨_,_,_,_,_,_,k⟩,_⟩|⟨c,c',e,k,Q,h5,_,T⟩
   . simpa only[World.cell?,k]using g
   . simp[World.cell?,k]at g
   rcases T n with T|T
   . simp only[World.cell?,k,Q]at g ⊢
     grind
   grind
 . obtain⟨i,_,d⟩:=hs j b s Y
   have g:=(h.sat i).sh b s d;rcases hb b with k|⟨⟨_,_,_,_,_,_,k⟩,_⟩|⟨c,c',e,k,Q,h5,_,T⟩
   . simpa only[World.shape?,k]using g
   . simp[World.shape?,k]at g
   simp only[World.shape?,k,Q]at g ⊢
   grind
 . obtain⟨i,_,d,_⟩:=D j b _ C
   rw[B i b _ d (λ_ e=>by cases e)];exact(h.sat i).obj b o d
 . obtain⟨i,_,d,g⟩:=D j b _ a7
   rw[B i b _ d (λ_ e=>by cases e)];obtain⟨c,e,k,Q⟩:=(h.sat i).tail b n d
   grind
 . obtain⟨i,_,d,g⟩:=D j b _ a8
   obtain⟨c,e,k,Q,h5⟩:=(h.sat i).part b f d;rcases hb b with q|⟨_,_,q⟩|⟨c0,c1,e0,q1,q2,q3,q4,_⟩
   . grind
   . grind
   grind
 . grind
 . rcases hold I with⟨l,R⟩|⟨m,op,d,g,rfl⟩
   . by_cases hK:∃i,Fl i j/\K4 Z t i n/\¬Z.Shun a.loc
     . grind
     refine .inr ?_;have H:=Cq h.seen l
     have K:∀i,Fl i j->sD (kk i) (OO i) w.heap.size a:=λi hi=>by
      by_cases G:Z.Shun a.loc
      . unfold sD
        split
        . next L z=>rw[z]at G;have:=h.nN L G;grind
        . next r z=>rw[z]at G;have:=h.rS r G;grind
        trivial
      rcases h.DX i n a l A with d|d
      . grind
      exact d
     unfold sD;split
     . next L z=>
       rw[z]at H;refine⟨by omega,λy=>?_,?_⟩
       . obtain⟨i,d,g⟩:=F j _ _ y
         have:=K i d;unfold sD at this
         grind
       cases q:(kk' j).cell L.block L.off with
       |none=>grind
       | some v=>
         obtain⟨i,d,g⟩:=O j _ _ v q;have:=K i d;unfold sD at this
         grind
     . next r z=>
       rw[z]at H;refine⟨by omega,λo C=>?_⟩;obtain⟨i,d,g,_⟩:=D j r _ C;have:=K i d;unfold sD at this
       grind
     trivial
   refine .inr ?_;have:=hu op (acb d) a g A;unfold sD;split
   . next L z=>
     rw[z]at this;refine⟨by rw[U];exact this.1,λy=>?_,.inl ?_⟩
     . obtain⟨i,_,k⟩:=F j _ _ y
       exact(this.2 i).1 k
     cases q:(kk' j).cell L.block L.off with
     |none=>rfl
     |some v=>obtain⟨i,_,k⟩:=O j _ _ v q;rw[(this.2 i).2]at k;cases k
   . next r z=>
     rw[z]at this;refine⟨by rw[U];exact this.1,λo C=>?_⟩;obtain⟨i,_,k,_⟩:=D j r _ C;exact this.2 i o k
   trivial
 . rw[U]
   rcases Array.mem_append.1 E with E|E
   . exact h.seen op E
   grind
 . rcases hold I with⟨l,R⟩|⟨m,op,d,g,rfl⟩
   . rcases h.acc n a l A with d|d|d|d
     . exact .inl (d.app _)
     . exact S n a l A (.inl d)
     . exact S n a l A (.inr d)
     exact .inr (.inr (.inr ⟨d.1,d.2.1,λO=>d.2.2 ((uB R).1 O)⟩))
   exact W m op a d g A
 . obtain⟨d,g⟩:=h.nN a G
   refine⟨by omega,λj=>⟨λy=>?_,?_⟩⟩
   . grind
   cases q:(kk' j).cell a.block a.off with
   |none=>rfl
   |some v=>grind
 obtain⟨d,g⟩:=h.rS r G
 grind
def cV.Xc(h:cV Z kk OO J M w t){z}(L:z≠Z.lk){b f}(hb:∀i,OO i b=none)(Q:∀n v,f n=some v->∀i,(kk i).cell b n=none)
 (R:∀ad ,ad.block=b->f ad.off≠none -> ¬Z.Shun (.cell ad)) (S:∃c e,w.heap[b]?=some (.cells c e (0,0))/\(kk z).sh b=some (e,c.size)/\∀n v,f n=some v->c[n]?=some v)
 (N:∀m a ad,touchAt t m=some a->a.loc=.cell ad->ad.block=b->f ad.off≠none->Knows t z m) (G:Z.W0.heap.size<=b):cV Z kk (cz OO z ((OO z).set b (.part f))) J M w t:=by
 have O:∀n,f n≠none->∀i,(kk i).cell b n=none:=λn T i=>by
  cases q:f n with
  |none=>simp_all
  |some v=>simp_all
 have s:∀c n,aZ ((OO z).set b (.part f)) c n->aZ (OO z) c n\/(c=b/\f n≠none):=λc n k=>by
  by_cases d:c=b
  . subst d
    rcases k with⟨o,q⟩|⟨m,q,_⟩|⟨g,q,B⟩
    . simp[an.set]at q
    . simp[an.set]at q
    simp only[an.set,aay,kn,Own.part.injEq]at q
    simp_all
  exact .inl (by simpa[aZ,an.set,d]using k)
 have P:Sat (kk z) ((OO z).set b (.part f)) w:=by
  refine⟨λc n v D k=>?_,(h.sat z).cell,(h.sat z).sh,λc o k=>?_,λc n k=>?_,λc g k=>?_⟩
  . rcases s c n k with k|⟨rfl,B⟩
    . exact(h.sat z).apart c n v D k
    simp_all
  . by_cases d:c=b
    . subst d;simp[an.set]at k
    exact(h.sat z).obj c o (by simpa[an.set,d]using k)
  . by_cases d:c=b
    . grind
    exact(h.sat z).tail c n (by simpa[an.set,d]using k)
  by_cases d:c=b
  . subst d
    simp only[an.set,aay,kn,Own.part.injEq]at k
    simp_all
  exact(h.sat z).part c g (by simpa[an.set,d]using k)
 have H:b<w.heap.size:=by grind
 refine⟨λi=>?_,λi j c x u E=>?_,λi j c n v u D k=>?_,λi n a y I=>?_,h.clean,h.seen,h.acc,h.n0,h.z7,λa y=>⟨(h.nN a y).1,λi=>⟨λk=>?_,((h.nN a y).2 i).2⟩⟩,λr F=>⟨(h.rS r F).1,λi o k=>?_⟩,h.BP,λi c x k=>?_⟩
 . by_cases p:z=i
   . subst p;rw[au];exact P
   rw[aA _ _ (zs p)];exact h.sat i
 . by_cases d:c=b
   . subst d
     by_cases K:z=j
     . subst K
       rw[aA _ _ u,hb i]at E;cases E
     rw[aA _ _ (zs K)];exact hb j
   have e:∀l,cz OO z ((OO z).set b (.part f)) l c=OO l c:=λl=>by
    by_cases A:z=l
    . subst A;rw[au];simp[an.set,d]
    rw[aA _ _ (zs A)]
   rw[e]at E ⊢;exact h.kO i j c x u E
 . by_cases p:z=i
   . subst p
     rw[au]at k;rcases s c n k with k|⟨rfl,B⟩
     . exact h.qh z j c n v u D k
     simp_all
   rw[aA _ _ (zs p)]at k;exact h.qh i j c n v u D k
 . by_cases p:z=i
   . subst p
     rw[au];rcases h.DX z n a y I with C|C
     . grind
     unfold sD at C ⊢;split
     . next ad A=>
       rw[A]at C;by_cases B:ad.block=b/\f ad.off≠none
       . exact .inl ((qR L).2 (N n a ad y A B.1 B.2))
       grind
     . next r A=>
       rw[A]at C;refine .inr ⟨C.1,λo k=>?_⟩;by_cases d:r=b
       . subst d;simp[an.set]at k
       exact C.2 o (by simpa[an.set,d]using k)
     simp_all
   rw[aA _ _ (zs p)];exact h.DX i n a y I
 . by_cases p:z=i
   . subst p
     rw[au]at k;rcases s _ _ k with k|⟨e,B⟩
     . exact((h.nN a y).2 z).1 k
     simp_all
   rw[aA _ _ (zs p)]at k;exact((h.nN a y).2 i).1 k
 . by_cases p:z=i
   . subst p
     rw[au]at k;by_cases d:r=b
     . subst d;simp[an.set]at k
     exact(h.rS r F).2 z o (by simpa[an.set,d]using k)
   rw[aA _ _ (zs p)]at k;exact(h.rS r F).2 i o k
 by_cases p:z=i
 . subst p
   rw[au]at k;by_cases d:c=b
   . omega
   exact h.mine z c x (by simpa[an.set,d]using k)
 rw[aA _ _ (zs p)]at k;exact h.mine i c x k
def vm  b :an.bot b=none:=rfl
def cV.start{P k O g gs w W0 t}(h:eV P W0 k O g gs w t)  lk   la  (A:0≠lk):
 ∃Z ,Z.N0=t.size/\Z.lk=lk/\Z.la=la/\Z.W0=W0/\gs[0]?=some g/\(∃q,Leavers P t gs q)/\Deaf t 0=0/\cV Z (cz (λ_=>ar.bot) 0 k) (cz (λ_=>an.bot) 0 O) (λ_=>False) (λ_=>False) w t/\∀n a,touchAt t n=some a->a.loc.isMemory=true->Knows t 0 n\/(Z.Shun a.loc/\a.kind=.atomic):=by
 obtain⟨Shun,q,L,M,d,B,N,Q,C,R⟩:=h;refine⟨⟨Shun,t.size,lk,la,W0⟩,rfl,rfl,rfl,rfl,L,⟨q,M⟩,d.hears,?_,d.known⟩
 have l:∀i,i=0\/(cz (λ_=>ar.bot) 0 k i=ar.bot/\cz (λ_=>an.bot) 0 O i=an.bot):=λi=>by
  by_cases u:i=0
  . omega
  exact .inr ⟨aA _ _ u,aA _ _ u⟩
 refine⟨λi=>?_,λi j b x m p=>?_,λi j b n v m I=>?_,λi n a s D=>?_,d.clean,d.seen,λn a s D=>?_,aav _,λn g V S E F=>d.over n g S E F,λa s=>?_,λr T=>?_,C,λi b x p=>?_⟩
 . rcases l i with rfl|⟨y,f⟩
   . rw[au,au];exact Q
   rw[y,f];exact⟨λ_ _ _ h=>(by cases h),λ_ _ _ h=>(by cases h),λ_ _ h=>(by cases h),λ_ _ h=>(by cases h),λ_ _ h=>(by cases h),λ_ _ h=>(by cases h)⟩
 . rcases l i with rfl|⟨_,e⟩
   . rw[aA _ _ (zs m)];rfl
   rw[e]at p;cases p
 . rcases l j with rfl|⟨e,_⟩
   . rw[aA _ _ m];exact fA (vm b)
   rw[e]at I;cases I
 . have c:=Cq d.seen s
   have J:sD ar.bot an.bot w.heap.size a:=by
    unfold sD;split
    . next W G=>rw[G]at c;exact⟨c,fA (vm _),.inl rfl⟩
    . next r G=>rw[G]at c;exact⟨c,λo B=>by cases B⟩
    trivial
   rcases l i with rfl|⟨y,f⟩
   . rw[au,au]
     rcases d.known n a s D with z|⟨z,K⟩
     . exact .inl ((qR A).2 z)
     refine .inr ?_;unfold sD
     grind
   simp_all
 . rcases d.known n a s D with z|⟨z,K⟩
   . grind
   refine .inr (.inr (.inr ⟨z,K,λ_=>?_⟩));obtain⟨x,p,_⟩:=touch_of s
   grind
 . obtain⟨H,U,X⟩:=B a s
   refine⟨H,λi=>?_⟩;rcases l i with rfl|⟨y,f⟩
   . rw[au,au];simp_all
   rw[y,f];exact⟨fA (vm _),rfl⟩
 . obtain⟨H,U⟩:=N r T
   refine⟨H,λi o u=>?_⟩;rcases l i with rfl|⟨y,f⟩
   . rw[au]at u;grind
   rw[f]at u;cases u
 rcases l i with rfl|⟨_,f⟩
 . rw[au]at p;simp_all
 rw[f]at p;cases p
def cV.finish{P g gs q}(h:cV Z kk OO (λ_=>False) (λ_=>False) w t)(m:gs[0]?=some g)(o:Leavers P t gs q)(hd:Deaf t 0=0):eV P Z.W0 (kk 0) (OO 0) g gs w t:=by
 refine⟨Z.Shun,q,m,o,⟨h.clean,λn a c d=>?_,λn s j e f=>?_,hd,h.seen⟩,λa c=>?_,λr k=>?_,h.sat 0,h.BP,h.mine 0⟩
 . rcases h.acc n a c d with b|⟨_,b,_⟩|⟨_,b,_⟩|⟨b,x,_⟩
   . grind
   . grind
   . grind
   simp_all
 . by_cases u:n<Z.N0
   . exact h.z7 n s u j e f
   have v:=f;obtain⟨a,c,d,_⟩:=f;rcases h.acc n a c d with b|⟨_,b,_⟩|⟨_,b,_⟩|⟨_,_,b⟩
   . obtain⟨p,z,l,i,hb⟩:=b
     rcases hb with rfl|hb
     . rw[Trace.g?,l]at j
       simp_all
     exact⟨p,by simp[Trace.g?,l,i],hb⟩
   . grind
   . grind
   simp_all
 . exact⟨(h.nN a c).1,((h.nN a c).2 0).1,((h.nN a c).2 0).2⟩
 exact⟨(h.rS r k).1,(h.rS r k).2 0⟩
def cV.vn(h:cV Z kk OO J M w t)(S:Loc->Prop)(c:∀a,S (.cell a)->a.block<w.heap.size/\∀i,¬aZ (OO i) a.block a.off/\(kk i).cell a.block a.off=none)(d:∀r,¬S (.obj r)):
 cV ⟨λl=>Z.Shun l\/S l,Z.N0,Z.lk,Z.la,Z.W0⟩ kk OO J M w t:=
 ⟨h.sat,h.kO,h.qh,h.DX,h.clean,h.seen,λn a b e=>(h.acc n a b e).imp id (·.imp id (·.imp id λx=>⟨.inl x.1,x.2⟩)),h.n0,h.z7,
   λa b=>b.elim (h.nN a) (c a),λr f=>f.elim (h.rS r) (λx=>absurd x (d r)),h.BP,h.mine⟩
end
def mD(u:Trace):Prop:=∀op∈u,op.act≠.mark .disable/\op.act≠.mark .enable
def wH{t u}(a:mD u)  g :∀m,m<=u.size->(t++u).deaf g (t.size+m)=Deaf t g
 |0,_=>deaf_old (aav _)
 | m+1,h=>by
   have b:m<u.size:=by omega
   have c:(t++u)[t.size+m]?=some u[m]:=by simp_all
   rw[<-Nat.add_assoc,deaf_succ c,wH a g m (by omega)];have:=a u[m] (Array.getElem_mem b);unfold deafStep
   simp_all
def cP{t u}(a:mD u)  g :Deaf (t++u) g=Deaf t g:=by
 have:=wH (t:=t) a g u.size (aav _);unfold Deaf at *
 simp_all
def dX{t u:Trace}{m op}(h:u[m]?=some op):(t++u)[t.size+m]?=some op:=by grind
def heard_new{t u}(a:mD u){m op}(h:u[m]?=some op)(hd:Deaf t op.g=0):(t++u).heard (t.size+m):=by have b:=(zG.1 h).1;exact⟨op.g,by simp[Trace.g?,dX h],by rw[wH a _ _ (by omega)];exact hd⟩
section
variable{t u:Trace}{i j n:Nat}
def nO(a:Knows t i n){m op}(h:u[m]?=some op)(b:op.g=i):Before (t++u) n (t.size+m):=.inr (a.hb_new (by omega) (dX h) b)
def z8(d:mD u){c k m1 m2:Nat}{x y}(a:u[m1]?=some x)(b:u[m2]?=some y)(e:x.act=.send c k)(f:y.act=.recvDone c k)(h:Deaf t x.g=0)(i:Deaf t y.g=0)(j:Knows t x.g n):Knows (t++u) y.g n:=by
 have l:=nO j a rfl;have m:HappensBefore (t++u) (t.size+m1) (t.size+m2):=.single (.inr ⟨.handOver (c:=c) (k:=k) (by rw[act?_of (dX a),e]) (by rw[act?_of (dX b),f]),heard_new d a h,heard_new d b i⟩);exact⟨t.size+m2,y,dX b,rfl,l.trans (.inr m)⟩
def DY(e:mD u){c m p:Nat}{y}(b:u[m]?=some y)(d:t.act? p=some (.close c))(f:t.heard p)(h:y.act=.recvClosed c)(i:Deaf t y.g=0)(hb:Before t n p):Knows (t++u) y.g n:=by
 have a:=lt_of_act? d;have j:HappensBefore (t++u) p (t.size+m):=.single (.inr ⟨.closed (c:=c) (by rw[act?_old a];exact d) (by rw[act?_of (dX b),h]),(heard_old a).2 f,heard_new e b i⟩);exact⟨t.size+m,y,dX b,rfl,(hb.app u).trans (.inr j)⟩
def xS(d:mD u){c m1 m2:Nat}{x y}(b:u[m1]?=some x)(a:u[m2]?=some y)(e:x.act=.go y.g)(f:y.act=.start)(h:Deaf t x.g=0)(i:Deaf t y.g=0)(j:Knows t x.g n):Knows (t++u) y.g n:=by
 have k:=nO j b rfl;have l:HappensBefore (t++u) (t.size+m1) (t.size+m2):=.single (.inr ⟨.spawn (child:=y.g) (by rw[act?_of (dX b),e]) (by rw[act?_of (dX a),f]) (by simp[Trace.g?,dX a]),heard_new d b h,heard_new d a i⟩);exact⟨t.size+m2,y,dX a,rfl,k.trans (.inr l)⟩
end
def pH{t u}(f:mD u){a}{m p n:Nat}{y}(c:u[m]?=some y)(h:y.act=.mark (.acquire a))(i:Deaf t y.g=0)(e:t.act? p=some (.mark (.releaseMerge a)))(j:t.heard p)(d:∀k,p<k->(t++u).act? k≠some (.mark (.release a)))(hb:Before t n p):Knows (t++u) y.g n:=by
 have b:=lt_of_act? e;have l:HappensBefore (t++u) p (t.size+m):=.single (.inr ⟨.marked (a:=a) (by omega) (.inr (by rw[act?_old b];exact e)) (by rw[act?_of (dX c),h]) (λk o _=>d k o),(heard_old b).2 j,heard_new f c i⟩);exact⟨t.size+m,y,dX c,rfl,(hb.app u).trans (.inr l)⟩
def z9{k O B es}(h:∀e∈es.toList,kz k O B e)  g   fn   pos :mD (MemOp.ofEvents g fn pos es):=λop a=>by
 obtain⟨e,c,rfl⟩:=LK a;have:=h e (by simp_all);obtain⟨loc,wr,b⟩:=e;cases loc with
 |cell d=>simp[MemAct.ofEvent]
 |obj r=>cases wr<;>cases b<;>simp[MemAct.ofEvent]
 |mark m=>simp only[kz]at this;cases m<;>simp_all [lK,py,MemAct.ofEvent]
 |_=>simp[kz]at this
end Go.bN
namespace Go.bN.Mu
structure Wd where
 L:Bool
 K:Bool
 S:Bool
 N:Nat
 deriving DecidableEq
def Wd.zero:Wd:=⟨false,false,false,0⟩
structure Lo where
 aw:Bool
 sv:Bool
 it:Nat
 deriving DecidableEq
inductive Pc where
 |out
 |js
 |rd (l:Lo)
 |sq (old:Wd) (l:Lo)
 |sw (old:Wd) (l:Lo)
 |my (old:Wd) (l:Lo)
 |iM (sv:Bool)
 |tq
 |up (sv:Bool)
 |add (old:Wd) (sv:Bool)
 |held
 |kA (old:Wd)
 |yp
 |give
 |bad
 deriving DecidableEq
def hd(old:Wd)(l:Lo):List Pc:=(if old.L && !old.S && decide (l.it<4)then[if !l.aw && !old.K && decide (old.N≠0)then .sw old l else .rd {l with it:=l.it+1}]else[])++[.my old l]
def nx(old:Wd)(l:Lo):Pc:=if old.L && !old.S then .sq old l else .my old l
def sE(old:Wd)(l:Lo):Wd:=⟨old.L||!old.S,if l.aw then false else old.K,old.S||(l.sv && old.L),if old.L||old.S then old.N+1 else old.N⟩
structure Sh where
 w:Wd
 ms:Nat
 deriving DecidableEq
def mv(p:Pc)(s:Sh):List (Pc × Sh):=
 match p with
 |.out=>[]
 |.js=>if s.w=.zero then[(.held,{s with w:={Wd.zero with L:=true}})]else[(.rd ⟨false,false,0⟩,s)]
 |.rd l=>[(nx s.w l,s)]
 |.sq old l=>(hd old l).map (·,s)
 |.sw old l=>if s.w=old then[(.rd {l with aw:=true,it:=l.it+1},{s with w:={old with K:=true}})]else[(.rd {l with it:=l.it+1},s)]
 | .my old l=>
   if l.aw && !old.K then[(.bad,s)]else
   if s.w=old then[(if old.L||old.S then .iM l.sv else .held,{s with w:=sE old l})]else[(.rd l,s)]
 |.iM sv=>if s.ms=0 then[]else[(if sv then .up true else .tq,{s with ms:=s.ms-1})]
 |.tq=>[(.up false,s),(.up true,s)]
 |.up sv=>if s.w.S then(if s.w.L||s.w.K||decide (s.w.N=0)then[(.bad,s)]else[(.add s.w sv,s)])else[(nx s.w ⟨true,sv,0⟩,s)]
 |.add old sv=>[(.held,{s with w:={s.w with L:=true,S:=s.w.S && !(!sv||decide (old.N=1)),N:=s.w.N-1}})]
 | .held=>
   let w:={s.w with L:=false}
   if s.w.L=false then[(.bad,s)]else
   [(if w=.zero then .out else if w.S then .give else if decide (w.N=0)||w.K then .out else .kA w,{s with w})]
 |.kA old=>if s.w=old then[(.give,{s with w:={old with K:=true,N:=old.N-1}})]else[(.yp,s)]
 |.yp=>[(if decide (s.w.N=0)||s.w.L||s.w.K||s.w.S then .out else .kA s.w,s)]
 |.give=>[(.out,{s with ms:=s.ms+1})]
 |.bad=>[]
def gL(n:Nat)(f:afh):Nat:=match n with
 |0=>0
 |n+1=>gL n f+f n
def set(pcs:Nat->Pc)(i:Nat)(p:Pc):Nat->Pc:=λj=>if j=i then p else pcs j
def ai  pcs   i   p :set pcs i p i=p:=by simp[set]
def ah  pcs  {i j}  p  (h:j≠i):set pcs i p j=pcs j:=by simp[set,h]
def wI{f g}:∀{n},(∀i,i<n->f i=g i)->gL n f=gL n g
 |0,_=>rfl
 |n+1,h=>by rw[gL,gL,wI (n:=n) λi a=>h i (by omega),h n (by omega)]
def iG(f:Pc->Nat)  pcs   i   p :∀{n},i<n->gL n (λj=>f (set pcs i p j))+f (pcs i)=gL n (λj=>f (pcs j))+f p
 |0,h=>by omega
 | n + 1,h=>by
   by_cases e:i=n
   . subst e
     rw[gL,gL,ai,wI (g:=λj=>f (pcs j)) λj a=>by rw[ah pcs p (show j≠i by omega)]];omega
   have:=iG f pcs i p (n:=n) (by omega);rw[gL,gL,ah pcs p (show n≠i by omega)];omega
def jX  f  {i}:∀{n},i<n->f i<=gL n f
 |0,h=>by omega
 | n+1,h=>by
   rw[gL];by_cases e:i=n
   . simp_all
   have:=jX f (n:=n) (i:=i) (by omega);omega
def FP{f}:∀{n},gL n f=0->∀i,i<n->f i=0
 |0,_,i,a=>by omega
 | n+1,h,i,a=>by
   rw[gL]at h;by_cases e:i=n
   . simp_all
   exact FP (n:=n) (by omega) i (by omega)
def cM:Pc->Nat|.held=>1|_=>0
def gZ:Pc->Nat|.rd l=>l.aw.toNat|.sq _ l=>l.aw.toNat|.sw _ l=>l.aw.toNat|.my _ l=>l.aw.toNat|_=>0
def dg:Pc->Nat|.iM _=>1|_=>0
def dh:Pc->Nat|.give=>1|_=>0
def pI:Pc->Nat|.tq=>1|.up _=>1|_=>0
def dG:Pc->Nat|.add _ _=>1|_=>0
def ju:Pc->Nat|.kA _=>1|.yp=>1|_=>0
def loc:Pc->Prop
 |.rd l=>(l.sv=true->l.aw=true)/\l.it<=4
 |.sq old l=>(l.aw=true->old.K=true)/\(l.sv=true->l.aw=true)/\l.it<=4/\old.L=true/\old.S=false
 |.sw old l=>l.aw=false/\l.sv=false/\old.L=true/\old.S=false/\old.K=false/\l.it<4
 |.my old l=>(l.aw=true->old.K=true)/\(l.sv=true->l.aw=true)/\l.it<=4
 |.kA old=>old.L=false/\old.K=false/\old.S=false/\old.N≠0
 |.bad=>False
 |_=>True
structure Inv0  n  (pcs:Nat->Pc) (s:Sh):Prop where
 j0:∀i,i<n->loc (pcs i)
 j1:gL n (λi=>cM (pcs i))=s.w.L.toNat
 j2:s.w.S=false->gL n (λi=>gZ (pcs i))+gL n (λi=>dh (pcs i))+s.ms+gL n (λi=>pI (pcs i))=s.w.K.toNat/\gL n (λi=>dG (pcs i))=0/\gL n (λi=>dg (pcs i))=s.w.N+gL n (λi=>dh (pcs i))+s.ms
 j3:s.w.S=true->s.w.K=false/\gL n (λi=>gZ (pcs i))=0/\gL n (λi=>dh (pcs i))+s.ms+gL n (λi=>pI (pcs i))+gL n (λi=>dG (pcs i))=(!s.w.L).toNat/\gL n (λi=>dg (pcs i))+gL n (λi=>pI (pcs i))+gL n (λi=>dG (pcs i))=s.w.N
 j4:s.w.L=false->s.w.K=false->s.w.S=false->s.w.N≠0->0<gL n (λi=>ju (pcs i))
def UA{old l}(a:l.sv=true->l.aw=true)(b:l.it<=4)(c:l.aw=true->old.K=true){p}(h:p∈hd old l):loc p/\gZ p=l.aw.toNat/\cM p=0/\dg p=0/\dh p=0/\pI p=0/\dG p=0/\ju p=0:=by
 obtain⟨aw,sv,it⟩:=l;obtain⟨i,j,k,m⟩:=old;simp only at a b c;unfold hd at h;simp only[aan,lb]at h;rcases h with h|rfl
 . split at h
   . rename_i d
     simp at d;simp only[lb]at h;subst h;split
     . rename_i e
       simp at e;obtain⟨⟨f,g⟩,n⟩:=e;subst f;have:sv=false:=by simp_all
       simp[loc,gZ,cM,dg,dh,pI,dG,ju,d,this,g]
     exact⟨⟨a,by grind⟩,rfl,rfl,rfl,rfl,rfl,rfl,rfl⟩
   simp at h
 exact⟨⟨c,a,b⟩,rfl,rfl,rfl,rfl,rfl,rfl,rfl⟩
def NV{old l}(a:l.sv=true->l.aw=true)(b:l.it<=4)(c:l.aw=true->old.K=true):loc (nx old l)/\gZ (nx old l)=l.aw.toNat/\cM (nx old l)=0/\dg (nx old l)=0/\dh (nx old l)=0/\pI (nx old l)=0/\dG (nx old l)=0/\ju (nx old l)=0:=by
 unfold nx;split
 . rename_i h
   simp at h;exact⟨⟨c,a,b,h.1,h.2⟩,rfl,rfl,rfl,rfl,rfl,rfl,rfl⟩
 exact⟨⟨c,a,b⟩,rfl,rfl,rfl,rfl,rfl,rfl,rfl⟩
set_option maxHeartbeats 2000000 in
def Inv0.step{n pcs s s' i q}(h:Inv0 n pcs s)(hi:i<n)(a:(q,s')∈mv (pcs i) s):Inv0 n (set pcs i q) s':=by
 have H:=iG cM pcs i q hi;have A:=iG gZ pcs i q hi;have P:=iG dg pcs i q hi;have G:=iG dh pcs i q hi;have U:=iG pI pcs i q hi;have D:=iG dG pcs i q hi;have R:=iG ju pcs i q hi;have J:=jX (λj=>cM (pcs j)) hi
 have M:=jX (λj=>gZ (pcs j)) hi
 have V:=jX (λj=>dg (pcs j)) hi
 have O:=jX (λj=>dh (pcs j)) hi
 have C:=jX (λj=>pI (pcs j)) hi
 have Q:=jX (λj=>dG (pcs j)) hi
 have E:=jX (λj=>ju (pcs j)) hi
 have y:=h.j0 i hi;obtain⟨⟨d,f,g,W⟩,ms⟩:=s;have j1:=h.j1;have j2:=h.j2;have j3:=h.j3;have j4:=h.j4;simp only at j1 j2 j3 j4
 have key:∀(m:Wd) (t:Nat),s'=⟨m,t⟩->loc q->(gL n (λj=>cM (set pcs i q j))=m.L.toNat) ->
  (m.S=false->gL n (λj=>gZ (set pcs i q j))+gL n (λj=>dh (set pcs i q j))+t+gL n (λj=>pI (set pcs i q j))=m.K.toNat/\gL n (λj=>dG (set pcs i q j))=0/\gL n (λj=>dg (set pcs i q j))=m.N+gL n (λj=>dh (set pcs i q j))+t) ->
  (m.S=true->m.K=false/\gL n (λj=>gZ (set pcs i q j))=0/\gL n (λj=>dh (set pcs i q j))+t+gL n (λj=>pI (set pcs i q j))+gL n (λj=>dG (set pcs i q j))=(!m.L).toNat/\gL n (λj=>dg (set pcs i q j))+gL n (λj=>pI (set pcs i q j))+gL n (λj=>dG (set pcs i q j))=m.N) ->
  (m.L=false->m.K=false->m.S=false->m.N≠0->0<gL n (λj=>ju (set pcs i q j)))->Inv0 n (set pcs i q) s':=by
  rintro m t rfl F o v r z
  refine⟨λj hj=>?_,o,v,r,z⟩
  by_cases e:j=i
  . subst e;rw[ai];exact F
  rw[ah pcs q e];exact h.j0 j hj
 generalize hp:pcs i=p at *;generalize gL n (λj=>cM (set pcs i q j))=H' at *
 generalize gL n (λj=>gZ (set pcs i q j))=A' at *
 generalize gL n (λj=>dg (set pcs i q j))=P' at *
 generalize gL n (λj=>dh (set pcs i q j))=G' at *
 generalize gL n (λj=>pI (set pcs i q j))=U' at *
 generalize gL n (λj=>dG (set pcs i q j))=D' at *
 generalize gL n (λj=>ju (set pcs i q j))=R' at *
 generalize gL n (λj=>cM (pcs j))=H0 at *
 generalize gL n (λj=>gZ (pcs j))=A0 at *
 generalize gL n (λj=>dg (pcs j))=P0 at *
 generalize gL n (λj=>dh (pcs j))=G0 at *
 generalize gL n (λj=>pI (pcs j))=U0 at *
 generalize gL n (λj=>dG (pcs j))=D0 at *
 generalize gL n (λj=>ju (pcs j))=R0 at *
 cases p with
 |out=>simp[mv]at a
 |bad=>simp[mv]at a
 | js=>
   simp only[mv]at a;split at a
   . rename_i c
     simp only[Wd.zero,Wd.mk.injEq]at c;obtain⟨rfl,rfl,rfl,rfl⟩:=c;simp only[lb,zU]at a;obtain⟨rfl,rfl⟩:=a;refine key _ _ rfl trivial ?_ ?_ ?_ ?_<;>simp[cM,gZ,dg,dh,pI,dG,ju,Wd.zero]at *<;>omega
   simp only[lb,zU]at a;obtain⟨rfl,rfl⟩:=a;refine key _ _ rfl (by simp[loc]) ?_ ?_ ?_ ?_<;>simp[cM,gZ,dg,dh,pI,dG,ju,Wd.zero]at *<;>cases d<;>cases f<;>cases g<;>simp at *<;>omega
 | rd l=>
   simp only[mv,lb,zU]at a;obtain⟨rfl,rfl⟩:=a
   have X:l.aw=true->f=true:=λha=>by
    simp[gZ,ha]at M;cases g
    . have:=(j2 rfl).1
      cases f
      . simp at this;omega
      rfl
    have:=(j3 rfl).2.1;omega
   obtain⟨F,o,v,r,z,Y,Z,k7⟩:=NV (old:=⟨d,f,g,W⟩) y.1 y.2 X;rw[o]at A;rw[v]at H;rw[r]at P;rw[z]at G;rw[Y]at U;rw[Z]at D;rw[k7]at R;refine key _ _ rfl F ?_ ?_ ?_ ?_<;>simp[cM,gZ,dg,dh,pI,dG,ju]at H A P G U D R ⊢<;>cases d<;>cases f<;>cases g<;>simp at j1 j2 j3 j4 ⊢<;>omega
 |sq old l=>simp only[mv,aab,zU]at a;obtain⟨q',k,rfl,rfl⟩:=a;obtain⟨F,o,v,r,z,Y,Z,k7⟩:=UA y.2.1 y.2.2.1 y.1 k;rw[o]at A;rw[v]at H;rw[r]at P;rw[z]at G;rw[Y]at U;rw[Z]at D;rw[k7]at R;refine key _ _ rfl F ?_ ?_ ?_ ?_<;>simp[cM,gZ,dg,dh,pI,dG,ju]at H A P G U D R ⊢<;>cases d<;>cases f<;>cases g<;>simp at j1 j2 j3 j4 ⊢<;>omega
 | sw old l=>
   obtain⟨oL,oK,oS,oN⟩:=old;obtain⟨w,x,B,T,h5,h6⟩:=y;obtain⟨aw,sv,it⟩:=l;simp only at w x B T h5 h6;subst w;subst x;subst B;subst T;subst h5;simp only[mv]at a;split at a
   . rename_i c
     simp only[Wd.mk.injEq]at c;obtain⟨rfl,rfl,rfl,rfl⟩:=c;simp only[lb,zU]at a;obtain⟨rfl,rfl⟩:=a;refine key _ _ rfl (by simp[loc];omega) ?_ ?_ ?_ ?_<;>simp[cM,gZ,dg,dh,pI,dG,ju]at *<;>omega
   simp only[lb,zU]at a;obtain⟨rfl,rfl⟩:=a;refine key _ _ rfl (by simp[loc];omega) ?_ ?_ ?_ ?_<;>simp[cM,gZ,dg,dh,pI,dG,ju]at H A P G U D R ⊢<;>cases d<;>cases f<;>cases g<;>simp at j1 j2 j3 j4 ⊢<;>omega
 | my old l=>
   obtain⟨oL,oK,oS,oN⟩:=old;obtain⟨w,x,B⟩:=y;obtain⟨aw,sv,it⟩:=l;simp only at w x B;simp only[mv]at a;split at a
   . rename_i c
     simp at c;have:=w c.1;rw[this]at c;simp at c
   split at a
   . rename_i c
     simp only[Wd.mk.injEq]at c;obtain⟨rfl,rfl,rfl,rfl⟩:=c;simp only[lb,zU]at a;obtain⟨k,rfl⟩:=a;cases aw<;>cases sv<;>simp only[aal,false_implies,true_implies,imp_false,not_true]at x
     all_goals cases d<;>cases g<;>simp at k<;>subst k
     all_goals refine key _ _ rfl (by simp[loc]) ?_ ?_ ?_ ?_<;>simp[cM,gZ,dg,dh,pI,dG,ju,sE]at H A P G U D R J M V O C Q E ⊢<;>cases f<;>simp at j1 j2 j3 j4 w ⊢<;>omega
   simp only[lb,zU]at a;obtain⟨rfl,rfl⟩:=a;refine key _ _ rfl ⟨x,B⟩ ?_ ?_ ?_ ?_<;>simp[cM,gZ,dg,dh,pI,dG,ju]at H A P G U D R ⊢<;>cases d<;>cases f<;>cases g<;>simp at j1 j2 j3 j4 ⊢<;>omega
 | iM sv=>
   simp only[mv]at a;split at a
   . simp at a
   rename_i c;simp only[lb,zU]at a;obtain⟨rfl,rfl⟩:=a;cases sv
   all_goals refine key _ _ rfl trivial ?_ ?_ ?_ ?_<;>simp[cM,gZ,dg,dh,pI,dG,ju]at H A P G U D R J M V O C Q E ⊢<;>cases d<;>cases f<;>cases g<;>simp at j1 j2 j3 j4 ⊢<;>omega
 | tq=>
   simp only[mv,aaw,zU,adL,or_false]at a
   rcases a with⟨rfl,rfl⟩|⟨rfl,rfl⟩
   all_goals refine key _ _ rfl trivial ?_ ?_ ?_ ?_<;>simp[cM,gZ,dg,dh,pI,dG,ju]at H A P G U D R J M V O C Q E ⊢<;>cases d<;>cases f<;>cases g<;>simp at j1 j2 j3 j4 ⊢<;>omega
 | up sv=>
   simp only[mv]at a;split at a
   . rename_i c
     subst c;obtain⟨o,v,r,z⟩:=j3 rfl;simp[pI]at C;have I:d=false:=by cases d<;>simp at r ⊢;omega
     subst I;subst o;have hN:W≠0:=by omega
     simp only[Bool.false_or,hN,decide_false,aal,aao,lb,zU]at a;obtain⟨rfl,rfl⟩:=a;refine key _ _ rfl trivial ?_ ?_ ?_ ?_<;>simp[cM,gZ,dg,dh,pI,dG,ju]at H A P G U D R r j1 ⊢<;>omega
   rename_i c;simp at c;subst c;simp only[lb,zU]at a;obtain⟨rfl,rfl⟩:=a;obtain⟨o,v,r⟩:=j2 rfl;simp[pI]at C;have X:f=true:=by cases f<;>simp at o ⊢;omega
   subst X;obtain⟨l0,l1,l2,l3,l4,l5,l6,l7⟩:=NV (l:=⟨true,sv,0⟩) (old:=⟨d,true,false,W⟩) (λ_=>rfl) (by simp) (λ_=>rfl)
   rw[l1]at A;rw[l2]at H;rw[l3]at P;rw[l4]at G;rw[l5]at U;rw[l6]at D;rw[l7]at R;refine key _ _ rfl l0 ?_ ?_ ?_ ?_<;>simp[cM,gZ,dg,dh,pI,dG,ju]at H A P G U D R o ⊢<;>cases d<;>simp at j1 j4 ⊢<;>omega
 | add old sv=>
   simp only[mv,lb,zU]at a;obtain⟨rfl,rfl⟩:=a;simp[dG]at Q
   have hS:g=true:=by
    cases g with
    |true=>rfl
    |false=>have:=(j2 rfl).2.1;omega
   subst hS;obtain⟨o,v,r,z⟩:=j3 rfl;have I:d=false:=by cases d<;>simp at r ⊢;omega
   subst I;subst o;generalize hb:(true && !(!sv||decide (old.N=1)))=b at key ⊢
   refine key _ _ rfl trivial ?_ ?_ ?_ ?_<;>simp[cM,gZ,dg,dh,pI,dG,ju]at H A P G U D R r j1 ⊢<;>cases b<;>(try simp)<;>omega
 | held=>
   simp[cM]at J;have I:d=true:=by cases d<;>simp at j1 ⊢;omega
   subst I;simp only[mv,adO,aao,lb,zU]at a;obtain⟨k,rfl⟩:=a;split at k
   . rename_i c
     simp only[Wd.zero,Wd.mk.injEq,true_and]at c;obtain⟨rfl,rfl,rfl⟩:=c;subst k;refine key _ _ rfl trivial ?_ ?_ ?_ ?_<;>simp[cM,gZ,dg,dh,pI,dG,ju]at *<;>omega
   split at k
   . rename_i c
     have c:g=true:=c;subst c;subst k;obtain⟨o,v,r,z⟩:=j3 rfl;subst o;refine key _ _ rfl trivial ?_ ?_ ?_ ?_<;>simp[cM,gZ,dg,dh,pI,dG,ju]at H A P G U D R j1 r ⊢<;>omega
   split at k
   . rename_i a7 u c
     simp at u;subst u;subst k;refine key _ _ rfl trivial ?_ ?_ ?_ ?_<;>simp[cM,gZ,dg,dh,pI,dG,ju]at *<;>cases f<;>simp at *<;>omega
   rename_i a7 u c;simp at u c;subst u;subst k;refine key _ _ rfl (by simp[loc,c]) ?_ ?_ ?_ ?_<;>simp[cM,gZ,dg,dh,pI,dG,ju]at *<;>simp[c]at *<;>omega
 | kA old=>
   obtain⟨oL,oK,oS,oN⟩:=old;obtain⟨w,x,B,T⟩:=y;simp only at w x B T;subst w;subst x;subst B;simp only[mv]at a;split at a
   . rename_i c
     simp only[Wd.mk.injEq]at c;obtain⟨rfl,rfl,rfl,rfl⟩:=c;simp only[lb,zU]at a;obtain⟨rfl,rfl⟩:=a;refine key _ _ rfl trivial ?_ ?_ ?_ ?_<;>simp[cM,gZ,dg,dh,pI,dG,ju]at *<;>omega
   simp only[lb,zU]at a;obtain⟨rfl,rfl⟩:=a;refine key _ _ rfl trivial ?_ ?_ ?_ ?_<;>simp[cM,gZ,dg,dh,pI,dG,ju]at H A P G U D R E ⊢<;>cases d<;>cases f<;>cases g<;>simp at j1 j2 j3 j4 ⊢<;>omega
 | yp=>
   simp only[mv,lb,zU]at a;obtain⟨k,rfl⟩:=a;split at k
   . rename_i c
     subst k;refine key _ _ rfl trivial ?_ ?_ ?_ ?_<;>simp[cM,gZ,dg,dh,pI,dG,ju]at H A P G U D R E c ⊢<;>cases d<;>cases f<;>cases g<;>simp at j1 j2 j3 j4 c ⊢<;>omega
   rename_i c;simp at c;subst k;obtain⟨⟨⟨z1,z2⟩,z3⟩,z4⟩:=c;subst z2;subst z3;subst z4;refine key _ _ rfl (by simp[loc,z1]) ?_ ?_ ?_ ?_<;>simp[cM,gZ,dg,dh,pI,dG,ju]at *<;>omega
 |give=>simp only[mv,lb,zU]at a;obtain⟨rfl,rfl⟩:=a;refine key _ _ rfl trivial ?_ ?_ ?_ ?_<;>simp[cM,gZ,dg,dh,pI,dG,ju]at H A P G U D R O ⊢<;>cases d<;>cases f<;>cases g<;>simp at j1 j2 j3 j4 ⊢<;>omega
structure Inv  n   pcs   s :Prop extends Inv0 n pcs s where
 j5:s.w.S=true->s.w.N≠0
 j6:∀i,i<n->∀old sv,pcs i=.add old sv->old.N<=s.w.N/\old.N≠0
def Inv0.TB{n pcs s}(h:Inv0 n pcs s){i}(hi:i<n){old sv}(a:pcs i=.add old sv):s.w.S=true/\gL n (λi=>dG (pcs i))<=1:=by
 have c:dG (pcs i)=1:=by rw[a];rfl
 have d:dG (pcs i)<=gL n (λi=>dG (pcs i)):=jX (λi=>dG (pcs i)) hi
 cases e:s.w.S with
 |true=>refine⟨rfl,?_⟩;have:=(h.j3 e).2.2.1;cases b:s.w.L<;>rw[b]at this<;>simp at this<;>omega
 |false=>have:=(h.j2 e).2.1;omega
def Inv0.add_one{n pcs s}(h:Inv0 n pcs s){i l}(hi:i<n)(f:l<n){old a sv b}(d:pcs i=.add old sv)(c:pcs l=.add a b):i=l:=by
 by_cases e:i=l
 . exact e
 have k:=(h.TB hi d).2;have m:=iG dG pcs i .out hi;have g:dG (set pcs i .out l)<=gL n (λj=>dG (set pcs i .out j)):=jX (λj=>dG (set pcs i .out j)) f
 rw[ah pcs Pc.out (zs e)]at g;have o:dG (pcs i)=1:=by rw[d];rfl
 have p:dG (pcs l)=1:=by rw[c];rfl
 have q:dG .out=0:=rfl;omega
def Inv.step{n pcs s s' i q}(h:Inv n pcs s)(hi:i<n)(b:(q,s')∈mv (pcs i) s):Inv n (set pcs i q) s':=by
 have j:=h.j0 i hi
 have key:(s'.w.S=true->s'.w.N≠0)/\(s.w.N<=s'.w.N\/(∃old sv,pcs i=.add old sv)\/s.w.S=false)/\(∀old sv,q=.add old sv->old.N<=s'.w.N/\old.N≠0):=by
  have g:=h.j5;have k:=h.j6 i hi;revert b j k;cases pcs i with
  |out=>intro b;simp[mv]at b
  |bad=>intro b;simp[mv]at b
  | js=>
    intro b _ _;simp only[mv]at b
    grind
  |rd l=>intro b _ _;simp[mv]at b;obtain⟨rfl,rfl⟩:=b;exact⟨g,.inl (aav _),λold sv h=>by unfold nx at h;grind⟩
  | sq o l=>
    intro b _ _;simp only[mv,aab,zU]at b;obtain⟨a,p,rfl,rfl⟩:=b;refine⟨g,.inl (aav _),λold sv h=>?_⟩;subst h;unfold hd at p
    grind
  | sw o l=>
    intro b _ _;simp only[mv]at b
    grind
  | my o l=>
    intro b _ _;simp only[mv]at b;split at b
    . simp_all
    split at b
    . rename_i m
      simp at b;obtain⟨rfl,rfl⟩:=b;rw[m]at g ⊢;refine⟨λh=>?_,.inl ?_,λold sv h=>by grind⟩
      . unfold sE at h ⊢
        grind
      unfold sE
      grind
    simp_all
  | iM sv=>
    intro b _ _;simp only[mv]at b
    grind
  | tq=>
    intro b _ _;simp[mv]at b
    grind
  | up sv=>
    intro b _ _;simp only[mv]at b;split at b
    . grind
    simp at b;obtain⟨rfl,rfl⟩:=b;exact⟨g,.inl (aav _),λold sv h=>by unfold nx at h;grind⟩
  |add o sv=>intro b _ k;simp[mv]at b;grind
  | held=>
    intro b _ _;simp only[mv]at b
    grind
  | kA o=>
    intro b j _;simp only[mv]at b;split at b
    . rename_i m
      simp at b;obtain⟨rfl,rfl⟩:=b;have v:o.S=false:=j.2.2.1
      simp_all
    simp_all
  |yp=>intro b _ _;simp only[mv,lb,zU]at b;grind
  |give=>intro b _ _;simp[mv]at b;simp_all
 obtain⟨r,c,x⟩:=key;refine⟨h.toInv0.step hi b,r,λl d old sv f=>?_⟩;by_cases e:l=i
 . subst e
   rw[ai]at f
   simp_all
 rw[ah pcs q e]at f;obtain⟨y,t⟩:=h.j6 l d old sv f;refine⟨?_,t⟩;rcases c with c|⟨o,u,c⟩|c
 . omega
 . exact absurd (h.toInv0.add_one hi d c f) (zs e)
 rw[(h.toInv0.TB d f).1]at c;cases c
def DZ:∀n ,gL n (λ_=>0)=0
 |0=>rfl
 |n+1=>by rw[gL,DZ n]
def Inv.rest{n pcs s}(h:Inv n pcs s)(l:∀i,i<n->pcs i=.out):s.w=.zero/\s.ms=0:=by
 have f:∀(F:Pc->Nat),F .out=0->gL n (λi=>F (pcs i))=0:=λF m=>by
  have:gL n (λi=>F (pcs i))=gL n (λ_=>0):=wI λi o=>by simp_all
  rw[this];exact DZ n
 have L:s.w.L=false:=by
  have:=h.j1;rw[f cM rfl]at this
  grind
 have S:s.w.S=false:=by
  cases e:s.w.S with
  |false=>rfl
  |true=>have:=(h.j3 e).2.2.2;rw[f dg rfl,f pI rfl,f dG rfl]at this;exact absurd this.symm (h.j5 e)
 obtain⟨g,p,j⟩:=h.j2 S;rw[f gZ rfl,f dh rfl,f pI rfl]at g;rw[f dg rfl,f dh rfl]at j;have K:s.w.K=false:=by grind
 refine⟨?_,by omega⟩;have N:s.w.N=0:=by omega
 cases k:s.w with
 |mk a b c d=>rw[k]at L S K N;simp only at L S K N;subst L;subst S;subst K;subst N;rfl
def iN:Pc->Nat
 |.out=>0
 |.js=>6
 |.rd l=>if l.aw then 5 else 6
 |.sq _ l=>if l.aw then 5 else 6
 |.sw _ _=>6
 |.my _ l=>if l.aw then 5 else 6
 |.iM _=>4
 |.tq=>5
 |.up _=>5
 |.add _ _=>5
 |.held=>3
 |.kA _=>2
 |.yp=>2
 |.give=>1
 |.bad=>0
def lg(w:Wd):Pc->Nat
 |.out=>0
 |.js=>16
 |.rd l=>3+3*(4-l.it)
 |.sq old l=>if w=old then 2+3*(4-l.it)else 5+3*(4-l.it)
 |.sw old l=>if w=old then 1 else 4+3*(3-l.it)
 |.my old l=>if w=old then 1 else 4+3*(4-l.it)
 |.iM _=>18
 |.tq=>17
 |.up _=>16
 |.add _ _=>1
 |.held=>1
 |.kA old=>if w=old then 1 else 4
 |.yp=>3
 |.give=>1
 |.bad=>0
def RS  w   p :lg w p<=18:=by cases p<;>simp[lg]<;>(try split)<;>omega
def H4{f c}(h:∀i,f i<=c):∀n,gL n f<=n*c
 |0=>by simp[gL]
 |n+1=>by have:=H4 h n;have:=h n;rw[gL,Nat.succ_mul];omega
def phi(n:Nat)(pcs:Nat->Pc)(s:Sh):Nat:=gL n (λi=>iN (pcs i))+s.ms
def meas(n:Nat)(pcs:Nat->Pc)(s:Sh):Nat:=phi n pcs s*(18*n+1)+gL n (λi=>lg s.w (pcs i))
def RU{p q s s'}(f:loc p)(h:(q,s')∈mv p s):iN q+s'.ms<iN p+s.ms\/(s'.w=s.w/\iN q+s'.ms<=iN p+s.ms/\lg s.w q<lg s.w p):=by
 have g:∀(old:Wd) (l:Lo) (q:Pc),q∈hd old l->iN q=iN (.rd l)/\lg s.w q<(if s.w=old then 2+3*(4-l.it)else 5+3*(4-l.it)):=λold l q b=>by
  unfold hd at b;simp only[aan,lb]at b
  rcases b with b|rfl
  . split at b
    . rename_i a
      simp at a;simp only[lb]at b;subst b;split
      . rename_i i
        simp at i;simp[iN,lg,i.1.1]
        grind
      refine⟨rfl,?_⟩;have:=a.2;simp[lg]
      grind
    grind
  simp[iN,lg]
  grind
 have c:∀(l:Lo),iN (nx s.w l)=iN (.rd l)/\lg s.w (nx s.w l)<3+3*(4-l.it):=λl=>by unfold nx;split<;>simp[iN,lg]<;>omega
 cases p with
 |out=>simp[mv]at h
 |bad=>simp[mv]at h
 |js=>simp only[mv]at h;split at h<;>simp only[lb,zU]at h<;>obtain⟨rfl,rfl⟩:=h<;>simp[iN,lg]
 |rd l=>simp only[mv,lb,zU]at h;obtain⟨rfl,rfl⟩:=h;obtain⟨d,e⟩:=c l;exact .inr ⟨rfl,by omega,e⟩
 |sq old l=>simp only[mv,aab,zU]at h;obtain⟨k,b,rfl,rfl⟩:=h;obtain⟨d,e⟩:=g old l _ b;exact .inr ⟨rfl,by rw[d];exact aav _,e⟩
 | sw old l=>
   have j:=f.1;have m:=f.2.2.2.2.2;simp only[mv]at h;split at h<;>rename_i a<;>simp only[lb,zU]at h<;>obtain⟨rfl,rfl⟩:=h
   . simp[iN,lg]
   refine .inr ⟨rfl,by simp[iN,j],?_⟩
   simp[lg,a]
 | my old l=>
   simp only[mv]at h;split at h
   . rename_i a
     simp at a;have:=f.1 a.1
     simp_all
   split at h<;>rename_i a<;>simp only[lb,zU]at h
   . obtain⟨rfl,rfl⟩:=h
     left;split<;>simp only[iN]<;>split<;>omega
   obtain⟨rfl,rfl⟩:=h;exact .inr ⟨rfl,by simp[iN],by simp[lg,a]⟩
 | iM sv=>
   simp only[mv]at h;split at h
   . simp at h
   simp only[lb,zU]at h;obtain⟨rfl,rfl⟩:=h;cases sv<;>exact .inr ⟨rfl,by simp[iN];omega,by simp[lg]⟩
 | tq=>
   simp only[mv,aaw,zU,adL,or_false]at h
   rcases h with⟨rfl,rfl⟩|⟨rfl,rfl⟩<;>exact .inr ⟨rfl,by simp[iN],by simp[lg]⟩
 | up sv=>
   simp only[mv]at h;split at h
   . split at h<;>simp only[lb,zU]at h<;>obtain⟨rfl,rfl⟩:=h<;>exact .inr ⟨rfl,by simp[iN],by simp[lg]⟩
   simp only[lb,zU]at h;obtain⟨rfl,rfl⟩:=h;obtain⟨d,e⟩:=c ⟨true,sv,0⟩;refine .inr ⟨rfl,by rw[d];simp[iN],?_⟩
   have n:∀w,lg w (.up sv)=16:=λ_=>rfl
   grind
 |add old sv=>simp only[mv,lb,zU]at h;obtain⟨rfl,rfl⟩:=h;exact .inl (by simp[iN])
 | held=>
   simp only[mv]at h;left;split at h
   . simp only[lb,zU]at h;obtain⟨rfl,rfl⟩:=h;simp[iN]
   simp only[lb,zU]at h;obtain⟨rfl,rfl⟩:=h;split
   . simp[iN]
   split
   . simp[iN]
   split<;>simp[iN]
 | kA old=>
   simp only[mv]at h;split at h<;>rename_i a<;>simp only[lb,zU]at h<;>obtain⟨rfl,rfl⟩:=h
   . simp[iN]
   exact .inr ⟨rfl,by simp[iN],by simp[lg,a]⟩
 | yp=>
   simp only[mv,lb,zU]at h;obtain⟨rfl,rfl⟩:=h;split
   . left;simp[iN]
   exact .inr ⟨rfl,by simp[iN],by simp[lg]⟩
 |give=>simp only[mv,lb,zU]at h;obtain⟨rfl,rfl⟩:=h;exact .inr ⟨rfl,by simp[iN];omega,by simp[lg]⟩
def K5{n pcs s s' i q}(hi:i<n)(b:loc (pcs i))(d:(q,s')∈mv (pcs i) s):meas n (set pcs i q) s'<meas n pcs s/\phi n (set pcs i q) s'<=phi n pcs s:=by
 have C:=iG iN pcs i q hi;have e:=jX (λj=>iN (pcs j)) hi
 rcases RU b d with h|⟨g,k,l⟩
 . have a:phi n (set pcs i q) s'+1<=phi n pcs s:=by unfold phi;omega
   refine⟨?_,by omega⟩
   have m:=H4 (f:=λj=>lg s'.w (set pcs i q j)) (c:=18) (λj=>RS _ _) n
   have:=aci (18*n+1) a;rw[adK]at this;unfold meas;omega
 have a:phi n (set pcs i q) s'<=phi n pcs s:=by unfold phi;omega
 refine⟨?_,a⟩;have R:=iG (lg s.w) pcs i q hi;have o:=jX (λj=>lg s.w (pcs j)) hi
 have:=aci (18*n+1) a;unfold meas
 grind
def Inv.alive{n pcs s}(h:Inv n pcs s)(c:∀i,i<n->pcs i=.out\/∃sv,pcs i=.iM sv)(a:s.ms=0):∀i,i<n->pcs i=.out:=by
 have z:∀(f:Pc->Nat),f .out=0->(∀sv,f (.iM sv)=0)->gL n (λi=>f (pcs i))=0:=λf v w=>by
  have:∀m,m<=n->gL m (λi=>f (pcs i))=0:=λm=>by
   induction m with
   |zero=>intro _;rfl
   | succ m d=>
     intro a;rw[gL,d (by omega)]
     grind
  simp_all
 have g:=z cM rfl λ_=>rfl
 have j:=z gZ rfl λ_=>rfl
 have k:=z dh rfl λ_=>rfl
 have l:=z pI rfl λ_=>rfl
 have o:=z dG rfl λ_=>rfl
 have p:=z ju rfl λ_=>rfl
 have j1:=h.j1;have j2:=h.j2;have j3:=h.j3;have j4:=h.j4
 have q:gL n (λi=>dg (pcs i))=0:=by obtain⟨⟨r,t,u,x⟩,ms⟩:=s;simp only at j1 j2 j3 j4 a;subst a;cases r<;>cases t<;>cases u<;>simp[g,j,k,l,o,p]at j1 j2 j3 j4 ⊢<;>omega
 intro i b
 rcases c i b with e|⟨sv,e⟩
 . exact e
 have:=FP q i b;rw[e]at this;simp[dg]at this
end Go.bN.Mu
namespace Go.bN
section
open Go.Conc
def pJ{α}(P:afn):Sem α->Option α
 |.pure a=>some a
 |.program f=>pJ P (f P)
 |_=>none
def NW{α P}  s :∀{a:α},pJ P s=some a->∀w es,s.runT P w es=(.ok a w,es):=by
 induction s with
 |pure b=>intro a h w es;simp only[pJ,kn]at h;subst h;rfl
 |program f c=>intro a h w es;simp only[pJ]at h;simp only[Sem.runT];grind
 |_=>intro a h;simp[pJ]at h
def nP{α β P}{f:α->Sem β}  s :∀{a},pJ P s=some a->pJ P (s.bind f)=pJ P (f a):=by
 induction s with
 |pure b=>intro a h;simp only[pJ,kn]at h;subst h;rfl
 |program g c=>intro a h;simp only[pJ]at h;exact c P h
 |_=>intro a h;simp[pJ]at h
def enc(L K S:Bool)(N:Int):Int:=8*N+(L.toNat+2*K.toNat+4*S.toNat:Nat)
def D5{L K S N}(h:0<=N):enc L K S N=((8*N.toNat+(L.toNat+2*K.toNat+4*S.toNat):Nat):Int):=by unfold enc;omega
def Zf{N b m}(hb:b<8)(a:m<8):(8*N+b) &&& m=b &&& m:=by
 have c:m=m % 2 ^ 3:=by omega
 apply Nat.eq_of_testBit_eq;intro i;simp only[Nat.testBit_and];by_cases d:i<3
 . congr 1
   have:=ady (i:=3) N (b:=b) (by omega) i
   grind
 . have:m.testBit i=false:=Nat.testBit_lt_two_pow (aaQ a (by
    have:2 ^ 3<=2 ^ i:=adp (by omega) (by omega);omega))
   grind
def RV{N b m}(hb:b<8)(c:m<8):(8*N+b)|||m=8*N+(b|||m):=by
 have e:=Nat.two_pow_add_eq_or_of_lt (i:=3) (b:=b) (by omega) N;have a:b|||m<2 ^ 3:=Nat.or_lt_two_pow (by omega) (by omega);have d:=Nat.two_pow_add_eq_or_of_lt (i:=3) (b:=b|||m) a N
 grind
def Zg(N:Int):Prop:=0<=N/\N<=1000000
def RX{L K S N}(h:Zg N){m:Nat}(a:m<8):bits .and .i32 (enc L K S N) (m:Int)=(((L.toNat+2*K.toNat+4*S.toNat) &&& m:Nat):Int):=by
 have hb:L.toNat+2*K.toNat+4*S.toNat<8:=by cases L<;>cases K<;>cases S<;>decide
 rw[D5 h.1,(bits_nat .i32 31 (by decide) wraps_i32 _ m (by have:=h.2;omega) (by omega)).1,Zf hb a]
def UB{L K S N}(h:Zg N){m:Nat}(a:m<8):bits .or .i32 (enc L K S N) (m:Int)=((8*N.toNat+((L.toNat+2*K.toNat+4*S.toNat)|||m):Nat):Int):=by
 have hb:L.toNat+2*K.toNat+4*S.toNat<8:=by cases L<;>cases K<;>cases S<;>decide
 rw[D5 h.1,(bits_nat .i32 31 (by decide) wraps_i32 _ m (by have:=h.2;omega) (by omega)).2,RV hb a]
def Zh{a b c d}(hb:b<8)(hd:d<8):(8*a+b) &&& (8*c+d)=8*(a &&& c)+(b &&& d):=by
 apply Nat.eq_of_testBit_eq;intro i;have e:=ady (i:=3) a (b:=b) (by omega) i;have f:=ady (i:=3) c (b:=d) (by omega) i;have g:=ady (i:=3) (a &&& c) (b:=b &&& d) (by have:=Nat.and_le_left (n:=b) (m:=d);omega) i
 grind
def FQ{L K S N}(h:Zg N):bits .andNot .i32 (enc L K S N) 2=enc L false S N:=by
 have hb:L.toNat+2*K.toNat+4*S.toNat<8:=by cases L<;>cases K<;>cases S<;>decide
 have e:((N.toNat:Nat):Int)=N:=Int.toNat_of_nonneg h.1;have f:=h.2
 have a:(BitVec.ofInt 32 (enc L K S N)).toNat=8*N.toNat+(L.toNat+2*K.toNat+4*S.toNat):=by rw[D5 h.1,BitVec.ofInt_natCast,BitVec.toNat_ofNat];omega
 have b:(~~~(BitVec.ofInt 32 2)).toNat=8*536870911+5:=by decide
 have c:N.toNat &&& 536870911=N.toNat:=by
  have:=Nat.and_two_pow_sub_one_eq_mod N.toNat 29
  grind
 have d:(L.toNat+2*K.toNat+4*S.toNat) &&& 5=L.toNat+4*S.toNat:=by cases L<;>cases K<;>cases S<;>decide
 show IntKind.i32.wrap ((BitVec.ofInt 32 (enc L K S N) &&& ~~~(BitVec.ofInt 32 2)).toNat:Int)=_;rw[BitVec.toNat_and,a,b,Zh hb (by omega),c,d,wraps_i32 _ (Int.natCast_nonneg _) (by omega)]
 unfold enc
 simp_all
def fL(c:Int)(w:Nat):Int:=c*4294967296+w
inductive SV where
 |cX
 |lit (v:Value)
 |word (L K S:Bool) (δ:Int)
 |cnt
 |fL (w:Nat)
 |JJ
 |K6
 |K7
 |now
 |Xd
structure Fl where
 n0:Bool
 n1:Bool
 c0:Bool
 c1:Bool
 wz:Bool
 tb:Bool
structure Sy where
 N:Int
 c:Int
 ws:Int
 tn:Int
structure Fl.At(f:Fl)(y:Sy):Prop where
 hN:0<=y.N/\y.N<=1000
 hc:0<=y.c/\y.c<=1000
 n0:f.n0=decide (y.N=0)
 n1:f.n1=decide (y.N=1)
 c0:f.c0=decide (y.c=0)
 c1:f.c1=decide (y.c=1)
 wz:f.wz=decide (y.ws=0)
 tb:f.tb=decide (IntKind.i64.wrap (y.tn-y.ws)>1000000)
def SR(y:Sy):SV->Value->Prop
 |.cX,_=>True
 |.lit v,x=>x=v
 |.word L K S a,x=>x=.int .i32 (enc L K S (y.N+a))/\0<=y.N+a/\a<=2
 |.cnt,x=>x=.int .i32 y.N
 |.fL w,x=>x=.int .u64 (fL y.c w)
 |.JJ,x=>x=.int .u64 y.c
 |.K6,x=>x=.int .i32 y.c
 |.K7,x=>x=.int .i64 y.ws
 |.now,x=>x=.int .i64 y.tn
 |.Xd,x=>x=.int .i64 (IntKind.i64.wrap (y.tn-y.ws))
def NX(f:Fl)(op:BinOp)(a b:SV):Option SV:=
 match op,a,b with
 |.and,.word L K S c,.lit (.int .i32 m)=>if 0<=m/\m<8 then some (.lit (.int .i32 (((L.toNat+2*K.toNat+4*S.toNat) &&& m.toNat:Nat):Int)))else none
 |.or,.word L K S c,.lit (.int .i32 m)=>if m=1 then some (.word true K S c)else if m=2 then some (.word L true S c)else if m=4 then some (.word L K true c)else none
 |.andNot,.word L K S c,.lit (.int .i32 m)=>if m=2 then some (.word L false S c)else none
 |.add,.word L K S c,.lit (.int .i32 m)=>if m=8 then(if c<=1 then some (.word L K S (c+1))else none)else if m=1 then(if L=false then some (.word true K S c)else none)else none
 |.sub,.word L K S c,.lit (.int .i32 m)=>if m=8/\c=0/\f.n0=false then some (.word L K S (-1))else none
 |.shr,.word _ _ _ c,.lit (.int .u64 m)=>if m=3/\c=0 then some .cnt else none
 |.eql,.word L K S c,.lit (.int .i32 m)=>if m=0/\c=0 then some (.lit (.bool (!L && !K && !S && f.n0)))else none
 |.neq,.word L K S c,.lit (.int .i32 m)=>if m=0/\c=0 then some (.lit (.bool !(!L && !K && !S && f.n0)))else none
 |.eql,.cnt,.lit (.int .i32 m)=>if m=0 then some (.lit (.bool f.n0))else if m=1 then some (.lit (.bool f.n1))else none
 |.neq,.cnt,.lit (.int .i32 m)=>if m=0 then some (.lit (.bool !f.n0))else if m=1 then some (.lit (.bool !f.n1))else none
 |.and,.fL w,.lit (.int .u64 m)=>if m=2147483648/\w<=1000 then some (.lit (.int .u64 0))else if m=2147483647/\w<=1000 then some (.lit (.int .u64 w))else none
 |.shr,.fL w,.lit (.int .u64 m)=>if m=32/\w<=1000 then some .JJ else none
 |.eql,.K6,.lit (.int .i32 m)=>if m=0 then some (.lit (.bool f.c0))else if m=1 then some (.lit (.bool f.c1))else if m=-1 then some (.lit (.bool false))else none
 |.lss,.K6,.lit (.int .i32 m)=>if m=0 then some (.lit (.bool false))else none
 |.gtr,.K6,.lit (.int .i32 m)=>if m=0 then some (.lit (.bool !f.c0))else none
 |.neq,.fL w,.fL d=>if w=d then some (.lit (.bool false))else none
 |.neq,.fL w,.lit (.int .u64 m)=>if m=0 then some (.lit (.bool !(f.c0 && decide (w=0))))else none
 |.add,.fL w,.lit (.int .u64 m)=>if m=1/\w<=1000 then some (.fL (w+1))else none
 |.eql,.K7,.lit (.int .i64 m)=>if m=0 then some (.lit (.bool f.wz))else none
 |.neq,.K7,.lit (.int .i64 m)=>if m=0 then some (.lit (.bool !f.wz))else none
 |.sub,.now,.K7=>some .Xd
 |.gtr,.Xd,.lit (.int .i64 m)=>if m=1000000 then some (.lit (.bool f.tb))else none
 |_,_,_=>none
def kj{n}(a:-2147483648<=n)(b:n<2147483648):IntKind.i32.wrap n=n:=by rw[IntKind.wrap_i32];omega
def lV{n}(a:0<=n)(b:n<18446744073709551616):IntKind.u64.wrap n=n:=by simp[IntKind.wrap,IntKind.bits,IntKind.signed];omega
def nQ{L K S N}:8*N<=enc L K S N/\enc L K S N<=8*N+7:=by unfold enc;cases L<;>cases K<;>cases S<;>simp[Bool.toNat]<;>omega
def Aa{L K S N}(h:0<=N):enc L K S N=0↔(L=false/\K=false/\S=false/\N=0):=by unfold enc;grind
def yq(a b:Int):(a==b)=decide (a=b):=by grind
def qk{a b c p q}[Decidable p][Decidable q](h:q↔(a=false/\b=false/\c=false/\p)):decide q=(!a && !b && !c && decide p):=by grind
set_option maxHeartbeats 1000000 in
def RY{P f y}(o:f.At y){op t a b r x z}(h:NX f op a b=some r)(g:SR y a x)(hb:SR y b z):∃v,pJ P (binOp op t x z)=some v/\SR y r v:=by
 have hN:=o.hN;have hc:=o.hc;unfold NX at h;split at h
 ·
  rename_i L K S j m;obtain⟨rfl,l,p⟩:=g;have hb:z=.int .i32 m:=hb;subst hb;split at h
  . rename_i d
    simp only[kn]at h;subst h;refine⟨.int .i32 (bits .and .i32 (enc L K S (y.N+j)) m),rfl,?_⟩;have e:m=(m.toNat:Int):=by omega
    show Value.int .i32 _=.int .i32 _;congr 1;rw[e];exact RX ⟨l,by omega⟩ (by omega)
  cases h
 ·
  rename_i L K S j m;obtain⟨rfl,l,p⟩:=g;have hb:z=.int .i32 m:=hb;subst hb;have q:∀k:Nat,k<8->bits .or .i32 (enc L K S (y.N+j)) (k:Int)=((8*(y.N+j).toNat+((L.toNat+2*K.toNat+4*S.toNat)|||k):Nat):Int):=λk D=>UB ⟨l,by omega⟩ D
  have I:(((y.N+j).toNat:Nat):Int)=y.N+j:=Int.toNat_of_nonneg l;split at h
  . rename_i d;subst d
    simp only[kn]at h;subst h;refine⟨.int .i32 (bits .or .i32 (enc L K S (y.N+j)) 1),rfl,?_,l,p⟩;congr 1;have:=q 1 (by omega)
    rw[show((1:Nat):Int)=1 from rfl]at this
    rw[this];unfold enc;cases L<;>cases K<;>cases S<;>simp[Bool.toNat]<;>omega
  split at h
  . rename_i d;subst d
    simp only[kn]at h;subst h;refine⟨.int .i32 (bits .or .i32 (enc L K S (y.N+j)) 2),rfl,?_,l,p⟩;congr 1;have:=q 2 (by omega)
    rw[show((2:Nat):Int)=2 from rfl]at this
    rw[this];unfold enc;cases L<;>cases K<;>cases S<;>simp[Bool.toNat]<;>omega
  split at h
  . rename_i d;subst d
    simp only[kn]at h;subst h;refine⟨.int .i32 (bits .or .i32 (enc L K S (y.N+j)) 4),rfl,?_,l,p⟩;congr 1;have:=q 4 (by omega)
    rw[show((4:Nat):Int)=4 from rfl]at this
    rw[this];unfold enc;cases L<;>cases K<;>cases S<;>simp[Bool.toNat]<;>omega
  cases h
 ·
  rename_i L K S j m;obtain⟨rfl,l,p⟩:=g;have hb:z=.int .i32 m:=hb;subst hb;split at h
  . rename_i d;subst d
    simp only[kn]at h;subst h;refine⟨.int .i32 (bits .andNot .i32 (enc L K S (y.N+j)) 2),rfl,?_,l,p⟩;rw[FQ ⟨l,by omega⟩]
  cases h
 ·
  rename_i L K S j m;obtain⟨rfl,l,p⟩:=g;have hb:z=.int .i32 m:=hb;subst hb;have s:=nQ (L:=L) (K:=K) (S:=S) (N:=y.N+j);split at h
  . rename_i d;subst d
    split at h
    . simp only[kn]at h;subst h
      refine⟨.int .i32 (IntKind.i32.wrap (enc L K S (y.N+j)+8)),rfl,?_,by omega,by omega⟩
      rw[kj (by omega) (by omega)]
      congr 1;unfold enc;omega
    cases h
  split at h
  . rename_i d;subst d
    split at h
    . rename_i E;subst E
      simp only[kn]at h;subst h;refine⟨.int .i32 (IntKind.i32.wrap (enc false K S (y.N+j)+1)),rfl,?_,l,p⟩;rw[kj (by omega) (by omega)]
      congr 1;unfold enc;simp[Bool.toNat];omega
    cases h
  cases h
 ·
  rename_i L K S j m;obtain⟨rfl,l,p⟩:=g;have hb:z=.int .i32 m:=hb;subst hb;have s:=nQ (L:=L) (K:=K) (S:=S) (N:=y.N+j);split at h
  . rename_i d
    obtain⟨rfl,rfl,A⟩:=d;rw[o.n0]at A;simp at A;simp only[kn]at h;subst h;refine⟨.int .i32 (IntKind.i32.wrap (enc L K S (y.N+0)-8)),rfl,?_,by omega,by omega⟩
    rw[kj (by omega) (by omega)]
    congr 1;unfold enc;omega
  cases h
 ·
  rename_i L K S j m;obtain⟨rfl,l,p⟩:=g;have hb:z=.int .u64 m:=hb;subst hb;have s:=nQ (L:=L) (K:=K) (S:=S) (N:=y.N+j);split at h
  . rename_i d
    obtain⟨rfl,rfl⟩:=d;simp only[kn]at h;subst h;refine⟨.int .i32 ((enc L K S (y.N+0)).fdiv (2 ^ 3)),rfl,?_⟩;show Value.int .i32 _=.int .i32 _;congr 1;rw[Int.fdiv_eq_ediv_of_nonneg _ (by decide)]
    omega
  cases h
 ·
  rename_i L K S j m;obtain⟨rfl,l,p⟩:=g;have hb:z=.int .i32 m:=hb;subst hb;split at h
  . rename_i d
    obtain⟨rfl,rfl⟩:=d;simp only[kn]at h;subst h;refine⟨.bool (enc L K S (y.N+0)==0),rfl,?_⟩;show Value.bool _=.bool _;congr 1;rw[o.n0,yq];have:=Aa (L:=L) (K:=K) (S:=S) l;rw[aev]at this ⊢;exact qk this
  cases h
 ·
  rename_i L K S j m;obtain⟨rfl,l,p⟩:=g;have hb:z=.int .i32 m:=hb;subst hb;split at h
  . rename_i d
    obtain⟨rfl,rfl⟩:=d;simp only[kn]at h;subst h;refine⟨.bool (enc L K S (y.N+0)!=0),rfl,?_⟩;show Value.bool _=.bool _;congr 1;rw[o.n0];have:=Aa (L:=L) (K:=K) (S:=S) l;rw[aev]at this ⊢;rw[bne,yq,qk this]
  cases h
 ·
  rename_i m;have g:x=.int .i32 y.N:=g;have hb:z=.int .i32 m:=hb;subst g;subst hb;split at h
  . rename_i d;subst d
    simp only[kn]at h;subst h;exact⟨.bool (y.N==0),rfl,by show Value.bool _=.bool _;rw[o.n0,yq]⟩
  split at h
  . rename_i d;subst d
    simp only[kn]at h;subst h;exact⟨.bool (y.N==1),rfl,by show Value.bool _=.bool _;rw[o.n1,yq]⟩
  cases h
 . rename_i m
   have g:x=.int .i32 y.N:=g;have hb:z=.int .i32 m:=hb;subst g;subst hb;split at h
   . rename_i d;subst d
     simp only[kn]at h;subst h;exact⟨.bool (y.N !=0),rfl,by show Value.bool _=.bool _;rw[o.n0,bne,yq]⟩
   split at h
   . rename_i d;subst d
     simp only[kn]at h;subst h;exact⟨.bool (y.N !=1),rfl,by show Value.bool _=.bool _;rw[o.n1,bne,yq]⟩
   cases h
 ·
  rename_i w m;have g:x=.int .u64 (fL y.c w):=g;have hb:z=.int .u64 m:=hb;subst g;subst hb
  have F:fL y.c w=((y.c.toNat*4294967296+w:Nat):Int):=by have:((y.c.toNat:Nat):Int)=y.c:=Int.toNat_of_nonneg hc.1;rw[Int.natCast_add,Int.natCast_mul,this];rfl
  split at h
  . rename_i d
    obtain⟨rfl,u⟩:=d;simp only[kn]at h;subst h;refine⟨.int .u64 (bits .and .u64 (fL y.c w) 2147483648),rfl,?_⟩;show Value.int .u64 _=.int .u64 _;congr 1
    have G:bits .and .u64 (fL y.c w) 4294967295=(w:Int):=by
     have:=bits_mask .u64 64 (by decide) (λn a b=>lV a b) 32 (by omega) (fL y.c w) (by unfold fL;omega) (by unfold fL;omega)
     rw[show((2:Int) ^ 32-1)=4294967295 from rfl]at this
     rw[this];unfold fL;omega
    rw[F,show(2147483648:Int)=((2147483648:Nat):Int)from rfl,(bits_nat .u64 64 (by decide) (λn a b=>lV a b) _ _ (by omega) (by omega)).1]
    have e:(y.c.toNat*4294967296+w) &&& 2147483648=0:=by
     apply Nat.eq_of_testBit_eq;intro i;rw[Nat.testBit_and,Nat.zero_testBit]
     have hb:(2147483648:Nat).testBit i=decide (31=i):=by have:=Nat.testBit_two_pow (n:=31) (m:=i);simpa using this
     rw[hb]
     by_cases B:31=i
     . subst B
       have l:=ady (i:=32) y.c.toNat (b:=w) (by omega) 31
       simp only[show 31<32 by omega,aay]at l
       rw[show y.c.toNat*4294967296+w=2 ^ 32*y.c.toNat+w by omega,l]
       rw[Nat.testBit_lt_two_pow (by omega:w<2 ^ 31)];rfl
     simp[B]
    rw[e];rfl
  split at h
  . rename_i d
    obtain⟨rfl,u⟩:=d;simp only[kn]at h;subst h;refine⟨.int .u64 (bits .and .u64 (fL y.c w) 2147483647),rfl,?_⟩;show Value.int .u64 _=.int .u64 _;congr 1;have:=bits_mask .u64 64 (by decide) (λn a b=>lV a b) 31 (by omega) (fL y.c w) (by unfold fL;omega) (by unfold fL;omega)
    rw[show((2:Int) ^ 31-1)=2147483647 from rfl]at this
    rw[this];unfold fL;omega
  cases h
 ·
  rename_i w m;have g:x=.int .u64 (fL y.c w):=g;have hb:z=.int .u64 m:=hb;subst g;subst hb;split at h
  . rename_i d
    obtain⟨rfl,u⟩:=d;simp only[kn]at h;subst h;refine⟨.int .u64 ((fL y.c w).fdiv (2 ^ 32)),rfl,?_⟩;show Value.int .u64 _=.int .u64 _;congr 1;rw[Int.fdiv_eq_ediv_of_nonneg _ (by decide)]
    unfold fL;omega
  cases h
 . rename_i m
   have g:x=.int .i32 y.c:=g;have hb:z=.int .i32 m:=hb;subst g;subst hb;split at h
   . rename_i d;subst d
     simp only[kn]at h;subst h;exact⟨.bool (y.c==0),rfl,by show Value.bool _=.bool _;rw[o.c0,yq]⟩
   split at h
   . rename_i d;subst d
     simp only[kn]at h;subst h;exact⟨.bool (y.c==1),rfl,by show Value.bool _=.bool _;rw[o.c1,yq]⟩
   split at h
   . rename_i d;subst d
     simp only[kn]at h;subst h;refine⟨.bool (y.c==-1),rfl,?_⟩;show Value.bool _=.bool _;have:¬y.c=-1:=by omega
     rw[yq];simp[this]
   cases h
 . rename_i m
   have g:x=.int .i32 y.c:=g;have hb:z=.int .i32 m:=hb;subst g;subst hb;split at h
   . rename_i d;subst d
     simp only[kn]at h;subst h;refine⟨.bool (decide (y.c<0)),rfl,?_⟩;show Value.bool _=.bool _;have:¬y.c<0:=by omega
     simp[this]
   cases h
 . rename_i m
   have g:x=.int .i32 y.c:=g;have hb:z=.int .i32 m:=hb;subst g;subst hb;split at h
   . rename_i d;subst d
     simp only[kn]at h;subst h;refine⟨.bool (decide (y.c>0)),rfl,?_⟩;show Value.bool _=.bool _;rw[o.c0];congr 1
     by_cases C:y.c=0
     . simp[C]
     have:y.c>0:=by omega
     simp[C,this]
   cases h
 . rename_i w H
   have g:x=.int .u64 (fL y.c w):=g;have hb:z=.int .u64 (fL y.c H):=hb;subst g;subst hb;split at h
   . rename_i d;subst d
     simp only[kn]at h;subst h;exact⟨.bool (fL y.c w !=fL y.c w),rfl,by show Value.bool _=.bool _;simp⟩
   cases h
 . rename_i w m
   have g:x=.int .u64 (fL y.c w):=g;have hb:z=.int .u64 m:=hb;subst g;subst hb;split at h
   . rename_i d;subst d
     simp only[kn]at h;subst h;refine⟨.bool (fL y.c w !=0),rfl,?_⟩;show Value.bool _=.bool _;rw[o.c0];congr 1;have:fL y.c w=0↔(y.c=0/\w=0):=by unfold fL;omega
     rw[bne,yq]
     have e:decide (fL y.c w=0)=(decide (y.c=0) && decide (w=0)):=by rw[adB,zj,adQ,adQ,adQ];exact this
     rw[e]
   cases h
 . rename_i w m
   have g:x=.int .u64 (fL y.c w):=g;have hb:z=.int .u64 m:=hb;subst g;subst hb;split at h
   . rename_i d
     obtain⟨rfl,u⟩:=d;simp only[kn]at h;subst h;refine⟨.int .u64 (IntKind.u64.wrap (fL y.c w+1)),rfl,?_⟩;show Value.int .u64 _=.int .u64 _;rw[lV (by unfold fL;omega) (by unfold fL;omega)]
     congr 1;unfold fL;push_cast;omega
   cases h
 . rename_i m
   have g:x=.int .i64 y.ws:=g;have hb:z=.int .i64 m:=hb;subst g;subst hb;split at h
   . rename_i d;subst d
     simp only[kn]at h;subst h;exact⟨.bool (y.ws==0),rfl,by show Value.bool _=.bool _;rw[o.wz,yq]⟩
   cases h
 . rename_i m
   have g:x=.int .i64 y.ws:=g;have hb:z=.int .i64 m:=hb;subst g;subst hb;split at h
   . rename_i d;subst d
     simp only[kn]at h;subst h;exact⟨.bool (y.ws !=0),rfl,by show Value.bool _=.bool _;rw[o.wz,bne,yq]⟩
   cases h
 . have g:x=.int .i64 y.tn:=g
   have hb:z=.int .i64 y.ws:=hb;subst g;subst hb;simp only[kn]at h;subst h;exact⟨_,rfl,rfl⟩
 . rename_i m
   have g:x=.int .i64 (IntKind.i64.wrap (y.tn-y.ws)):=g;have hb:z=.int .i64 m:=hb;subst g;subst hb;split at h
   . rename_i d;subst d
     simp only[kn]at h;subst h;exact⟨.bool (decide (IntKind.i64.wrap (y.tn-y.ws)>1000000)),rfl,by show Value.bool _=.bool _;rw[o.tb]⟩
   cases h
 cases h
inductive FT where
 |run
 |ret
def FT.of:FT->FrameMode
 |.run=>.run
 |.ret=>.returning
structure sa where
 fn:FuncId
 todo:afb
 env:List SV
 defers:List Deferred
 mode:FT
 kind:afj
def sv(env:List SV):afo->SV
 |.tmp t=>env.getD t .cX
 |.const v=>.lit v
 |.global g=>.lit (.pointer (some ⟨g,0,none⟩))
 |.func f=>.lit (.func (.func f) #[] #[])
def Zi(P:afn)(f:Fl)(ρ:afo->SV)(o:Op):Option SV:=
 match o with
 |.move x=>some (ρ x)
 |.assign x=>some (ρ x)
 |.pick c a b=>match ρ c with|.lit (.bool x)=>some (if x then ρ a else ρ b)|_=>none
 | .binOp op t x y _=>
   match NX f op (ρ x) (ρ y)with
   |some r=>some r
   | none=>match ρ x,ρ y with
     |.lit (.int k a),.lit (.int d b)=>(pJ P (binOp op t (.int k a) (.int d b))).map .lit
     |_,_=>none
 |.unOp .not _ x=>match ρ x with|.lit (.bool b)=>some (.lit (.bool !b))|_=>none
 |.nilCheck x=>match ρ x with|.lit (.pointer (some a))=>some (.lit (.pointer (some a)))|_=>none
 |.fieldAddr s x e=>match ρ x with|.lit (.pointer (some a))=>(pJ P (Instr.fieldAt s (.pointer (some a)) e)).map .lit|_=>none
 | .convert src dst x=>
   match ρ x with
   |.lit v=>(pJ P (convert src dst v)).map .lit
   |.JJ=>match P.underlying src,P.underlying dst with|some _,some (.int .i32)=>some .K6|_,_=>none
   |_=>none
 |_=>none
def FU{P op t x y k k' a b}:pJ P (eqGuard op t x y (.int k a) (.int k' b))=some ():=by unfold eqGuard;split<;>rfl
def SR.int{y a x}(h:SR y a x)(b:∀v,a≠.lit v)(hj:a≠.cX):∃k n,x=.int k n:=by
 cases a with
 |cX=>simp_all
 |lit v=>simp_all
 |word _ _ _ _=>exact⟨_,_,h.1⟩
 |_=>exact⟨_,_,h⟩
def NY{f op a b r y x z}(h:NX f op a b=some r)(g:SR y a x)(hb:SR y b z):∃k n k' c,x=.int k n/\z=.int k' c:=by
 unfold NX at h
 split at h<;>first
  |(cases h;done)
  | (obtain⟨k,n,d⟩:=g.int (by intro v e;cases e) (by intro e;cases e)
     first
     |exact⟨k,n,_,_,d,hb⟩
     |(obtain⟨k',c,i⟩:=hb.int (by intro v e;cases e) (by intro e;cases e);exact⟨k,n,k',c,d,i⟩))
def D9{α P s}{g:α->SV}{r}(h:(pJ P s).map g=some r):∃a,pJ P s=some a/\r=g a:=by
 cases q:pJ P s with
 |none=>simp_all
 |some a=>simp_all
def tu{P s v}(h:pJ P s=some v):pJ P (do pure (.value (<-s)):Sem Next)=some (.value v):=by
 show pJ P (Sem.bind s λa=>(pure (Next.value a):Sem Next))=_;rw[nP s h];rfl
def UF{P f y}(A:f.At y){ρ ρ' o r}(h:Zi P f ρ o.op=some r)(i:∀x,SR y (ρ x) (ρ' x)):∃v,pJ P (execOp ρ' o)=some (.value v)/\SR y r v:=by
 unfold Zi at h;split at h
 . rename_i x e
   simp only[kn]at h;subst h;exact⟨ρ' x,by simp[execOp,e];rfl,i x⟩
 . rename_i x e
   simp only[kn]at h;subst h;exact⟨ρ' x,by simp[execOp,e];rfl,i x⟩
 . rename_i c a b e
   split at h
   . rename_i x j
     simp only[kn]at h;subst h;have hc:=i c;rw[j]at hc;have hc:ρ' c=.bool x:=hc;refine⟨if x then ρ' a else ρ' b,?_,?_⟩
     . simp only[execOp,e,hc]
       cases x<;>rfl
     grind
   cases h
 . rename_i op t x z nl e
   have key:∀{k n m p},ρ' x=.int k n->ρ' z=.int m p->∀{v},pJ P (binOp op t (.int k n) (.int m p))=some v->pJ P (execOp ρ' o)=some (.value v):=by
    intro k n m p g q v l;have:execOp ρ' o=(do pure (.value (<-(do eqGuard op t x z (ρ' x) (ρ' z);binOp op t (ρ' x) (ρ' z)))):Sem Next):=by simp only[execOp,e]
    rw[this,g,q];refine tu ?_;show pJ P ((eqGuard op t x z (.int k n) (.int m p)).bind λ_=>binOp op t (.int k n) (.int m p))=_
    rw[nP _ FU];exact l
   split at h
   . rename_i F w
     simp only[kn]at h;subst h;obtain⟨k,n,m,p,g,q⟩:=NY w (i x) (i z);obtain⟨v,l,G⟩:=RY (P:=P) A (t:=t) w (i x) (i z)
     simp_all
   split at h
   . rename_i k a m b j B
     obtain⟨v,l,rfl⟩:=D9 h;have g:=i x;have q:=i z;rw[j]at g;rw[B]at q;exact⟨v,key g q l,rfl⟩
   cases h
 . rename_i t x e
   split at h
   . rename_i b j
     simp only[kn]at h;subst h;have g:=i x;rw[j]at g;have g:ρ' x=.bool b:=g;exact⟨.bool !b,by simp only[execOp,e,g];rfl,rfl⟩
   cases h
 . rename_i x e
   split at h
   . rename_i a j
     simp only[kn]at h;subst h;have g:=i x;rw[j]at g;have g:ρ' x=.pointer (some a):=g;exact⟨_,by simp only[execOp,e,g];rfl,rfl⟩
   cases h
 . rename_i s x H e
   split at h
   . rename_i a j
     obtain⟨v,l,rfl⟩:=D9 h;have g:=i x;rw[j]at g;have g:ρ' x=.pointer (some a):=g;refine⟨v,?_,rfl⟩;simp only[execOp,e,g];exact tu l
   cases h
 . rename_i src dst x e
   split at h
   . rename_i u j
     obtain⟨v,l,rfl⟩:=D9 h;have g:=i x;rw[j]at g;have g:ρ' x=u:=g;refine⟨v,?_,rfl⟩;simp only[execOp,e,g];exact tu l
   . rename_i j
     split at h
     . rename_i d w hd
       simp only[kn]at h;subst h;have g:=i x;rw[j]at g;have g:ρ' x=.int .u64 y.c:=g;refine⟨.int .i32 y.c,?_,rfl⟩;simp only[execOp,e,g];refine tu ?_
       have C:pJ P (underlying src)=some d:=by unfold underlying;show pJ P (Sem.bind program _)=_;rw[nP program (a:=P) rfl,w];rfl
       have D:pJ P (underlying dst)=some (.int .i32):=by unfold underlying;show pJ P (Sem.bind program _)=_;rw[nP program (a:=P) rfl,hd];rfl
       unfold convert;show pJ P (Sem.bind (underlying src) _)=_;rw[nP _ C];show pJ P (Sem.bind (underlying dst) _)=_;rw[nP _ D];have E:IntKind.i32.wrap y.c=y.c:=kj (by have:=A.hc;omega) (by have:=A.hc;omega)
       show some (Value.int .i32 (IntKind.i32.wrap y.c))=_;rw[E]
     cases h
   cases h
 cases h
def Cr(ops:aeW)(env:List SV)(o:Oper):Option Bool:=
 match o.guard with
 |none=>some true
 | some (j,b)=>match (ops[j]?).bind (·.dst)with
   | some d=>match env.getD d .cX with
     |.lit (.bool x)=>some (x==b)
     |_=>none
   |none=>none
def Ab(fr:sa)(v:SV):Option sa:=
 match fr.todo with
 |.inRegion ops (i::rest)::k=>some {fr with env:=(match (ops[i]?).bind (·.dst)with|some d=>fr.env.set d v|none=>fr.env),todo:=.inRegion ops rest::k}
 |_=>none
def Xe(fn:Func)(env:List SV):Option SV:=
 match fn.results.toList with
 |[]=>some (.lit (.tuple #[]))
 |[.tmp t]=>some (env.getD t .cX)
 |_=>none
def TC(P:afn)(env:List SV)(c:Call):Option sa:=
 match c.callee with
 | .value (.func g)=>match P.funcs[g]? with
   | some fn=>match fn.body with
     |some body=>if fn.name= "runtime.NumGoroutine" then none else some {fn:=g,todo:=[.code body],env:=c.args.toList.map (sv env)++List.replicate (fn.ntmps-c.args.size) .cX,defers:=[],mode:=.run,kind:=.normal}
     |none=>none
   |none=>none
 |_=>none
def NZ(c:Call):Option Deferred:=
 match c.callee with
 |.value (.func g)=>if c.args=#[]then some {target:=.fn (.func g) #[],args:=#[]}else none
 |_=>none
def ss(P : afn)(f:Fl)(fr:sa)(st:List sa):Option (sa × List sa):=
 match fr.mode with
 | .ret=>match st with
   |[]=>none
   | c ::e=>match fr.defers,fr.kind,P.funcs[fr.fn]? with
     | [],.normal,some fn=>match Xe fn fr.env with
       |some v=>(Ab c v).map (·,e)
       |none=>none
     |_,_,_=>none
 | .run => match fr.todo with
   |[]=>some ({fr with mode:=.ret},st)
   |.code .ret::_=>some ({fr with mode:=.ret},st)
   |.code .skip::k=>some ({fr with todo:=k},st)
   |.inBlock _::k=>some ({fr with todo:=k},st)
   |.inScope _::k=>some ({fr with todo:=k},st)
   |.inRegion _ []::k=>some ({fr with todo:=k},st)
   |.code (.seq a b)::k=>some ({fr with todo:=.code a::.code b::k},st)
   |.code (.block id c)::k=>some ({fr with todo:=.code c::.inBlock id::k},st)
   |.code (.scope c)::k=>some ({fr with todo:=.code c::.inScope c::k},st)
   |.code (.loop c)::k=>some ({fr with todo:=.code c::.inLoop c::k},st)
   |.inLoop c::k=>some ({fr with todo:=.code c::.inLoop c::k},st)
   |.code (.exit id)::k=>(exitTo id k).map λg=>({fr with todo:=g},st)
   | .code (.cond c a b)::k=>match sv fr.env c with
     |.lit (.bool x)=>some ({fr with todo:=.code (if x then a else b)::k},st)
     |_=>none
   |.code (.region id ops false)::k=>some ({fr with todo:=.inRegion ops (List.range ops.size)::k},st)
   | .inRegion ops (i::rest)::k=>match ops[i]? with
     |none=>none
     | some o=>match Cr ops fr.env o with
       |none=>none
       |some false=>(Ab fr .cX).map (·,st)
       | some true=>match o.op with
         |.call c=>(TC P fr.env c).map (·,fr::st)
         | .defer c=>match NZ c with
           |some d=>(Ab fr .cX).map λs=>({s with defers:=d::s.defers},st)
           |none=>none
         | op=>match Zi P f (sv fr.env) op with
           |some v=>(Ab fr v).map (·,st)
           |none=>none
   |_=>none
def sgo(P:afn)(f:Fl):Nat->sa->List sa->sa × List sa
 |0,fr,st=>(fr,st)
 | n+1,fr,st=>match ss P f fr st with
   |some (a,b)=>sgo P f n a b
   |none=>(fr,st)
structure FR  y  (s:sa) (fr:Frame):Prop where
 fn:fr.fn=s.fn
 todo:fr.todo=s.todo
 defers:fr.defers=s.defers
 mode:fr.mode=s.mode.of
 kind:fr.kind=s.kind
 ro:fr.roundOf=none
 size:fr.tmps.size=s.env.length
 env:∀t,SR y (s.env.getD t .cX) (fr.tmps.getD t undef)
def oz(y:Sy):List sa->aeY->Prop
 |[],[]=>True
 |s::ss,f::fs=>FR y s f/\oz y ss fs
 |_,_=>False
def vo(P:afn)(Wd:aeT)(g g':afd):Prop:=g.status=.running/\∀main w,Wd w->stepG P main g w=.go g' w #[]
def kB(P:afn)(Wd:aeT):Nat->afd->afd->Prop
 |0,g,a=>g=a
 |n+1,g,a=>∃b,vo P Wd g b/\kB P Wd n b a
def vp(P:afn)(Wd:aeT)(g g':afd):Prop:=∃n,kB P Wd n g g'
def kB.trans{P Wd}:∀{n m a b c},kB P Wd n a b->kB P Wd m b c->kB P Wd (n+m) a c
 |0,m,a,b,c,h,d=>by obtain rfl:=h;simp_all
 | n+1,m,a,b,c,h,d=>by
   obtain⟨e,f,g⟩:=h;rw[show n+1+m=(n+m)+1 by omega];exact⟨e,f,g.trans d⟩
def vp.trans{P Wd a b c}(h:vp P Wd a b)(d:vp P Wd b c):vp P Wd a c:=let ⟨n,h⟩:=h;let ⟨m,d⟩:=d;⟨n+m,h.trans d⟩
def vo.Ct{P Wd a b}(h:vo P Wd a b):vp P Wd a b:=⟨1,b,h,rfl⟩
def FR.sv{y:Sy}{s:sa}{fr:Frame}(h:FR y s fr)(x:afo):SR y (sv s.env x) (fr.eval x):=by
 cases x with
 |tmp t=>exact h.env t
 |const v=>rfl
 |global g=>rfl
 |func f=>rfl
def FR.fin{y s s' fr v x}(h:FR y s fr)(a:Ab s v=some s')(p:SR y v x):FR y s' (fr.finish x):=by
 obtain⟨fn,tmps,todo,defs,mode,kind,ro⟩:=fr;obtain⟨b,c,f,g,j,l,m,n⟩:=h;simp only at b c f g j l m n;subst c;unfold Ab at a;split at a
 . rename_i ops i rest k e
   simp only[kn]at a;subst a;simp only[Frame.finish,e];refine⟨b,rfl,f,g,j,l,?_,λt=>?_⟩
   . grind
   cases q:(ops[i]?).bind (·.dst)with
   |none=>simp_all
   | some d=>
     simp only;by_cases o:d=t
     . subst o
       by_cases hd:d<tmps.size
       . simp_all
       grind
     simp_all
 cases a
def sF{y s fr ops o b}(h:FR y s fr)(a:Cr ops s.env o=some b):Region.wanted o (yielded ops fr.tmps)=b:=by
 unfold Cr at a;unfold Region.wanted;cases i:o.guard with
 |none=>simp_all
 | some p=>
   obtain⟨j,c⟩:=p;rw[i]at a;simp only at a ⊢;cases g:ops[j]? with
   |none=>simp_all
   | some k=>
     rw[g]at a;cases hd:k.dst with
     |none=>simp_all
     | some d=>
       simp only[Option.bind_some,hd]at a;have f:=h.env d;split at a
       . rename_i x l
         rw[l]at f;have f:fr.tmps.getD d undef=.bool x:=f
         have e:fr.tmps[d]?=some (.bool x):=by
          by_cases e:d<fr.tmps.size
          . simp_all
          simp[Array.getD,e,undef]at f
         simp only[kn]at a;simp[yielded,g,hd,e,a]
       cases a
def oz.oR{y fs}(h:oz y [] fs):fs=[]:=by cases fs with|nil=>rfl|cons _ _=>exact h.elim
def oz.cons_inv{y s l fs}(h:oz y (s::l) fs):∃f a,fs=f::a/\FR y s f/\oz y l a:=by
 cases fs with
 |nil=>exact h.elim
 |cons f a=>exact⟨f,a,rfl,h.1,h.2⟩
def iT{P fn}:seen P fn #[]=#[]:=rfl
def apply_pure{P fr cs s n}(h:pJ P s=some n)  w :stepG.apply P true fr cs none s w=stepG.apply P true fr cs none (pure n) w:=by have a:=NW s h w #[];have b:(pure n:Sem Next).runT P w #[]=(.ok n w,#[]):=rfl;simp only[stepG.apply,aay,a,b]
def qm{P main fid k ops i rest o tmps defs kind cs}(a:ops[i]?=some o)(b:Region.wanted o (yielded ops tmps)=true)  w :
 stepG P main (G ⟨fid,tmps,.inRegion ops (i::rest)::k,defs,.run,kind,none⟩ cs) w=
  stepG.apply P true ⟨fid,tmps,.inRegion ops (i::rest)::k,defs,.run,kind,none⟩ cs none (execOp (Frame.eval ⟨fid,tmps,.inRegion ops (i::rest)::k,defs,.run,kind,none⟩) o) w:=by
 simp only[G,stepG,stepG.exec,stepG.oper,Frame.oper?,a,b,aaT,acm,aay]
def N1{P main fid k ops i rest o tmps defs kind cs}(a:ops[i]?=some o)(b:Region.wanted o (yielded ops tmps)=false)  w :
 stepG P main (G ⟨fid,tmps,.inRegion ops (i::rest)::k,defs,.run,kind,none⟩ cs) w=.go (G (Frame.finish ⟨fid,tmps,.inRegion ops (i::rest)::k,defs,.run,kind,none⟩ undef) cs) w #[]:=by
 have h:((ops[i]?).map (Region.wanted · (yielded ops tmps))).getD false=false:=by grind
 simp only[G,stepG,stepG.exec,h];rfl
def BQ{P ρ o c g fn body}(e:o.op=.call c)(f:c.callee=.value (.func g))(h:P.funcs[g]?=some fn)(hb:fn.body=some body)(b:fn.name≠ "runtime.NumGoroutine")(d:ρ (.func g)=.func (.func g) #[] #[]):
 pJ P (execOp ρ o)=some (.enter g (c.args.map ρ)):=by
 simp only[execOp,e,resolve,f,d,Deferred.ofValue];show pJ P (callFunc g ((#[]++c.args.map ρ)++#[]))=_;unfold callFunc;show pJ P (Sem.bind program _)=_;rw[nP program (a:=P) rfl];simp[h,hb,b];rfl
def TD{P Wd f y}(hf:f.At y){s s' st D fr frs}(h:ss P f s st=some (s',D))(hr:FR y s fr)(A:oz y st frs):
 ∃r l,FR y s' r/\oz y D l/\∀cs,vo P Wd (G fr (frs++cs)) (G r (l++cs)):=by
 have q:=hr;obtain⟨fn,tmps,todo,defs,mode,kind,ro⟩:=fr;obtain⟨S,m,L,I,M,h6,X,T⟩:=hr;simp only at S m L I M h6 X T;subst h6;unfold ss at h;split at h
 ·
  rename_i U;rw[U]at I;have I:mode=.returning:=I;subst I;split at h
  . cases h
  rename_i c a9;split at h
  . rename_i E hd hk F
    obtain⟨fc,l,rfl,hc,Y⟩:=A.cons_inv;split at h
    . rename_i v C
      obtain⟨V,j,e⟩:=aaD.1 h;simp only[zU]at e;obtain⟨rfl,rfl⟩:=e
      have N:∃x,SR y v x/\∀w,(results E tmps).runT P w #[]=(.ok x w,#[]):=by
       unfold Xe at C;split at C
       . rename_i O
         simp only[kn]at C;subst C;have O:E.results=#[]:=by simp_all
         exact⟨.tuple #[],rfl,λw=>by simp[results,O]⟩
       . rename_i t O
         simp only[kn]at C;subst C;have O:E.results=#[.tmp t]:=by grind
         exact⟨tmps.getD t undef,T t,λw=>by simp[results,O]⟩
       cases C
      obtain⟨x,Z,ad⟩:=N;refine⟨fc.finish x,l,hc.fin j Z,Y,λcs=>⟨rfl,λmain w _=>?_⟩⟩;rw[hd]at L;rw[hk]at M;subst L;subst M;subst S;have e1:(results E tmps).run P w=.ok x w:=by simp_all
      have e2:(results E tmps).events P w #[]=#[]:=by simp_all
      simp[G,stepG,unwind,F,e1,e2,doReturn,GStep.after,iT]
    cases h
  cases h
 rename_i U;rw[U]at I;have I:mode=.run:=I;subst I
 have ctl:∀B:afb,(∀main cs w,stepG P main (G ⟨fn,tmps,todo,defs,.run,kind,none⟩ (frs++cs)) w=.go (G ⟨fn,tmps,B,defs,.run,kind,none⟩ (frs++cs)) w #[])->some ({s with todo:=B},st)=some (s',D) ->
  ∃r l,FR y s' r/\oz y D l/\∀cs,vo P Wd (G ⟨fn,tmps,todo,defs,.run,kind,none⟩ (frs++cs)) (G r (l++cs)):=λB hs e=>by
  simp only[kn,zU]at e;obtain⟨rfl,rfl⟩:=e;exact⟨_,frs,⟨S,rfl,L,by rw[U];rfl,M,rfl,X,T⟩,A,λcs=>⟨rfl,λmain w _=>hs main cs w⟩⟩
 have ret:(∀main cs w,stepG P main (G ⟨fn,tmps,todo,defs,.run,kind,none⟩ (frs++cs)) w=.go (G ⟨fn,tmps,todo,defs,.returning,kind,none⟩ (frs++cs)) w #[])->some ({s with mode:=.ret},st)=some (s',D) ->
  ∃r l,FR y s' r/\oz y D l/\∀cs,vo P Wd (G ⟨fn,tmps,todo,defs,.run,kind,none⟩ (frs++cs)) (G r (l++cs)):=λhs e=>by
  simp only[kn,zU]at e;obtain⟨rfl,rfl⟩:=e;exact⟨_,frs,⟨S,m,L,rfl,M,rfl,X,T⟩,A,λcs=>⟨rfl,λmain w _=>hs main cs w⟩⟩
 split at h
 . rename_i n;rw[n]at m;subst m
   exact ret (λ_ _ _=>by simp[G,stepG,stepG.exec]) h
 . rename_i n;rw[n]at m;subst m
   exact ret (λ_ _ _=>by simp[G,stepG,stepG.exec]) h
 . rename_i n;rw[n]at m;subst m
   exact ctl _ (λ_ _ _=>by simp[G,stepG,stepG.exec]) h
 . rename_i n;rw[n]at m;subst m
   exact ctl _ (λ_ _ _=>by simp[G,stepG,stepG.exec]) h
 . rename_i n;rw[n]at m;subst m
   exact ctl _ (λ_ _ _=>by simp[G,stepG,stepG.exec]) h
 . rename_i n;rw[n]at m;subst m
   exact ctl _ (λ_ _ _=>by simp[G,stepG,stepG.exec]) h
 . rename_i n;rw[n]at m;subst m
   exact ctl _ (λ_ _ _=>by simp[G,stepG,stepG.exec]) h
 . rename_i n;rw[n]at m;subst m
   exact ctl _ (λ_ _ _=>by simp[G,stepG,stepG.exec]) h
 . rename_i n;rw[n]at m;subst m
   exact ctl _ (λ_ _ _=>by simp[G,stepG,stepG.exec]) h
 . rename_i n;rw[n]at m;subst m
   exact ctl _ (λ_ _ _=>by simp[G,stepG,stepG.exec]) h
 . rename_i n;rw[n]at m;subst m
   exact ctl _ (λ_ _ _=>by simp[G,stepG,stepG.exec]) h
 . rename_i id k n;rw[n]at m;subst m
   obtain⟨k',he,e⟩:=aaD.1 h;exact ctl k' (λ_ _ _=>by simp[G,stepG,stepG.exec,he]) (by rw[e])
 . rename_i c a b k n;rw[n]at m;subst m
   split at h
   . rename_i x Q
     have C:=q.sv c;rw[Q]at C;have C:Frame.eval ⟨fn,tmps,.code (.cond c a b)::k,defs,.run,kind,none⟩ c=.bool x:=C;exact ctl _ (λ_ _ _=>by simp[G,stepG,stepG.exec,C]) h
   cases h
 . rename_i n;rw[n]at m;subst m
   exact ctl _ (λ_ _ _=>by simp[G,stepG,stepG.exec]) h
 . rename_i ops i rest k n;rw[n]at m;subst m
   split at h
   . cases h
   rename_i o W;split at h
   . cases h
   . rename_i hw
     obtain⟨V,j,e⟩:=aaD.1 h;simp only[zU]at e;obtain⟨rfl,rfl⟩:=e;exact⟨_,frs,q.fin j trivial,A,λcs=>⟨rfl,λmain w _=>N1 W (sF q hw) w⟩⟩
   rename_i hw;have J:=sF q hw;split at h
   . rename_i c K
     obtain⟨V,j,e⟩:=aaD.1 h;simp only[zU]at e;obtain⟨rfl,rfl⟩:=e;unfold TC at j;split at j
     . rename_i g R
       split at j
       . rename_i E F
         split at j
         . rename_i body H
           split at j
           . cases j
           rename_i a7;simp only[kn]at j;subst j;refine⟨Frame.enter P g (c.args.map (Frame.eval ⟨fn,tmps,.inRegion ops (i::rest)::k,defs,.run,kind,none⟩)) .normal,⟨fn,tmps,.inRegion ops (i::rest)::k,defs,.run,kind,none⟩::frs,?_,⟨q,A⟩,λcs=>⟨rfl,λmain w _=>?_⟩⟩
           . refine⟨rfl,by simp[Frame.enter,F,H],rfl,rfl,rfl,rfl,by simp[Frame.enter,F],λt=>?_⟩
             simp only[Frame.enter,F,aaT,acm];rw[aeg,zD];by_cases n:t<c.args.size
             . rw[aei (by simp_all),aaX (by simp_all)]
               simp only[adz,aaM,aeB];rw[aaJ n];exact q.sv _
             rw[adH (by simp;omega),aaP (by simp;omega)];simp only[aac,Array.length_toList,List.getElem?_replicate];split<;>trivial
           rw[qm W J,apply_pure (BQ K R F H a7 rfl)];simp only[stepG.apply,aay,GStep.after];have u:(pure (.enter g (c.args.map (Frame.eval ⟨fn,tmps,.inRegion ops (i::rest)::k,defs,.run,kind,none⟩))):Sem Next).runT P w #[]=(.ok (.enter g (c.args.map (Frame.eval ⟨fn,tmps,.inRegion ops (i::rest)::k,defs,.run,kind,none⟩))) w,#[]):=rfl;simp only[u,ite_self,iT,G,List.cons_append];rfl
         cases j
       cases j
     cases j
   . rename_i c K
     split at h
     . rename_i d hd
       obtain⟨V,j,e⟩:=aaD.1 h;simp only[zU]at e;obtain⟨rfl,rfl⟩:=e
       have Q:pJ P (execOp (Frame.eval ⟨fn,tmps,.inRegion ops (i::rest)::k,defs,.run,kind,none⟩) o)=some (.defer d):=by
        unfold NZ at hd;split at hd
        . rename_i g hg
          split at hd
          . rename_i ha
            simp only[kn]at hd;subst hd;have em:(#[]:Array afo).map (Frame.eval ⟨fn,tmps,.inRegion ops (i::rest)::k,defs,.run,kind,none⟩)=#[]:=by simp
            simp only[execOp,K,resolve,hg,ha,em];rfl
          cases hd
        cases hd
       have p:=q.fin (x:=undef) j trivial;have e1:Frame.finish ⟨fn,tmps,.inRegion ops (i::rest)::k,d::defs,.run,kind,none⟩ undef={Frame.finish ⟨fn,tmps,.inRegion ops (i::rest)::k,defs,.run,kind,none⟩ undef with defers:=d::(Frame.finish ⟨fn,tmps,.inRegion ops (i::rest)::k,defs,.run,kind,none⟩ undef).defers}:=rfl;refine⟨{Frame.finish ⟨fn,tmps,.inRegion ops (i::rest)::k,defs,.run,kind,none⟩ undef with defers:=d::(Frame.finish ⟨fn,tmps,.inRegion ops (i::rest)::k,defs,.run,kind,none⟩ undef).defers},frs,⟨p.fn,p.todo,congrArg (List.cons d) p.defers,p.mode,p.kind,p.ro,p.size,p.env⟩,A,λcs=>⟨rfl,λmain w _=>?_⟩⟩;rw[qm W J,apply_pure Q];have u:(pure (.defer d):Sem Next).runT P w #[]=(.ok (.defer d) w,#[]):=rfl;simp only[stepG.apply,aay,u,ite_self,iT,GStep.after,G]
       grind
     cases h
   rename_i al av;split at h
   . rename_i v C
     obtain⟨V,j,e⟩:=aaD.1 h;simp only[zU]at e;obtain⟨rfl,rfl⟩:=e;obtain⟨x,Q,a8⟩:=UF hf (ρ':=Frame.eval ⟨fn,tmps,.inRegion ops (i::rest)::k,defs,.run,kind,none⟩) C (λz=>q.sv z);refine⟨_,frs,q.fin j a8,A,λcs=>⟨rfl,λmain w _=>?_⟩⟩;rw[qm W J,apply_pure Q];have u:(pure (.value x):Sem Next).runT P w #[]=(.ok (.value x) w,#[]):=rfl;simp only[stepG.apply,aay,u,ite_self,iT,GStep.after,G];rfl
   cases h
 cases h
def nR{P Wd f y}(i:f.At y):∀  n  {s st fr frs},FR y s fr->oz y st frs ->
 ∃m c a,FR y (sgo P f n s st).1 c/\oz y (sgo P f n s st).2 a/\∀cs,kB P Wd m (G fr (frs++cs)) (G c (a++cs))
 |0,s,st,fr,frs,g,b=>⟨0,fr,frs,g,b,λ_=>rfl⟩
 | n+1,s,st,fr,frs,g,b=>by
   unfold sgo;cases e:ss P f s st with
   |none=>exact⟨0,fr,frs,g,b,λ_=>rfl⟩
   |some p=>obtain⟨u,j⟩:=p;obtain⟨c,a,k,l,o⟩:=TD i e g b;obtain⟨m,h,d,q,r,t⟩:=nR i n k l;exact⟨m+1,h,d,q,r,λcs=>⟨_,o cs,t cs⟩⟩
end
open Go.Conc
open Go.ConcN (sumTo upd sumTo_upd upd_ne upd_same)
inductive TT(P:afn)(m:Mo):ar->an->afd->Type
 |step {k:ar}{O:an}{g:afd}(N:aeE):g.status=.running->(∀k' O' g',N k' O' g'->TT P m k' O' g')->DC P m.main k O g N->TT P m k O g
 |ghost {k:ar}{O:an}{g:afd}(k2:ar) (O2:an):mM k O k2 O2->TT P m k2 O2 g->TT P m k O g
 |dM {k:ar}{O:an}{g:afd}(N:aeE):g.status=.running->m.dM k O g N->(∀k' O' g',N k' O' g'->TT P m k' O' g')->TT P m k O g
theorem T.tree{P m}(l:m.solo=false){k O g}(h:T P m (λ_ _ _=>False) k O g):Nonempty (TT P m k O g):=by
 induction h with
 |stop h=>exact h.elim
 |step N a _ i b=>exact⟨.step N a (λc d e f=>Classical.choice (b c d e f)) i⟩
 |ghost a _ b=>exact⟨.ghost _ _ a (Classical.choice b)⟩
 |phase N a _ _ _=>simp_all
 |dM N j a _ b=>exact⟨.dM N j a (λc d e f=>Classical.choice (b c d e f))⟩
def TT.running{P m k O g}(t:TT P m k O g):g.status=.running:=by
 induction t with
 |step _ h _ _=>exact h
 |ghost _ _ _ _ a=>exact a
 |dM _ h _ _=>exact h
structure Node  P  where
 m:Mo
 k:ar
 O:an
 g:afd
 t:TT P m k O g
inductive sb{P:afn}:Node P->Node P->Prop
 |step {m:Mo}{k k':ar}{O O':an}{g g':afd}(N:aeE) (h1:g.status=.running) (c:∀k' O' g',N k' O' g'->TT P m k' O' g') (h3:DC P m.main k O g N) (hn:N k' O' g'):sb ⟨m,k',O',g',c k' O' g' hn⟩ ⟨m,k,O,g,.step N h1 c h3⟩
 |ghost {m:Mo}{k:ar}{O:an}{g:afd}(k2:ar) (O2:an) (h:mM k O k2 O2) (c:TT P m k2 O2 g):sb ⟨m,k2,O2,g,c⟩ ⟨m,k,O,g,.ghost k2 O2 h c⟩
 |dM {m:Mo}{k k':ar}{O O':an}{g g':afd}(N:aeE) (h0:g.status=.running) (h1:m.dM k O g N) (c:∀k' O' g',N k' O' g'->TT P m k' O' g') (hn:N k' O' g'):sb ⟨m,k',O',g',c k' O' g' hn⟩ ⟨m,k,O,g,.dM N h0 h1 c⟩
def N2{P m}:∀{k O g}  t ,Acc sb (⟨m,k,O,g,t⟩:Node P):=by
 intro k O g t;induction t with
 |step N d c f b=>exact⟨_,λy a=>by cases a with|step _ _ _ _ e=>simp_all⟩
 |ghost i j h c b=>exact⟨_,λy a=>by cases a;exact b⟩
 |dM N l d c b=>exact⟨_,λy a=>by cases a with|dM _ _ _ _ e=>simp_all⟩
def FV{P}:∀x:Node P,Acc sb x:=λ⟨_,_,_,_,t⟩=>N2 t
def N3{P}(n:Nat)(f' f:Nat->Node P):Prop:=∃i,i<n/\(∀j,j≠i->f' j=f j)/\sb (f' i) (f i)
def Cu{P}:∀  n  (f:Nat->Node P),Acc (N3 n) f
 |0,f=>⟨_,λy ⟨i,c,_⟩=>by omega⟩
 | n + 1,f=>by
   have key:∀x:Node P,Acc sb x->∀f:Nat->Node P,f n=x->Acc (N3 (n+1)) f:=by
    intro x d;induction d with
    | intro x _ e=>
      intro f l;have g:=Cu n f;induction g with
      | intro f _ a=>
        refine⟨_,λh ⟨i,c,b,j⟩=>?_⟩;by_cases k:i=n
        . grind
        exact a h ⟨i,by omega,b,j⟩ (by grind)
   exact key (f n) (FV (f n)) f rfl
def N4{P}  n :WellFounded (N3 (P:=P) n):=⟨Cu n⟩
structure tV  P  where
 S:Type
 r:S->S->Prop
 wf:WellFounded r
 mo:S->Nat->Mo
 main:∀s i,(mo s i).main=(i==0)
 top:Nat
 lk:Nat
 Xf:top<=lk
 Live:S->afa
 Walk:S->afa
 At:S->Nat->aeE
 Cv:S->afa
 qS:S->afa
 H5:S->Nat->aeE
 deaf:S->afh
 Wd:aeT
 Ex:S->afm->afl->afa->afa->Nat->World->Trace->Prop
 RZ:S->Nat->Node P->Prop
 tie:∀s i x y,sb y x->RZ s i x->RZ s i y
def blk(g:afd):afd:={g with status:=.blocked}
def N5(P:afn)(Wd:aeT)(Cv:Prop)(q:Nat)(g g':afd):Prop:=(Cv/\g=blk g'/\q=0)\/kB P Wd q g g'
structure bT{P}(A:tV P)(Z:Base)  s  (f:Nat->Node P) (q:afh)  kk   OO   J M  (gs:aeK)  w   t :Prop where
 lk:Z.lk=A.lk
 dp:cV Z kk OO J M w t
 live:∀i,A.Live s i->i<A.top/\gs[i]?=some (f i).g/\(f i).m=A.mo s i/\(f i).k=kk i/\(f i).O=OO i/\(f i).g.status=.running/\Deaf t i=0/\(i=0\/J i)/\A.RZ s i (f i)
 walk:∀i,A.Walk s i -> ¬A.Live s i/\i<A.top/\Deaf t i=A.deaf s i/\∃g g',gs[i]?=some g/\A.At s i (kk i) (OO i) g'/\N5 P A.Wd (A.Cv s i) (q i) g g'
 held:∀i,A.qS s i -> ¬A.Live s i/\¬A.Walk s i/\i<A.top/\Deaf t i=0/\∃g,gs[i]?=some g/\g.status=.blocked/\A.H5 s i (kk i) (OO i) g
 rest:∀i g,gs[i]?=some g -> ¬A.Live s i -> ¬A.Walk s i -> ¬A.qS s i->i≠0/\QuitsD P (q i) (Deaf t i) g
 above:∀j,gs.size<=j->Deaf t j=0
 ex:A.Ex s kk OO J M gs.size w t
structure Cw{P}(A:tV P):Prop where
 own:∀{s kk OO J M n w t i k' O' w' es},A.Ex s kk OO J M n w t->A.Live s i->i<n->Eff (kk i) (OO i) w k' O' w' es->∀u ,(∀op∈u,op.g=i)->mD u->(∀op∈u,∃e,kz (kk i) (OO i) w.heap.size e/\op.act=.ofEvent e)->A.Ex s (cz kk i k') (cz OO i O') J M n w' (t++u)
 slip:∀{s kk OO J M n w t i},A.Ex s kk OO J M n w t->∀u ,(∀op∈u,op.g=i)->(∀op∈u,op.act.touch?=none/\∀a,op.act≠.mark (.release a))->A.Ex s kk OO J M n w (t++u)
 draw:∀{s kk OO J M n w t},A.Ex s kk OO J M n w t->∀d,A.Ex s kk OO J M n (w.at d) t
 vq:∀{s kk OO J M n w t j g},A.Ex s kk OO J M n w t->A.qS s j->∀k O,A.H5 s j k O g->g.again w=g
 wd:∀{s kk OO J M n w t},A.Ex s kk OO J M n w t->A.Wd w
 mO:∀{s i k O g},A.At s i k O g->g.status=.running/\g.offers=none
def Ac{P a a' g w}(h:g.again w=g):woken P a a' w g=g:=by
 unfold Go.Conc.woken
 simp_all
def Cx{g}(a:g.status=.running)(b:g.offers=none)  w :(blk g).again w=g:=by obtain⟨fr,cs,c,d,off⟩:=g;simp only at a b;subst a b;simp[blk,Goroutine.again]
def kB.first{P Wd n g g'}(h:kB P Wd n g g')(a:g'.status=.running):g.status=.running:=by
 cases n with
 |zero=>rw[show g=g' from h];exact a
 |succ n=>obtain⟨c,b,_⟩:=h;exact b.1
def H6{e}(h:e.mute=true)  a :MemAct.ofEvent e≠.mark (.release a):=by
 obtain⟨loc,wr,b⟩:=e;cases loc with
 |mark m=>cases m<;>simp_all [Event.mute,MemAct.ofEvent]
 |_=>simp_all [Event.mute]
def runs(gs:aeK):Nat:=sumTo gs.size λj=>if(gs[j]?).any (λg=>g.status==.running)then 1 else 0
section
variable{P:afn}{A:tV P}{Z:Base}{s:A.S}{f:Nat->Node P}{q:afh}{kk:afm}{OO:afl}{J M:afa}{gs:aeK}{w:World}{t:Trace}
def cV.at(h:cV Z kk OO J M w t)  d :cV Z kk OO J M (w.at d) t:=⟨λi=>⟨(h.sat i).apart,(h.sat i).cell,(h.sat i).sh,(h.sat i).obj,(h.sat i).tail,(h.sat i).part⟩,h.kO,h.qh,h.DX,h.clean,h.seen,h.acc,h.n0,h.z7,h.nN,h.rS,h.BP.step (.refl _) rfl (aav _) (λ_ _=>rfl),h.mine⟩
def bT.awake(B:Cw A)(h:bT A Z s f q kk OO J M gs w t):∀g∈gs,Go.Conc.awake g:=by
 intro g m;obtain⟨i,n,rfl⟩:=Array.mem_iff_getElem.1 m;have d:=aaJ n;by_cases j:A.Live s i
 . obtain⟨_,c,_,_,_,b,_⟩:=h.live i j
   have:gs[i]=(f i).g:=by simp_all
   rw[this];intro x a;simp_all
 by_cases k:A.Walk s i
 . obtain⟨_,_,_,g,o,c,b,e⟩:=h.walk i k
   have:gs[i]=g:=by simp_all
   rw[this];rcases e with⟨_,rfl,_⟩|e
   . intro x a;cases a
   have:=e.first (B.mO b).1
   intro x a;simp_all
 by_cases l:A.qS s i
 . obtain⟨_,_,_,_,g,c,b,_⟩:=h.held i l
   have:gs[i]=g:=by simp_all
   rw[this];intro x a;simp_all
 have c:=(h.rest i _ d j k l).2;intro x a;rcases c.status with b|b<;>rw[b]at a<;>cases a
structure Rest(A:tV P)  s  (f:Nat->Node P) (q:afh) (kk:afm) (OO:afl)  t   i  (gs':aeK):Prop where
 live:∀j,j≠i->A.Live s j->gs'[j]?=some (f j).g
 walk:∀j,j≠i->A.Walk s j->∃g g',gs'[j]?=some g/\A.At s j (kk j) (OO j) g'/\N5 P A.Wd (A.Cv s j) (q j) g g'
 held:∀j,j≠i->A.qS s j->∃g,gs'[j]?=some g/\g.status=.blocked/\A.H5 s j (kk j) (OO j) g
 rest:∀j g,j≠i->gs'[j]?=some g -> ¬A.Live s j -> ¬A.Walk s j -> ¬A.qS s j->j≠0/\QuitsD P (q j) (Deaf t j) g
def bT.R1(B:Cw A)(h:bT A Z s f q kk OO J M gs w t){i a a' x w'}(C:∀j g,A.qS s j->A.H5 s j (kk j) (OO j) g->g.again w'=g):Rest A s f q kk OO t i ((gs.map (woken P a a' w')).setIfInBounds i x):=by
 have b:∀j,j≠i->((gs.map (woken P a a' w')).setIfInBounds i x)[j]?=(gs[j]?).map (woken P a a' w'):=λj e=>by grind
 refine⟨λj e o=>?_,λj e p=>?_,λj e n=>?_,λj g e r o p n=>?_⟩
 . obtain⟨_,l,_,_,_,k,_⟩:=h.live j o
   rw[b j e,l,aaT,woken_run k]
 . obtain⟨_,_,_,g,c,l,k,d⟩:=h.walk j p
   obtain⟨u,D⟩:=B.mO k;rcases d with⟨d,rfl,v⟩|d
   . by_cases m:woken P a a' w' (blk c)=blk c
     . exact⟨blk c,c,by simp_all,k,.inl ⟨d,rfl,v⟩⟩
     have E:woken P a a' w' (blk c)=c:=by
      unfold Go.Conc.woken at m ⊢;split at m
      . rename_i F;rw[Rp F];exact Cx u D w'
      simp_all
     exact⟨c,c,by simp_all,k,.inr (by rw[v];rfl)⟩
   exact⟨g,c,by rw[b j e,l,aaT,woken_run (d.first u)],k,.inr d⟩
 . obtain⟨_,_,_,_,g,l,k,d⟩:=h.held j n
   exact⟨g,by rw[b j e,l,aaT,Ac (C j g n d)],k,d⟩
 rw[b j e]at r;obtain⟨z,G,rfl⟩:=aaD.1 r;have y:=h.rest j z G o p n;rw[woken_quitsD y.2];exact y
set_option maxHeartbeats 2000000 in
def N6(B:Cw A)(Fin:aeE)
 (av:∀{s f q kk OO J M gs w t},bT A Z s f q kk OO J M gs w t->∃(i:Nat) (g:afd),gs[i]?=some g/\g.status=.running)
 (dM:∀ {s f q kk OO J M gs w t}  sl   i  {k O g N}  h0   h   c ,bT A Z s f q kk OO J M gs w t->A.Live s i->f i=⟨A.mo s i,k,O,g,.dM N h0 h c⟩ ->
   ∃ ops m',runT P (crowd gs w sl) i=(.next m',ops)/\
     ((∃s' f' q' kk' OO' J' M' gs' w' C,m'=crowd gs' w' C/\A.r s' s/\bT A Z s' f' q' kk' OO' J' M' gs' w' (t++ops))\/
      (∃gs' w' C k' O' g',m'=crowd gs' w' C/\eV P Z.W0 k' O' g' gs' w' (t++ops)/\Fin k' O' g')))
 (stop:∀{s f q kk OO J M gs w t}  sl   i  {g},bT A Z s f q kk OO J M gs w t->A.Walk s i->gs[i]?=some g->A.At s i (kk i) (OO i) g->q i=0 ->
   ∃ ops m',runT P (crowd gs w sl) i=(.next m',ops)/\
     ((∃s' f' q' kk' OO' J' M' gs' w' C,m'=crowd gs' w' C/\A.r s' s/\bT A Z s' f' q' kk' OO' J' M' gs' w' (t++ops))\/
      (∃gs' w' C k' O' g',m'=crowd gs' w' C/\eV P Z.W0 k' O' g' gs' w' (t++ops)/\Fin k' O' g')\/
      (A.Cv s i/\m'=crowd (gs.setIfInBounds i (blk g)) w sl/\ops=#[]))):
 ∀  s   n   f   rr   q   kk   OO   J M   gs   w   sl   t ,sumTo gs.size q=n->runs gs=rr->bT A Z s f q kk OO J M gs w t ->
  ∃N gs' w' C t' k' O' g',runNT P N (crowd gs w sl) t=(.next (crowd gs' w' C),t')/\eV P Z.W0 k' O' g' gs' w' t'/\Fin k' O' g':=by
 intro s
 induction s using A.wf.induction with
 |_ s b8=>
 intro n
 induction n using Nat.strongRecOn with
 |ind n b9=>
 intro f
 induction f using(N4 (P:=P) A.top).induction with
 |_ f bm=>
 intro rr
 induction rr using Nat.strongRecOn with
 |ind rr c7=>
 intro q kk OO J M gs w sl t hn c9 D;obtain⟨i0,x0,e0,r0⟩:=av D;obtain⟨i,g,d,C,hi,hg,U⟩:=crowd_pick (P:=P) (w:=w) (sl:=sl) (D.awake B) ⟨i0,_,e0,r0⟩;have Q:i<gs.size:=(zG.1 hi).1;have o:bT A Z s f q kk OO J M gs (w.at d) t:=⟨D.lk,D.dp.at d,D.live,D.walk,D.held,D.rest,D.above,B.draw D.ex d⟩;have bq:∀j,j<A.top->j≠Z.lk:=λj y=>by rw[D.lk];have:=A.Xf;omega
 by_cases hl:A.Live s i
 . obtain ⟨ht,h1,b1,V,h3,h4,h5,h6,h7⟩:=o.live i hl
   rw[hi]at h1;have b2:=aax h1;cases hf:f i with
   | mk mm k O g0 tr=>
     rw[hf]at b1 V h3 h4 b2 h7;simp only at b1 V h3 h4 b2;subst b2;subst b1;cases tr with
     | step N hr c hs=>
       obtain⟨g',w',es,k',O',aE,ca,b3,aL⟩:=hs (w.at d) (by rw[V,h3];exact o.dp.sat i)
       rw[A.main]at aE;have K:=runT_crowd_go (P:=P) (sl:=C) (i:=i) hi aE;have hE:Eff (kk i) (OO i) (w.at d) k' O' w' es.toList:=by rw[<-V,<-h3];exact ca
       have E:mD (MemOp.ofEvents i g.frame.fn g.frame.place es):=z9 (λe he=>hE.evs e he) i _ _
       have G:∀op∈MemOp.ofEvents i g.frame.fn g.frame.place es,op.g=i:=λop z=>by obtain⟨e,_,rfl⟩:=LK z;rfl
       have hP:=o.dp.own (i:=i) (bq i ht) h6 (fn:=g.frame.fn) (pos:=g.frame.place) hE b3;have X:=B.own o.ex hl Q hE _ G E (λop z=>by obtain⟨e,he,rfl⟩:=LK z;exact⟨e,hE.evs e (by simpa using he),rfl⟩)
       have hR:=o.R1 B (i:=i) (a:=g) (a':=g') (x:=g') (w':=w') (λj x hh W=>B.vq X hh _ _ W)
       have H:bT A Z s (cz f i ⟨A.mo s i,k',O',g',c k' O' g' aL⟩) q (cz kk i k') (cz OO i O') J M ((gs.map (woken P g g' w')).setIfInBounds i g') w' (t++MemOp.ofEvents i g.frame.fn g.frame.place es):=by
        refine⟨D.lk,hP,λj y=>?_,λj y=>?_,λj y=>?_,λj x W n1 n2 n3=>?_,λj y=>?_,by simpa using X⟩
        . obtain⟨I,T,pm,R,Y,p4,p5,p6⟩:=o.live j y
          by_cases l:j=i
          . subst l
            rw[au,au,au,aah (by simpa using Q),cP E]
            exact⟨I,rfl,rfl,rfl,rfl,(c k' O' g' aL).running,p5,p6.1,A.tie _ _ _ _ (.step N hr c hs aL) h7⟩
          rw[aA _ _ l,aA _ _ l,aA _ _ l,hR.live j l y,cP E];exact⟨I,rfl,pm,R,Y,p4,p5,p6⟩
        . obtain⟨I,T,R,_⟩:=o.walk j y
          have l:j≠i:=λe=>I (e ▸ hl)
          rw[aA _ _ l,aA _ _ l,cP E];exact⟨I,T,R,hR.walk j l y⟩
        . obtain⟨I,T,R,Y,_⟩:=o.held j y
          have l:j≠i:=λe=>I (e ▸ hl)
          rw[aA _ _ l,aA _ _ l,cP E];exact⟨I,T,R,Y,hR.held j l y⟩
        . have l:j≠i:=λe=>n1 (e ▸ hl)
          rw[cP E];exact hR.rest j x l W n1 n2 n3
        rw[cP E];exact D.above j (by simpa using y)
       obtain⟨N',gs',a7,L,t',a8,a9,ad,e1,e2,e3⟩:=bm _ ⟨i,ht,λj y=>aA _ _ y,by rw[au,hf];exact .step N hr c hs aL⟩ _ q _ _ J M _ w' C _ (by simpa using hn) rfl H
       exact⟨N'+1,gs',a7,L,t',a8,a9,ad,by simp only[runNT,U,K];exact e1,e2,e3⟩
     | ghost k2 O2 b4 c=>
       obtain⟨b3,hE⟩:=b4 w (by rw[V,h3];exact D.dp.sat i)
       have bw:Eff (kk i) (OO i) w k2 O2 w (#[]:aeU).toList:=by rw[<-V,<-h3];exact hE
       have cb:mD (MemOp.ofEvents i 0  "" #[]):=z9 (k:=kk i) (O:=OO i) (B:=0) (λe he=>by simp at he) i _ _
       have ax:t++MemOp.ofEvents i 0  "" #[]=t:=by rw[ofEvents_eq];simp
       have hP:=D.dp.own (i:=i) (bq i ht) h6 (fn:=0) (pos:=  "") bw b3
       have X:=B.own D.ex hl Q bw _ (λop z=>by obtain⟨e,_,rfl⟩:=LK z;rfl) cb (λop z=>by obtain⟨e,he,rfl⟩:=LK z;simp at he)
       rw[ax]at hP X
       have H:bT A Z s (cz f i ⟨A.mo s i,k2,O2,g,c⟩) q (cz kk i k2) (cz OO i O2) J M gs w t:=by
        refine⟨D.lk,hP,λj y=>?_,λj y=>?_,λj y=>?_,D.rest,D.above,X⟩
        . obtain⟨I,T,pm,R,Y,p4,p5,p6⟩:=D.live j y
          by_cases l:j=i
          . subst l
            rw[au,au,au];exact⟨I,hi,rfl,rfl,rfl,h4,p5,p6.1,A.tie _ _ _ _ (.ghost k2 O2 b4 c) h7⟩
          rw[aA _ _ l,aA _ _ l,aA _ _ l];exact⟨I,T,pm,R,Y,p4,p5,p6⟩
        . have l:j≠i:=λe=>(D.walk j y).1 (e ▸ hl)
          rw[aA _ _ l,aA _ _ l];exact D.walk j y
        have l:j≠i:=λe=>(D.held j y).1 (e ▸ hl)
        rw[aA _ _ l,aA _ _ l];exact D.held j y
       exact bm _ ⟨i,ht,λj y=>aA _ _ y,by rw[au,hf];exact .ghost k2 O2 b4 c⟩ _ q _ _ J M gs w sl t hn rfl H
     | dM N h0 h c=>
       obtain⟨ops,m',e1,e2⟩:=dM C i h0 h c o hl hf
       rcases e2 with⟨s',f',q',kk',OO',J',M',gs',w',al,rfl,hr,H⟩|⟨gs',w',al,k',O',g',rfl,hS,hF⟩
       . obtain⟨N',b5,w2,b6,t2,k2,O2,g2,e3,e4,e5⟩:=b8 s' hr _ f' _ q' kk' OO' J' M' gs' w' al _ rfl rfl H
         exact⟨N'+1,b5,w2,b6,t2,k2,O2,g2,by simp only[runNT,U,e1];exact e3,e4,e5⟩
       exact⟨1,gs',w',al,_,k',O',g',by simp only[runNT,U,e1],hS,hF⟩
 by_cases hk:A.Walk s i
 . obtain ⟨_,ht,cv,g1,g',h1,V,h3⟩:=o.walk i hk
   obtain rfl:g1=g:=by rw[hi]at h1;exact(aax h1).symm
   rcases h3 with⟨_,hb,_⟩|h3
   . rw[hb]at hg;cases hg
   cases S:q i with
   | zero=>
     rw[S]at h3;obtain rfl:g1=g':=h3;obtain⟨ops,m',e1,e2⟩:=stop C i o hk hi V S
     rcases e2 with⟨s',f',q',kk',OO',J',M',gs',w',al,rfl,hr,H⟩|⟨gs',w',al,k',O',g',rfl,hS,hF⟩|⟨bA,rfl,rfl⟩
     . obtain⟨N',b5,w2,b6,t2,k2,O2,g2,e3,e4,e5⟩:=b8 s' hr _ f' _ q' kk' OO' J' M' gs' w' al _ rfl rfl H
       exact⟨N'+1,b5,w2,b6,t2,k2,O2,g2,by simp only[runNT,U,e1];exact e3,e4,e5⟩
     . exact⟨1,gs',w',al,_,k',O',g',by simp only[runNT,U,e1],hS,hF⟩
     have ay:∀j,j≠i->(gs.setIfInBounds i (blk g1))[j]?=gs[j]?:=λj y=>aaz (zs y)
     have H:bT A Z s f q kk OO J M (gs.setIfInBounds i (blk g1)) (w.at d) t:=by
      refine⟨D.lk,o.dp,λj y=>?_,λj y=>?_,λj y=>?_,λj x W n1 n2 n3=>?_,λj y=>D.above j (by simpa using y),by simpa using o.ex⟩
      . have l:j≠i:=λe=>hl (e ▸ y)
        rw[ay j l];exact o.live j y
      . obtain⟨I,T,R,Y⟩:=o.walk j y
        refine⟨I,T,R,?_⟩
        by_cases l:j=i
        . subst l
          exact⟨blk g1,g1,by rw[aah Q],V,.inl ⟨bA,rfl,S⟩⟩
        rw[ay j l];exact Y
      . have l:j≠i:=λe=>(o.held j y).2.1 (e ▸ hk)
        rw[ay j l];exact o.held j y
      have l:j≠i:=λe=>n2 (e ▸ hk)
      rw[ay j l]at W;exact o.rest j x W n1 n2 n3
     have b7:runs (gs.setIfInBounds i (blk g1))<rr:=by
      rw[<-c9];unfold runs;rw[adb];obtain⟨F,hF⟩:∃F:afh,F=λj=>if(gs[j]?).any (λg=>g.status==.running)then 1 else 0:=⟨_,rfl⟩
      have hu:(λj=>if((gs.setIfInBounds i (blk g1))[j]?).any (λg=>g.status==.running)then 1 else 0)=upd F i 0:=by
       funext j
       by_cases l:j=i
       . subst l
         rw[upd_same,aah Q];rfl
       rw[upd_ne _ _ l,ay j l,hF]
      rw[hu,<-hF];have h1:F i=1:=by rw[hF];simp[hi,hg]
      have V:sumTo gs.size (upd F i 0)+F i=sumTo gs.size F+0:=sumTo_upd F 0 id Q;omega
     obtain⟨N',gs',a7,L,t',a8,a9,ad,e3,e4,e5⟩:=c7 _ b7 q kk OO J M _ _ C t (by simpa using hn) rfl H
     refine⟨N'+1,gs',a7,L,t',a8,a9,ad,?_,e4,e5⟩;simp only[runNT,U,e1];rw[show t++(#[]:Array MemOp)=t by simp]
     exact e3
   | succ k=>
     rw[S]at h3;obtain⟨g2,⟨dj,aE⟩,bB⟩:=h3;have aC:=aE (i==0) (w.at d) (B.wd o.ex);have K:=runT_crowd_go (P:=P) (sl:=C) (i:=i) hi aC;have ax:t++MemOp.ofEvents i g1.frame.fn g1.frame.place #[]=t:=by rw[ofEvents_eq];simp
     have hR:=o.R1 B (i:=i) (a:=g1) (a':=g2) (x:=g2) (w':=w.at d) (λj x hh W=>B.vq o.ex hh _ _ W)
     have c5:sumTo gs.size (upd q i k)+(k+1)=sumTo gs.size q+k:=by have:=sumTo_upd q k id Q;simpa[S]using this
     have H:bT A Z s f (upd q i k) kk OO J M ((gs.map (woken P g1 g2 (w.at d))).setIfInBounds i g2) (w.at d) t:=by
      refine⟨D.lk,o.dp,λj y=>?_,λj y=>?_,λj y=>?_,λj x W n1 n2 n3=>?_,λj y=>D.above j (by simpa using y),by simpa using o.ex⟩
      . have l:j≠i:=λe=>hl (e ▸ y)
        obtain⟨I,T,pp⟩:=o.live j y;exact⟨I,hR.live j l y,pp⟩
      . obtain⟨I,T,R,Y⟩:=o.walk j y
        refine⟨I,T,R,?_⟩
        by_cases l:j=i
        . subst l
          exact⟨g2,g',by rw[aah (by simpa using Q)],V,.inr (by rw[upd_same];exact bB)⟩
        rw[upd_ne q k l];exact hR.walk j l y
      . have l:j≠i:=λe=>(o.held j y).2.1 (e ▸ hk)
        obtain⟨I,T,R,Y,_⟩:=o.held j y;exact⟨I,T,R,Y,hR.held j l y⟩
      have l:j≠i:=λe=>n2 (e ▸ hk)
      rw[upd_ne q k l];exact hR.rest j x l W n1 n2 n3
     obtain⟨N',gs',a7,L,t',a8,a9,ad,e1,e2,e3⟩:=b9 (sumTo gs.size (upd q i k)) (by omega) f _ (upd q i k) kk OO J M _ (w.at d) C _ (by simp) rfl H
     refine⟨N'+1,gs',a7,L,t',a8,a9,ad,?_,e2,e3⟩;simp only[runNT,U,K,ax];exact e1
 by_cases hh:A.qS s i
 . obtain⟨_,_,_,_,g1,h1,V,_⟩:=D.held i hh
   rw[hi]at h1;obtain rfl:=aax h1;rw[V]at hg;cases hg
 obtain⟨b0,hq⟩:=o.rest i g hi hl hk hh;cases S:q i with
 |zero=>rw[S]at hq;rw[hq.1]at hg;cases hg
 | succ k=>
   have dm:=hq;rw[S]at hq
   rcases hq with⟨hf,_⟩|⟨_,g',es,hm,aC,cg⟩
   . rw[hf]at hg;cases hg
   have cm:(i==0)=false:=by simpa using b0
   have K:=runT_crowd_go (P:=P) (sl:=C) (i:=i) hi (by rw[cm];exact aC (w.at d))
   have G:∀op∈MemOp.ofEvents i g.frame.fn g.frame.place es,op.g=i:=λop z=>by obtain⟨e,_,rfl⟩:=LK z;rfl
   have aO:∀op∈MemOp.ofEvents i g.frame.fn g.frame.place es,op.act.touch?=none:=λop z=>by obtain⟨e,he,rfl⟩:=LK z;exact touch_mute (hm e he)
   have cr:∀op∈MemOp.ofEvents i g.frame.fn g.frame.place es,∀a,op.act≠.mark (.release a):=λop z a=>by obtain⟨e,he,rfl⟩:=LK z;have:=hm e he;exact H6 this a
   have c6:∀op∈MemOp.ofEvents i g.frame.fn g.frame.place es,op.act.low (w.at d).heap.size:=λop z=>by obtain⟨e,he,rfl⟩:=LK z;exact low_mute (hm e he) _
   have hP:=o.dp.wG (w':=w.at d) (kk':=kk) (OO':=OO) (J':=J) (M':=M) (u:=MemOp.ofEvents i g.frame.fn g.frame.place es) (λa b=>a=b) rfl ⟨⟨.refl _,rfl⟩,λ_ _=>rfl⟩ (λb=>.inl rfl) c6 (λa b e n x _ _ _ h=>by subst e;exact h.app _) (λj b n v h=>⟨j,rfl,h⟩) (λj b x h=>⟨j,rfl,h⟩) (λj b x h=>⟨j,rfl,h,λ_ h=>h⟩) o.dp.kO
    (λsaid=>noRace_append (o.dp.clean said) (λop z=>G op z) λn a ha op z b hb _=>by rw[aO op z]at hb;cases hb) (λop z a ha=>by rw[aO op z]at ha;cases ha) (λm op a z ha=>by rw[aO op (acb z)]at ha;cases ha)
    (λn a ha hm h=>h.elim (λ⟨j,h1,V⟩=>.inr (.inl ⟨j,h1,V.app _⟩)) (λ⟨p,h1,V⟩=>.inr (.inr (.inl ⟨p,h1,V.app _⟩))))
   have X:=B.slip (i:=i) o.ex _ G (λop z=>⟨aO op z,cr op z⟩)
   have hR:=o.R1 B (i:=i) (a:=g) (a':=g') (x:=g') (w':=w.at d) (λj x hh W=>B.vq o.ex hh _ _ W)
   have c5:sumTo gs.size (upd q i k)+(k+1)=sumTo gs.size q+k:=by have:=sumTo_upd q k id Q;simpa[S]using this
   have H:bT A Z s f (upd q i k) kk OO J M ((gs.map (woken P g g' (w.at d))).setIfInBounds i g') (w.at d) (t++MemOp.ofEvents i g.frame.fn g.frame.place es):=by
    refine⟨D.lk,hP,λj y=>?_,λj y=>?_,λj y=>?_,λj x W n1 n2 n3=>?_,λj y=>?_,by simpa using X⟩
    . have l:j≠i:=λe=>hl (e ▸ y)
      obtain⟨I,T,pm,R,Y,p4,p5,p6⟩:=o.live j y;rw[Deaf_other t (zs l) _ G];exact⟨I,hR.live j l y,pm,R,Y,p4,p5,p6⟩
    . have l:j≠i:=λe=>hk (e ▸ y)
      obtain⟨I,T,R,Y⟩:=o.walk j y;rw[Deaf_other t (zs l) _ G,upd_ne q k l];exact⟨I,T,R,hR.walk j l y⟩
    . have l:j≠i:=λe=>hh (e ▸ y)
      obtain⟨I,T,R,Y,_⟩:=o.held j y;rw[Deaf_other t (zs l) _ G];exact⟨I,T,R,Y,hR.held j l y⟩
    . by_cases l:j=i
      . subst l
        rw[aah (by simpa using Q)]at W
        obtain rfl:=aax W;rw[upd_same,Deaf_own];exact⟨b0,cg⟩
      rw[upd_ne q k l,Deaf_other t (zs l) _ G];exact hR.rest j x l W n1 n2 n3
    rw[Deaf_other t (g':=i) (by simp at y;omega) _ G]
    exact D.above j (by simpa using y)
   obtain⟨N',gs',a7,L,t',a8,a9,ad,e1,e2,e3⟩:=b9 (sumTo gs.size (upd q i k)) (by omega) f _ (upd q i k) kk OO J M _ (w.at d) C _ (by simp) rfl H
   exact⟨N'+1,gs',a7,L,t',a8,a9,ad,by simp only[runNT,U,K];exact e1,e2,e3⟩
end

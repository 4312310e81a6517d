import Derived.Conc.CrowdTrace
import Derived.Test.YtabmephejpgigaaGreatDoorC5
set_option linter.all false
namespace Go.cr
open Go.Conc
def ChanAt(w:World)(b:Nat):Prop:=∃cap buf cl s r a,w.heap[b]?=some (.chan cap buf cl s r a)
def Kept(kk:abl)(OO:abk)(w w':World)(b:Nat):Prop:=
 w'.heap[b]?=w.heap[b]?\/(ChanAt w b/\ChanAt w' b/\∀i,OO i b=none)\/
 ∃c a e,w.heap[b]?=some (.cells c e (0,0))/\w'.heap[b]?=some (.cells a e (0,0))/\a.size=c.size/\(∀i x,OO i b=some x->∃f,x=.part f/\∀n,f n≠none->a[n]?=c[n]?)/\∀n,a[n]?=c[n]?\/∀i,(kk i).cell b n=none
def Calm(Z:Base)(w w':World):Prop:=(lP w.os w'.os/\w'.output=w.output)/\∀b,b<Z.W0.heap.size->w'.heap[b]?=w.heap[b]?
def Jd(kk:abl)(OO:abk)(B:Nat):Loc->Prop
 |.cell a=>a.block<B/\∀i,¬aR (OO i) a.block a.off/\(kk i).cell a.block a.off=none
 |.obj r=>r<B/\∀i o,OO i r≠some (.obj o)
 |_=>True
def Told(Z:Base)(J M:aba)(t:Trace)(n:Nat)(a:Touch):Prop:=Knows t 0 n\/(∃j,J j/\Knows t j n)\/(∃p,M p/\Before t n p)\/(Z.Shun a.loc/\a.kind=.atomic/\(t.counts n->n<Z.N0))
def yK{t B}(h:∀op∈t,op.act.low B){n a}(c:touchAt t n=some a):match a.loc with|.cell ad=>ad.block<B|.obj r=>r<B|_=>True:=by
 obtain⟨x,d,b⟩:=touch_of c;have:=h x (Ze d);obtain⟨f,fn,pos,act⟩:=x;cases act with
 |access e=>simp only[MemAct.touch?,kn]at b;subst b;simp only[MemAct.low,Loc.low]at this;omega
 |mark m=>cases m<;>simp_all [MemAct.touch?,MemAct.low]<;>(subst b;simpa using this)
 |_=>simp[MemAct.touch?]at b
section
variable{Z:Base}{kk:abl}{OO:abk}{J M:aba}{w:World}{t:Trace}
def cq.sZ(h:cq Z kk OO J M w t)(Fl:Nat->aba){u w' kk' OO' J' M'}
 (U:w'.heap.size=w.heap.size) (V:Calm Z w w') (hb:∀b,Kept kk OO w w' b) (z:∀op∈u,op.act.low w.heap.size)
 (a9:∀i j,Fl i j->∀n a,touchAt t n=some a->a.loc.isMemory=true -> ¬Z.Shun a.loc->GF Z t i n->GF Z (t++u) j n)
 (O:∀j b n v,(kk' j).cell b n=some v->∃i,Fl i j/\(kk i).cell b n=some v)
 (hs:∀j b s,(kk' j).sh b=some s->∃i,Fl i j/\(kk i).sh b=some s)
 (D:∀j b x,OO' j b=some x->∃i,Fl i j/\OO i b=some x/\∀s,(kk i).sh b=some s->(kk' j).sh b=some s)
 (hd:∀i j b x,i≠j->OO' i b=some x->OO' j b=none)
 (hr:∀said,¬Race said (t++u))
 (hu:∀op∈u,∀a,op.act.touch?=some a->a.loc.isMemory=true->Jd kk OO w.heap.size a.loc)
 (W:∀m op a,u[m]?=some op->op.act.touch?=some a->a.loc.isMemory=true->Told Z J' M' (t++u) (t.size+m) a)
 (S:∀n a,touchAt t n=some a->a.loc.isMemory=true->((∃j,J j/\Knows t j n)\/(∃p,M p/\Before t n p))->Told Z J' M' (t++u) n a):cq Z kk' OO' J' M' w' (t++u):=by
 have F:∀j b n,aR (OO' j) b n->∃i,Fl i j/\aR (OO i) b n:=λj b n y=>by
  rcases y with⟨o,q⟩|⟨m,q,A⟩|⟨f,q,A⟩
  . obtain⟨i,d,g,_⟩:=D j b _ q;exact⟨i,d,.inl ⟨o,g⟩⟩
  . obtain⟨i,d,g,_⟩:=D j b _ q;exact⟨i,d,.inr (.inl ⟨m,g,A⟩)⟩
  obtain⟨i,d,g,_⟩:=D j b _ q;exact⟨i,d,.inr (.inr ⟨f,g,A⟩)⟩
 have al:∀i j b n v,(kk i).cell b n=some v -> ¬aR (OO j) b n:=λi j b n v N=>by
  by_cases e:i=j
  . subst e;exact(h.sat i).apart b n v N
  exact h.mU j i b n v (zj e) N
 have B:∀i b x,OO i b=some x->(∀f,x≠.part f)->w'.heap[b]?=w.heap[b]?:=λi b x P av=>by
  rcases hb b with d|⟨_,_,d⟩|⟨_,_,_,_,_,_,d,_⟩
  . exact d
  . simp_all
  grind
 have hold:∀{n:Nat}{a:Touch},touchAt (t++u) n=some a->(touchAt t n=some a/\n<t.size)\/∃m op,u[m]?=some op/\op.act.touch?=some a/\n=t.size+m:=λ{n a} S=>by
  obtain⟨x,P,X⟩:=touch_of S;by_cases hn:n<t.size
  . rw[aan hn]at P
    exact .inl ⟨by rw[touchAt_of P];exact X,hn⟩
  grind
 refine⟨λj=>⟨λb n v N y=>?_,λb n v N=>?_,λb s Y=>?_,λb o C=>?_,λb n a7=>?_,λb f a8=>?_⟩,hd,λi j b n v ax N y=>?_,λj n a I A=>?_,hr,λop E=>?_,λn a I A=>?_,by simp;exact YO h.n0 (Zs _ _),h.BN _,λa G=>?_,λr G=>?_,h.yj.step V.1.1 V.1.2 (by omega) V.2,λj b x P=>by obtain⟨i,_,d,_⟩:=D j b x P;exact h.mine i b x d⟩
 . grind
 . obtain⟨i,_,d⟩:=O j b n v N
   have g:=(h.sat i).cell b n v d;rcases hb b with k|⟨⟨_,_,_,_,_,_,k⟩,_⟩|⟨c,c',e,k,Q,h5,_,T⟩
   . simpa only[World.cell?,k]using g
   . simp[World.cell?,k]at g
   rcases T n with T|T
   . simp only[World.cell?,k,Q]at g ⊢
     grind
   grind
 . obtain⟨i,_,d⟩:=hs j b s Y
   have g:=(h.sat i).sh b s d;rcases hb b with k|⟨⟨_,_,_,_,_,_,k⟩,_⟩|⟨c,c',e,k,Q,h5,_,T⟩
   . simpa only[World.shape?,k]using g
   . simp[World.shape?,k]at g
   simp only[World.shape?,k,Q]at g ⊢
   grind
 . obtain⟨i,_,d,_⟩:=D j b _ C
   rw[B i b _ d (λ_ e=>by cases e)];exact(h.sat i).obj b o d
 . obtain⟨i,_,d,g⟩:=D j b _ a7
   rw[B i b _ d (λ_ e=>by cases e)];obtain⟨c,e,k,Q⟩:=(h.sat i).tail b n d
   grind
 . obtain⟨i,_,d,g⟩:=D j b _ a8
   obtain⟨c,e,k,Q,h5⟩:=(h.sat i).part b f d;rcases hb b with q|⟨_,_,q⟩|⟨c0,c1,e0,q1,q2,q3,q4,_⟩
   . grind
   . grind
   grind
 . grind
 . rcases hold I with⟨l,R⟩|⟨m,op,d,g,rfl⟩
   . by_cases hK:∃i,Fl i j/\GF Z t i n/\¬Z.Shun a.loc
     . grind
     refine .inr ?_;have H:=yK h.seen l
     have K:∀i,Fl i j->oV (kk i) (OO i) w.heap.size a:=λi hi=>by
      by_cases G:Z.Shun a.loc
      . unfold oV
        split
        . next L z=>rw[z]at G;have:=h.lg L G;grind
        . next r z=>rw[z]at G;have:=h.om r G;grind
        trivial
      rcases h.Am i n a l A with d|d
      . grind
      exact d
     unfold oV;split
     . next L z=>
       rw[z]at H;refine⟨by omega,λy=>?_,?_⟩
       . obtain⟨i,d,g⟩:=F j _ _ y
         have:=K i d;unfold oV at this
         grind
       cases q:(kk' j).cell L.block L.off with
       |none=>grind
       | some v=>
         obtain⟨i,d,g⟩:=O j _ _ v q;have:=K i d;unfold oV at this
         grind
     . next r z=>
       rw[z]at H;refine⟨by omega,λo C=>?_⟩;obtain⟨i,d,g,_⟩:=D j r _ C;have:=K i d;unfold oV at this
       grind
     trivial
   refine .inr ?_;have:=hu op (Ze d) a g A;unfold oV;split
   . next L z=>
     rw[z]at this;refine⟨by rw[U];exact this.1,λy=>?_,.inl ?_⟩
     . obtain⟨i,_,k⟩:=F j _ _ y
       exact(this.2 i).1 k
     cases q:(kk' j).cell L.block L.off with
     |none=>rfl
     |some v=>obtain⟨i,_,k⟩:=O j _ _ v q;rw[(this.2 i).2]at k;cases k
   . next r z=>
     rw[z]at this;refine⟨by rw[U];exact this.1,λo C=>?_⟩;obtain⟨i,_,k,_⟩:=D j r _ C;exact this.2 i o k
   trivial
 . rw[U]
   rcases Array.mem_append.1 E with E|E
   . exact h.seen op E
   grind
 . rcases hold I with⟨l,R⟩|⟨m,op,d,g,rfl⟩
   . rcases h.acc n a l A with d|d|d|d
     . exact .inl (d.app _)
     . exact S n a l A (.inl d)
     . exact S n a l A (.inr d)
     exact .inr (.inr (.inr ⟨d.1,d.2.1,λO=>d.2.2 ((qS R).1 O)⟩))
   exact W m op a d g A
 . obtain⟨d,g⟩:=h.lg a G
   refine⟨by omega,λj=>⟨λy=>?_,?_⟩⟩
   . grind
   cases q:(kk' j).cell a.block a.off with
   |none=>rfl
   |some v=>grind
 obtain⟨d,g⟩:=h.om r G
 grind
def cq.R5(h:cq Z kk OO J M w t){z}(L:z≠Z.lk){b f}(hb:∀i,OO i b=none)(Q:∀n v,f n=some v->∀i,(kk i).cell b n=none)
 (R:∀ad ,ad.block=b->f ad.off≠none -> ¬Z.Shun (.cell ad)) (S:∃c e,w.heap[b]?=some (.cells c e (0,0))/\(kk z).sh b=some (e,c.size)/\∀n v,f n=some v->c[n]?=some v)
 (N:∀m a ad,touchAt t m=some a->a.loc=.cell ad->ad.block=b->f ad.off≠none->Knows t z m) (G:Z.W0.heap.size<=b):cq Z kk (bP OO z ((OO z).set b (.part f))) J M w t:=by
 have O:∀n,f n≠none->∀i,(kk i).cell b n=none:=λn T i=>by
  cases q:f n with
  |none=>simp_all
  |some v=>simp_all
 have s:∀c n,aR ((OO z).set b (.part f)) c n->aR (OO z) c n\/(c=b/\f n≠none):=λc n k=>by
  by_cases d:c=b
  . subst d
    rcases k with⟨o,q⟩|⟨m,q,_⟩|⟨g,q,B⟩
    . simp[ai.set]at q
    . simp[ai.set]at q
    simp only[ai.set,YD,kn,Own.part.injEq]at q
    simp_all
  exact .inl (by simpa[aR,ai.set,d]using k)
 have P:Sat (kk z) ((OO z).set b (.part f)) w:=by
  refine⟨λc n v D k=>?_,(h.sat z).cell,(h.sat z).sh,λc o k=>?_,λc n k=>?_,λc g k=>?_⟩
  . rcases s c n k with k|⟨rfl,B⟩
    . exact(h.sat z).apart c n v D k
    simp_all
  . by_cases d:c=b
    . subst d;simp[ai.set]at k
    exact(h.sat z).obj c o (by simpa[ai.set,d]using k)
  . by_cases d:c=b
    . grind
    exact(h.sat z).tail c n (by simpa[ai.set,d]using k)
  by_cases d:c=b
  . subst d
    simp only[ai.set,YD,kn,Own.part.injEq]at k
    simp_all
  exact(h.sat z).part c g (by simpa[ai.set,d]using k)
 have H:b<w.heap.size:=by grind
 refine⟨λi=>?_,λi j c x u E=>?_,λi j c n v u D k=>?_,λi n a y I=>?_,h.clean,h.seen,h.acc,h.n0,h.v3,λa y=>⟨(h.lg a y).1,λi=>⟨λk=>?_,((h.lg a y).2 i).2⟩⟩,λr F=>⟨(h.om r F).1,λi o k=>?_⟩,h.yj,λi c x k=>?_⟩
 . by_cases p:z=i
   . subst p;rw[an];exact P
   rw[ar _ _ (zj p)];exact h.sat i
 . by_cases d:c=b
   . subst d
     by_cases K:z=j
     . subst K
       rw[ar _ _ u,hb i]at E;cases E
     rw[ar _ _ (zj K)];exact hb j
   have e:∀l,bP OO z ((OO z).set b (.part f)) l c=OO l c:=λl=>by
    by_cases A:z=l
    . subst A;rw[an];simp[ai.set,d]
    rw[ar _ _ (zj A)]
   rw[e]at E ⊢;exact h.jb i j c x u E
 . by_cases p:z=i
   . subst p
     rw[an]at k;rcases s c n k with k|⟨rfl,B⟩
     . exact h.mU z j c n v u D k
     simp_all
   rw[ar _ _ (zj p)]at k;exact h.mU i j c n v u D k
 . by_cases p:z=i
   . subst p
     rw[an];rcases h.Am z n a y I with C|C
     . grind
     unfold oV at C ⊢;split
     . next ad A=>
       rw[A]at C;by_cases B:ad.block=b/\f ad.off≠none
       . exact .inl ((nD L).2 (N n a ad y A B.1 B.2))
       grind
     . next r A=>
       rw[A]at C;refine .inr ⟨C.1,λo k=>?_⟩;by_cases d:r=b
       . subst d;simp[ai.set]at k
       exact C.2 o (by simpa[ai.set,d]using k)
     simp_all
   rw[ar _ _ (zj p)];exact h.Am i n a y I
 . by_cases p:z=i
   . subst p
     rw[an]at k;rcases s _ _ k with k|⟨e,B⟩
     . exact((h.lg a y).2 z).1 k
     simp_all
   rw[ar _ _ (zj p)]at k;exact((h.lg a y).2 i).1 k
 . by_cases p:z=i
   . subst p
     rw[an]at k;by_cases d:r=b
     . subst d;simp[ai.set]at k
     exact(h.om r F).2 z o (by simpa[ai.set,d]using k)
   rw[ar _ _ (zj p)]at k;exact(h.om r F).2 i o k
 by_cases p:z=i
 . subst p
   rw[an]at k;by_cases d:c=b
   . omega
   exact h.mine z c x (by simpa[ai.set,d]using k)
 rw[ar _ _ (zj p)]at k;exact h.mine i c x k
def rR  b :ai.bot b=none:=rfl
def cq.start{P k O g gs w W0 t}(h:dE P W0 k O g gs w t)  lk   la  (A:0≠lk):
 ∃Z ,Z.N0=t.size/\Z.lk=lk/\Z.la=la/\Z.W0=W0/\gs[0]?=some g/\(∃q,Leavers P t gs q)/\Deaf t 0=0/\cq Z (bP (λ_=>ao.bot) 0 k) (bP (λ_=>ai.bot) 0 O) (λ_=>False) (λ_=>False) w t/\∀n a,touchAt t n=some a->a.loc.isMemory=true->Knows t 0 n\/(Z.Shun a.loc/\a.kind=.atomic):=by
 obtain⟨Shun,q,L,M,d,B,N,Q,C,R⟩:=h;refine⟨⟨Shun,t.size,lk,la,W0⟩,rfl,rfl,rfl,rfl,L,⟨q,M⟩,d.hears,?_,d.known⟩
 have l:∀i,i=0\/(bP (λ_=>ao.bot) 0 k i=ao.bot/\bP (λ_=>ai.bot) 0 O i=ai.bot):=λi=>by
  by_cases u:i=0
  . omega
  exact .inr ⟨ar _ _ u,ar _ _ u⟩
 refine⟨λi=>?_,λi j b x m p=>?_,λi j b n v m I=>?_,λi n a s D=>?_,d.clean,d.seen,λn a s D=>?_,YF _,λn g V S E F=>d.over n g S E F,λa s=>?_,λr T=>?_,C,λi b x p=>?_⟩
 . rcases l i with rfl|⟨y,f⟩
   . rw[an,an];exact Q
   rw[y,f];exact⟨λ_ _ _ h=>(by cases h),λ_ _ _ h=>(by cases h),λ_ _ h=>(by cases h),λ_ _ h=>(by cases h),λ_ _ h=>(by cases h),λ_ _ h=>(by cases h)⟩
 . rcases l i with rfl|⟨_,e⟩
   . rw[ar _ _ (zj m)];rfl
   rw[e]at p;cases p
 . rcases l j with rfl|⟨e,_⟩
   . rw[ar _ _ m];exact dK (rR b)
   rw[e]at I;cases I
 . have c:=yK d.seen s
   have J:oV ao.bot ai.bot w.heap.size a:=by
    unfold oV;split
    . next W G=>rw[G]at c;exact⟨c,dK (rR _),.inl rfl⟩
    . next r G=>rw[G]at c;exact⟨c,λo B=>by cases B⟩
    trivial
   rcases l i with rfl|⟨y,f⟩
   . rw[an,an]
     rcases d.known n a s D with z|⟨z,K⟩
     . exact .inl ((nD A).2 z)
     refine .inr ?_;unfold oV
     grind
   simp_all
 . rcases d.known n a s D with z|⟨z,K⟩
   . grind
   refine .inr (.inr (.inr ⟨z,K,λ_=>?_⟩));obtain⟨x,p,_⟩:=touch_of s
   grind
 . obtain⟨H,U,X⟩:=B a s
   refine⟨H,λi=>?_⟩;rcases l i with rfl|⟨y,f⟩
   . rw[an,an];simp_all
   rw[y,f];exact⟨dK (rR _),rfl⟩
 . obtain⟨H,U⟩:=N r T
   refine⟨H,λi o u=>?_⟩;rcases l i with rfl|⟨y,f⟩
   . rw[an]at u;grind
   rw[f]at u;cases u
 rcases l i with rfl|⟨_,f⟩
 . rw[an]at p;simp_all
 rw[f]at p;cases p
def cq.finish{P g gs q}(h:cq Z kk OO (λ_=>False) (λ_=>False) w t)(m:gs[0]?=some g)(o:Leavers P t gs q)(hd:Deaf t 0=0):dE P Z.W0 (kk 0) (OO 0) g gs w t:=by
 refine⟨Z.Shun,q,m,o,⟨h.clean,λn a c d=>?_,λn s j e f=>?_,hd,h.seen⟩,λa c=>?_,λr k=>?_,h.sat 0,h.yj,h.mine 0⟩
 . rcases h.acc n a c d with b|⟨_,b,_⟩|⟨_,b,_⟩|⟨b,x,_⟩
   . grind
   . grind
   . grind
   simp_all
 . by_cases u:n<Z.N0
   . exact h.v3 n s u j e f
   have v:=f;obtain⟨a,c,d,_⟩:=f;rcases h.acc n a c d with b|⟨_,b,_⟩|⟨_,b,_⟩|⟨_,_,b⟩
   . obtain⟨p,z,l,i,hb⟩:=b
     rcases hb with rfl|hb
     . rw[Trace.g?,l]at j
       simp_all
     exact⟨p,by simp[Trace.g?,l,i],hb⟩
   . grind
   . grind
   simp_all
 . exact⟨(h.lg a c).1,((h.lg a c).2 0).1,((h.lg a c).2 0).2⟩
 exact⟨(h.om r k).1,(h.om r k).2 0⟩
def cq.rS(h:cq Z kk OO J M w t)(S:Loc->Prop)(c:∀a,S (.cell a)->a.block<w.heap.size/\∀i,¬aR (OO i) a.block a.off/\(kk i).cell a.block a.off=none)(d:∀r,¬S (.obj r)):
 cq ⟨λl=>Z.Shun l\/S l,Z.N0,Z.lk,Z.la,Z.W0⟩ kk OO J M w t:=
 ⟨h.sat,h.jb,h.mU,h.Am,h.clean,h.seen,λn a b e=>(h.acc n a b e).imp id (·.imp id (·.imp id λx=>⟨.inl x.1,x.2⟩)),h.n0,h.v3,
   λa b=>b.elim (h.lg a) (c a),λr f=>f.elim (h.om r) (λx=>absurd x (d r)),h.yj,h.mine⟩
end
def jZ(u:Trace):Prop:=∀op∈u,op.act≠.mark .disable/\op.act≠.mark .enable
def s8{t u}(a:jZ u)  g :∀m,m<=u.size->(t++u).deaf g (t.size+m)=Deaf t g
 |0,_=>deaf_old (YF _)
 | m+1,h=>by
   have b:m<u.size:=by omega
   have c:(t++u)[t.size+m]?=some u[m]:=by simp_all
   rw[<-Nat.add_assoc,deaf_succ c,s8 a g m (by omega)];have:=a u[m] (Array.getElem_mem b);unfold deafStep
   simp_all
def bX{t u}(a:jZ u)  g :Deaf (t++u) g=Deaf t g:=by
 have:=s8 (t:=t) a g u.size (YF _);unfold Deaf at *
 simp_all
def di{t u:Trace}{m op}(h:u[m]?=some op):(t++u)[t.size+m]?=some op:=by grind
def heard_new{t u}(a:jZ u){m op}(h:u[m]?=some op)(hd:Deaf t op.g=0):(t++u).heard (t.size+m):=by have b:=(zs.1 h).1;exact⟨op.g,by simp[Trace.g?,di h],by rw[s8 a _ _ (by omega)];exact hd⟩
section
variable{t u:Trace}{i j n:Nat}
def lh(a:Knows t i n){m op}(h:u[m]?=some op)(b:op.g=i):Before (t++u) n (t.size+m):=.inr (a.hb_new (by omega) (di h) b)
def v7(d:jZ u){c k m1 m2:Nat}{x y}(a:u[m1]?=some x)(b:u[m2]?=some y)(e:x.act=.send c k)(f:y.act=.recvDone c k)(h:Deaf t x.g=0)(i:Deaf t y.g=0)(j:Knows t x.g n):Knows (t++u) y.g n:=by
 have l:=lh j a rfl;have m:HappensBefore (t++u) (t.size+m1) (t.size+m2):=.single (.inr ⟨.handOver (c:=c) (k:=k) (by rw[act?_of (di a),e]) (by rw[act?_of (di b),f]),heard_new d a h,heard_new d b i⟩);exact⟨t.size+m2,y,di b,rfl,l.trans (.inr m)⟩
def An(e:jZ u){c m p:Nat}{y}(b:u[m]?=some y)(d:t.act? p=some (.close c))(f:t.heard p)(h:y.act=.recvClosed c)(i:Deaf t y.g=0)(hb:Before t n p):Knows (t++u) y.g n:=by
 have a:=lt_of_act? d;have j:HappensBefore (t++u) p (t.size+m):=.single (.inr ⟨.closed (c:=c) (by rw[act?_old a];exact d) (by rw[act?_of (di b),h]),(heard_old a).2 f,heard_new e b i⟩);exact⟨t.size+m,y,di b,rfl,(hb.app u).trans (.inr j)⟩
def uw(d:jZ u){c m1 m2:Nat}{x y}(b:u[m1]?=some x)(a:u[m2]?=some y)(e:x.act=.go y.g)(f:y.act=.start)(h:Deaf t x.g=0)(i:Deaf t y.g=0)(j:Knows t x.g n):Knows (t++u) y.g n:=by
 have k:=lh j b rfl;have l:HappensBefore (t++u) (t.size+m1) (t.size+m2):=.single (.inr ⟨.spawn (child:=y.g) (by rw[act?_of (di b),e]) (by rw[act?_of (di a),f]) (by simp[Trace.g?,di a]),heard_new d b h,heard_new d a i⟩);exact⟨t.size+m2,y,di a,rfl,k.trans (.inr l)⟩
end
def mE{t u}(f:jZ u){a}{m p n:Nat}{y}(c:u[m]?=some y)(h:y.act=.mark (.acquire a))(i:Deaf t y.g=0)(e:t.act? p=some (.mark (.releaseMerge a)))(j:t.heard p)(d:∀k,p<k->(t++u).act? k≠some (.mark (.release a)))(hb:Before t n p):Knows (t++u) y.g n:=by
 have b:=lt_of_act? e;have l:HappensBefore (t++u) p (t.size+m):=.single (.inr ⟨.marked (a:=a) (by omega) (.inr (by rw[act?_old b];exact e)) (by rw[act?_of (di c),h]) (λk o _=>d k o),(heard_old b).2 j,heard_new f c i⟩);exact⟨t.size+m,y,di c,rfl,(hb.app u).trans (.inr l)⟩
def v8{k O B es}(h:∀e∈es.toList,iO k O B e)  g   fn   pos :jZ (MemOp.ofEvents g fn pos es):=λop a=>by
 obtain⟨e,c,rfl⟩:=zH a;have:=h e (by simp_all);obtain⟨loc,wr,b⟩:=e;cases loc with
 |cell d=>simp[MemAct.ofEvent]
 |obj r=>cases wr<;>cases b<;>simp[MemAct.ofEvent]
 |mark m=>simp only[iO]at this;cases m<;>simp_all [jD,mz,MemAct.ofEvent]
 |_=>simp[iO]at this
end Go.cr
namespace Go.cr.Mu
structure Wd where
 L:Bool
 K:Bool
 S:Bool
 N:Nat
 deriving DecidableEq
def Wd.zero:Wd:=⟨false,false,false,0⟩
structure Lo where
 aw:Bool
 sv:Bool
 it:Nat
 deriving DecidableEq
inductive Pc where
 |out
 |gT
 |rd (l:Lo)
 |sq (old:Wd) (l:Lo)
 |sw (old:Wd) (l:Lo)
 |jX (old:Wd) (l:Lo)
 |fU (sv:Bool)
 |tq
 |up (sv:Bool)
 |add (old:Wd) (sv:Bool)
 |held
 |iP (old:Wd)
 |uS
 |give
 |bad
 deriving DecidableEq
def hd(old:Wd)(l:Lo):List Pc:=(if old.L && !old.S && decide (l.it<4)then[if !l.aw && !old.K && decide (old.N≠0)then .sw old l else .rd {l with it:=l.it+1}]else[])++[.jX old l]
def nx(old:Wd)(l:Lo):Pc:=if old.L && !old.S then .sq old l else .jX old l
def oW(old:Wd)(l:Lo):Wd:=⟨old.L||!old.S,if l.aw then false else old.K,old.S||(l.sv && old.L),if old.L||old.S then old.N+1 else old.N⟩
structure Sh where
 w:Wd
 ms:Nat
 deriving DecidableEq
def mv(p:Pc)(s:Sh):List (Pc × Sh):=
 match p with
 |.out=>[]
 |.gT=>if s.w=.zero then[(.held,{s with w:={Wd.zero with L:=true}})]else[(.rd ⟨false,false,0⟩,s)]
 |.rd l=>[(nx s.w l,s)]
 |.sq old l=>(hd old l).map (·,s)
 |.sw old l=>if s.w=old then[(.rd {l with aw:=true,it:=l.it+1},{s with w:={old with K:=true}})]else[(.rd {l with it:=l.it+1},s)]
 | .jX old l=>
   if l.aw && !old.K then[(.bad,s)]else
   if s.w=old then[(if old.L||old.S then .fU l.sv else .held,{s with w:=oW old l})]else[(.rd l,s)]
 |.fU sv=>if s.ms=0 then[]else[(if sv then .up true else .tq,{s with ms:=s.ms-1})]
 |.tq=>[(.up false,s),(.up true,s)]
 |.up sv=>if s.w.S then(if s.w.L||s.w.K||decide (s.w.N=0)then[(.bad,s)]else[(.add s.w sv,s)])else[(nx s.w ⟨true,sv,0⟩,s)]
 |.add old sv=>[(.held,{s with w:={s.w with L:=true,S:=s.w.S && !(!sv||decide (old.N=1)),N:=s.w.N-1}})]
 | .held=>
   let w:={s.w with L:=false}
   if s.w.L=false then[(.bad,s)]else
   [(if w=.zero then .out else if w.S then .give else if decide (w.N=0)||w.K then .out else .iP w,{s with w})]
 |.iP old=>if s.w=old then[(.give,{s with w:={old with K:=true,N:=old.N-1}})]else[(.uS,s)]
 |.uS=>[(if decide (s.w.N=0)||s.w.L||s.w.K||s.w.S then .out else .iP s.w,s)]
 |.give=>[(.out,{s with ms:=s.ms+1})]
 |.bad=>[]
def eQ(n:Nat)(f:abg):Nat:=match n with
 |0=>0
 |n+1=>eQ n f+f n
def set(pcs:Nat->Pc)(i:Nat)(p:Pc):Nat->Pc:=λj=>if j=i then p else pcs j
def aj  pcs   i   p :set pcs i p i=p:=by simp[set]
def ah  pcs  {i j}  p  (h:j≠i):set pcs i p j=pcs j:=by simp[set,h]
def ta{f g}:∀{n},(∀i,i<n->f i=g i)->eQ n f=eQ n g
 |0,_=>rfl
 |n+1,h=>by rw[eQ,eQ,ta (n:=n) λi a=>h i (by omega),h n (by omega)]
def fP(f:Pc->Nat)  pcs   i   p :∀{n},i<n->eQ n (λj=>f (set pcs i p j))+f (pcs i)=eQ n (λj=>f (pcs j))+f p
 |0,h=>by omega
 | n + 1,h=>by
   by_cases e:i=n
   . subst e
     rw[eQ,eQ,aj,ta (g:=λj=>f (pcs j)) λj a=>by rw[ah pcs p (show j≠i by omega)]];omega
   have:=fP f pcs i p (n:=n) (by omega);rw[eQ,eQ,ah pcs p (show n≠i by omega)];omega
def iD  f  {i}:∀{n},i<n->f i<=eQ n f
 |0,h=>by omega
 | n+1,h=>by
   rw[eQ];by_cases e:i=n
   . simp_all
   have:=iD f (n:=n) (i:=i) (by omega);omega
def BO{f}:∀{n},eQ n f=0->∀i,i<n->f i=0
 |0,_,i,a=>by omega
 | n+1,h,i,a=>by
   rw[eQ]at h;by_cases e:i=n
   . simp_all
   exact BO (n:=n) (by omega) i (by omega)
def bW:Pc->Nat|.held=>1|_=>0
def eY:Pc->Nat|.rd l=>l.aw.toNat|.sq _ l=>l.aw.toNat|.sw _ l=>l.aw.toNat|.jX _ l=>l.aw.toNat|_=>0
def cB:Pc->Nat|.fU _=>1|_=>0
def cC:Pc->Nat|.give=>1|_=>0
def mF:Pc->Nat|.tq=>1|.up _=>1|_=>0
def cV:Pc->Nat|.add _ _=>1|_=>0
def gV:Pc->Nat|.iP _=>1|.uS=>1|_=>0
def loc:Pc->Prop
 |.rd l=>(l.sv=true->l.aw=true)/\l.it<=4
 |.sq old l=>(l.aw=true->old.K=true)/\(l.sv=true->l.aw=true)/\l.it<=4/\old.L=true/\old.S=false
 |.sw old l=>l.aw=false/\l.sv=false/\old.L=true/\old.S=false/\old.K=false/\l.it<4
 |.jX old l=>(l.aw=true->old.K=true)/\(l.sv=true->l.aw=true)/\l.it<=4
 |.iP old=>old.L=false/\old.K=false/\old.S=false/\old.N≠0
 |.bad=>False
 |_=>True
structure Inv0  n  (pcs:Nat->Pc) (s:Sh):Prop where
 j0:∀i,i<n->loc (pcs i)
 j1:eQ n (λi=>bW (pcs i))=s.w.L.toNat
 j2:s.w.S=false->eQ n (λi=>eY (pcs i))+eQ n (λi=>cC (pcs i))+s.ms+eQ n (λi=>mF (pcs i))=s.w.K.toNat/\eQ n (λi=>cV (pcs i))=0/\eQ n (λi=>cB (pcs i))=s.w.N+eQ n (λi=>cC (pcs i))+s.ms
 j3:s.w.S=true->s.w.K=false/\eQ n (λi=>eY (pcs i))=0/\eQ n (λi=>cC (pcs i))+s.ms+eQ n (λi=>mF (pcs i))+eQ n (λi=>cV (pcs i))=(!s.w.L).toNat/\eQ n (λi=>cB (pcs i))+eQ n (λi=>mF (pcs i))+eQ n (λi=>cV (pcs i))=s.w.N
 j4:s.w.L=false->s.w.K=false->s.w.S=false->s.w.N≠0->0<eQ n (λi=>gV (pcs i))
def PL{old l}(a:l.sv=true->l.aw=true)(b:l.it<=4)(c:l.aw=true->old.K=true){p}(h:p∈hd old l):loc p/\eY p=l.aw.toNat/\bW p=0/\cB p=0/\cC p=0/\mF p=0/\cV p=0/\gV p=0:=by
 obtain⟨aw,sv,it⟩:=l;obtain⟨i,j,k,m⟩:=old;simp only at a b c;unfold hd at h;simp only[YH,lb]at h;rcases h with h|rfl
 . split at h
   . rename_i d
     simp at d;simp only[lb]at h;subst h;split
     . rename_i e
       simp at e;obtain⟨⟨f,g⟩,n⟩:=e;subst f;have:sv=false:=by simp_all
       simp[loc,eY,bW,cB,cC,mF,cV,gV,d,this,g]
     exact⟨⟨a,by grind⟩,rfl,rfl,rfl,rfl,rfl,rfl,rfl⟩
   simp at h
 exact⟨⟨c,a,b⟩,rfl,rfl,rfl,rfl,rfl,rfl,rfl⟩
def Je{old l}(a:l.sv=true->l.aw=true)(b:l.it<=4)(c:l.aw=true->old.K=true):loc (nx old l)/\eY (nx old l)=l.aw.toNat/\bW (nx old l)=0/\cB (nx old l)=0/\cC (nx old l)=0/\mF (nx old l)=0/\cV (nx old l)=0/\gV (nx old l)=0:=by
 unfold nx;split
 . rename_i h
   simp at h;exact⟨⟨c,a,b,h.1,h.2⟩,rfl,rfl,rfl,rfl,rfl,rfl,rfl⟩
 exact⟨⟨c,a,b⟩,rfl,rfl,rfl,rfl,rfl,rfl,rfl⟩
set_option maxHeartbeats 2000000 in
def Inv0.step{n pcs s s' i q}(h:Inv0 n pcs s)(hi:i<n)(a:(q,s')∈mv (pcs i) s):Inv0 n (set pcs i q) s':=by
 have H:=fP bW pcs i q hi;have A:=fP eY pcs i q hi;have P:=fP cB pcs i q hi;have G:=fP cC pcs i q hi;have U:=fP mF pcs i q hi;have D:=fP cV pcs i q hi;have R:=fP gV pcs i q hi;have J:=iD (λj=>bW (pcs j)) hi
 have M:=iD (λj=>eY (pcs j)) hi
 have V:=iD (λj=>cB (pcs j)) hi
 have O:=iD (λj=>cC (pcs j)) hi
 have C:=iD (λj=>mF (pcs j)) hi
 have Q:=iD (λj=>cV (pcs j)) hi
 have E:=iD (λj=>gV (pcs j)) hi
 have y:=h.j0 i hi;obtain⟨⟨d,f,g,W⟩,ms⟩:=s;have j1:=h.j1;have j2:=h.j2;have j3:=h.j3;have j4:=h.j4;simp only at j1 j2 j3 j4
 have key:∀(m:Wd) (t:Nat),s'=⟨m,t⟩->loc q->(eQ n (λj=>bW (set pcs i q j))=m.L.toNat) ->
  (m.S=false->eQ n (λj=>eY (set pcs i q j))+eQ n (λj=>cC (set pcs i q j))+t+eQ n (λj=>mF (set pcs i q j))=m.K.toNat/\eQ n (λj=>cV (set pcs i q j))=0/\eQ n (λj=>cB (set pcs i q j))=m.N+eQ n (λj=>cC (set pcs i q j))+t) ->
  (m.S=true->m.K=false/\eQ n (λj=>eY (set pcs i q j))=0/\eQ n (λj=>cC (set pcs i q j))+t+eQ n (λj=>mF (set pcs i q j))+eQ n (λj=>cV (set pcs i q j))=(!m.L).toNat/\eQ n (λj=>cB (set pcs i q j))+eQ n (λj=>mF (set pcs i q j))+eQ n (λj=>cV (set pcs i q j))=m.N) ->
  (m.L=false->m.K=false->m.S=false->m.N≠0->0<eQ n (λj=>gV (set pcs i q j)))->Inv0 n (set pcs i q) s':=by
  rintro m t rfl F o v r z
  refine⟨λj hj=>?_,o,v,r,z⟩
  by_cases e:j=i
  . subst e;rw[aj];exact F
  rw[ah pcs q e];exact h.j0 j hj
 generalize hp:pcs i=p at *;generalize eQ n (λj=>bW (set pcs i q j))=H' at *
 generalize eQ n (λj=>eY (set pcs i q j))=A' at *
 generalize eQ n (λj=>cB (set pcs i q j))=P' at *
 generalize eQ n (λj=>cC (set pcs i q j))=G' at *
 generalize eQ n (λj=>mF (set pcs i q j))=U' at *
 generalize eQ n (λj=>cV (set pcs i q j))=D' at *
 generalize eQ n (λj=>gV (set pcs i q j))=R' at *
 generalize eQ n (λj=>bW (pcs j))=H0 at *
 generalize eQ n (λj=>eY (pcs j))=A0 at *
 generalize eQ n (λj=>cB (pcs j))=P0 at *
 generalize eQ n (λj=>cC (pcs j))=G0 at *
 generalize eQ n (λj=>mF (pcs j))=U0 at *
 generalize eQ n (λj=>cV (pcs j))=D0 at *
 generalize eQ n (λj=>gV (pcs j))=R0 at *
 cases p with
 |out=>simp[mv]at a
 |bad=>simp[mv]at a
 | gT=>
   simp only[mv]at a;split at a
   . rename_i c
     simp only[Wd.zero,Wd.mk.injEq]at c;obtain⟨rfl,rfl,rfl,rfl⟩:=c;simp only[lb,zG]at a;obtain⟨rfl,rfl⟩:=a;refine key _ _ rfl trivial ?_ ?_ ?_ ?_<;>simp[bW,eY,cB,cC,mF,cV,gV,Wd.zero]at *<;>omega
   simp only[lb,zG]at a;obtain⟨rfl,rfl⟩:=a;refine key _ _ rfl (by simp[loc]) ?_ ?_ ?_ ?_<;>simp[bW,eY,cB,cC,mF,cV,gV,Wd.zero]at *<;>cases d<;>cases f<;>cases g<;>simp at *<;>omega
 | rd l=>
   simp only[mv,lb,zG]at a;obtain⟨rfl,rfl⟩:=a
   have X:l.aw=true->f=true:=λha=>by
    simp[eY,ha]at M;cases g
    . have:=(j2 rfl).1
      cases f
      . simp at this;omega
      rfl
    have:=(j3 rfl).2.1;omega
   obtain⟨F,o,v,r,z,Y,Z,k7⟩:=Je (old:=⟨d,f,g,W⟩) y.1 y.2 X;rw[o]at A;rw[v]at H;rw[r]at P;rw[z]at G;rw[Y]at U;rw[Z]at D;rw[k7]at R;refine key _ _ rfl F ?_ ?_ ?_ ?_<;>simp[bW,eY,cB,cC,mF,cV,gV]at H A P G U D R ⊢<;>cases d<;>cases f<;>cases g<;>simp at j1 j2 j3 j4 ⊢<;>omega
 |sq old l=>simp only[mv,YN,zG]at a;obtain⟨q',k,rfl,rfl⟩:=a;obtain⟨F,o,v,r,z,Y,Z,k7⟩:=PL y.2.1 y.2.2.1 y.1 k;rw[o]at A;rw[v]at H;rw[r]at P;rw[z]at G;rw[Y]at U;rw[Z]at D;rw[k7]at R;refine key _ _ rfl F ?_ ?_ ?_ ?_<;>simp[bW,eY,cB,cC,mF,cV,gV]at H A P G U D R ⊢<;>cases d<;>cases f<;>cases g<;>simp at j1 j2 j3 j4 ⊢<;>omega
 | sw old l=>
   obtain⟨oL,oK,oS,oN⟩:=old;obtain⟨w,x,B,T,h5,h6⟩:=y;obtain⟨aw,sv,it⟩:=l;simp only at w x B T h5 h6;subst w;subst x;subst B;subst T;subst h5;simp only[mv]at a;split at a
   . rename_i c
     simp only[Wd.mk.injEq]at c;obtain⟨rfl,rfl,rfl,rfl⟩:=c;simp only[lb,zG]at a;obtain⟨rfl,rfl⟩:=a;refine key _ _ rfl (by simp[loc];omega) ?_ ?_ ?_ ?_<;>simp[bW,eY,cB,cC,mF,cV,gV]at *<;>omega
   simp only[lb,zG]at a;obtain⟨rfl,rfl⟩:=a;refine key _ _ rfl (by simp[loc];omega) ?_ ?_ ?_ ?_<;>simp[bW,eY,cB,cC,mF,cV,gV]at H A P G U D R ⊢<;>cases d<;>cases f<;>cases g<;>simp at j1 j2 j3 j4 ⊢<;>omega
 | jX old l=>
   obtain⟨oL,oK,oS,oN⟩:=old;obtain⟨w,x,B⟩:=y;obtain⟨aw,sv,it⟩:=l;simp only at w x B;simp only[mv]at a;split at a
   . rename_i c
     simp at c;have:=w c.1;rw[this]at c;simp at c
   split at a
   . rename_i c
     simp only[Wd.mk.injEq]at c;obtain⟨rfl,rfl,rfl,rfl⟩:=c;simp only[lb,zG]at a;obtain⟨k,rfl⟩:=a;cases aw<;>cases sv<;>simp only[LK,false_implies,true_implies,imp_false,not_true]at x
     all_goals cases d<;>cases g<;>simp at k<;>subst k
     all_goals refine key _ _ rfl (by simp[loc]) ?_ ?_ ?_ ?_<;>simp[bW,eY,cB,cC,mF,cV,gV,oW]at H A P G U D R J M V O C Q E ⊢<;>cases f<;>simp at j1 j2 j3 j4 w ⊢<;>omega
   simp only[lb,zG]at a;obtain⟨rfl,rfl⟩:=a;refine key _ _ rfl ⟨x,B⟩ ?_ ?_ ?_ ?_<;>simp[bW,eY,cB,cC,mF,cV,gV]at H A P G U D R ⊢<;>cases d<;>cases f<;>cases g<;>simp at j1 j2 j3 j4 ⊢<;>omega
 | fU sv=>
   simp only[mv]at a;split at a
   . simp at a
   rename_i c;simp only[lb,zG]at a;obtain⟨rfl,rfl⟩:=a;cases sv
   all_goals refine key _ _ rfl trivial ?_ ?_ ?_ ?_<;>simp[bW,eY,cB,cC,mF,cV,gV]at H A P G U D R J M V O C Q E ⊢<;>cases d<;>cases f<;>cases g<;>simp at j1 j2 j3 j4 ⊢<;>omega
 | tq=>
   simp only[mv,YQ,zG,ZK,or_false]at a
   rcases a with⟨rfl,rfl⟩|⟨rfl,rfl⟩
   all_goals refine key _ _ rfl trivial ?_ ?_ ?_ ?_<;>simp[bW,eY,cB,cC,mF,cV,gV]at H A P G U D R J M V O C Q E ⊢<;>cases d<;>cases f<;>cases g<;>simp at j1 j2 j3 j4 ⊢<;>omega
 | up sv=>
   simp only[mv]at a;split at a
   . rename_i c
     subst c;obtain⟨o,v,r,z⟩:=j3 rfl;simp[mF]at C;have I:d=false:=by cases d<;>simp at r ⊢;omega
     subst I;subst o;have hN:W≠0:=by omega
     simp only[Bool.false_or,hN,decide_false,LK,Rp,lb,zG]at a;obtain⟨rfl,rfl⟩:=a;refine key _ _ rfl trivial ?_ ?_ ?_ ?_<;>simp[bW,eY,cB,cC,mF,cV,gV]at H A P G U D R r j1 ⊢<;>omega
   rename_i c;simp at c;subst c;simp only[lb,zG]at a;obtain⟨rfl,rfl⟩:=a;obtain⟨o,v,r⟩:=j2 rfl;simp[mF]at C;have X:f=true:=by cases f<;>simp at o ⊢;omega
   subst X;obtain⟨l0,l1,l2,l3,l4,l5,l6,l7⟩:=Je (l:=⟨true,sv,0⟩) (old:=⟨d,true,false,W⟩) (λ_=>rfl) (by simp) (λ_=>rfl)
   rw[l1]at A;rw[l2]at H;rw[l3]at P;rw[l4]at G;rw[l5]at U;rw[l6]at D;rw[l7]at R;refine key _ _ rfl l0 ?_ ?_ ?_ ?_<;>simp[bW,eY,cB,cC,mF,cV,gV]at H A P G U D R o ⊢<;>cases d<;>simp at j1 j4 ⊢<;>omega
 | add old sv=>
   simp only[mv,lb,zG]at a;obtain⟨rfl,rfl⟩:=a;simp[cV]at Q
   have hS:g=true:=by
    cases g with
    |true=>rfl
    |false=>have:=(j2 rfl).2.1;omega
   subst hS;obtain⟨o,v,r,z⟩:=j3 rfl;have I:d=false:=by cases d<;>simp at r ⊢;omega
   subst I;subst o;generalize hb:(true && !(!sv||decide (old.N=1)))=b at key ⊢
   refine key _ _ rfl trivial ?_ ?_ ?_ ?_<;>simp[bW,eY,cB,cC,mF,cV,gV]at H A P G U D R r j1 ⊢<;>cases b<;>(try simp)<;>omega
 | held=>
   simp[bW]at J;have I:d=true:=by cases d<;>simp at j1 ⊢;omega
   subst I;simp only[mv,ZU,Rp,lb,zG]at a;obtain⟨k,rfl⟩:=a;split at k
   . rename_i c
     simp only[Wd.zero,Wd.mk.injEq,true_and]at c;obtain⟨rfl,rfl,rfl⟩:=c;subst k;refine key _ _ rfl trivial ?_ ?_ ?_ ?_<;>simp[bW,eY,cB,cC,mF,cV,gV]at *<;>omega
   split at k
   . rename_i c
     have c:g=true:=c;subst c;subst k;obtain⟨o,v,r,z⟩:=j3 rfl;subst o;refine key _ _ rfl trivial ?_ ?_ ?_ ?_<;>simp[bW,eY,cB,cC,mF,cV,gV]at H A P G U D R j1 r ⊢<;>omega
   split at k
   . rename_i a7 u c
     simp at u;subst u;subst k;refine key _ _ rfl trivial ?_ ?_ ?_ ?_<;>simp[bW,eY,cB,cC,mF,cV,gV]at *<;>cases f<;>simp at *<;>omega
   rename_i a7 u c;simp at u c;subst u;subst k;refine key _ _ rfl (by simp[loc,c]) ?_ ?_ ?_ ?_<;>simp[bW,eY,cB,cC,mF,cV,gV]at *<;>simp[c]at *<;>omega
 | iP old=>
   obtain⟨oL,oK,oS,oN⟩:=old;obtain⟨w,x,B,T⟩:=y;simp only at w x B T;subst w;subst x;subst B;simp only[mv]at a;split at a
   . rename_i c
     simp only[Wd.mk.injEq]at c;obtain⟨rfl,rfl,rfl,rfl⟩:=c;simp only[lb,zG]at a;obtain⟨rfl,rfl⟩:=a;refine key _ _ rfl trivial ?_ ?_ ?_ ?_<;>simp[bW,eY,cB,cC,mF,cV,gV]at *<;>omega
   simp only[lb,zG]at a;obtain⟨rfl,rfl⟩:=a;refine key _ _ rfl trivial ?_ ?_ ?_ ?_<;>simp[bW,eY,cB,cC,mF,cV,gV]at H A P G U D R E ⊢<;>cases d<;>cases f<;>cases g<;>simp at j1 j2 j3 j4 ⊢<;>omega
 | uS=>
   simp only[mv,lb,zG]at a;obtain⟨k,rfl⟩:=a;split at k
   . rename_i c
     subst k;refine key _ _ rfl trivial ?_ ?_ ?_ ?_<;>simp[bW,eY,cB,cC,mF,cV,gV]at H A P G U D R E c ⊢<;>cases d<;>cases f<;>cases g<;>simp at j1 j2 j3 j4 c ⊢<;>omega
   rename_i c;simp at c;subst k;obtain⟨⟨⟨z1,z2⟩,z3⟩,z4⟩:=c;subst z2;subst z3;subst z4;refine key _ _ rfl (by simp[loc,z1]) ?_ ?_ ?_ ?_<;>simp[bW,eY,cB,cC,mF,cV,gV]at *<;>omega
 |give=>simp only[mv,lb,zG]at a;obtain⟨rfl,rfl⟩:=a;refine key _ _ rfl trivial ?_ ?_ ?_ ?_<;>simp[bW,eY,cB,cC,mF,cV,gV]at H A P G U D R O ⊢<;>cases d<;>cases f<;>cases g<;>simp at j1 j2 j3 j4 ⊢<;>omega
structure Inv  n   pcs   s :Prop extends Inv0 n pcs s where
 j5:s.w.S=true->s.w.N≠0
 j6:∀i,i<n->∀old sv,pcs i=.add old sv->old.N<=s.w.N/\old.N≠0
def Inv0.OR{n pcs s}(h:Inv0 n pcs s){i}(hi:i<n){old sv}(a:pcs i=.add old sv):s.w.S=true/\eQ n (λi=>cV (pcs i))<=1:=by
 have c:cV (pcs i)=1:=by rw[a];rfl
 have d:cV (pcs i)<=eQ n (λi=>cV (pcs i)):=iD (λi=>cV (pcs i)) hi
 cases e:s.w.S with
 |true=>refine⟨rfl,?_⟩;have:=(h.j3 e).2.2.1;cases b:s.w.L<;>rw[b]at this<;>simp at this<;>omega
 |false=>have:=(h.j2 e).2.1;omega
def Inv0.add_one{n pcs s}(h:Inv0 n pcs s){i l}(hi:i<n)(f:l<n){old a sv b}(d:pcs i=.add old sv)(c:pcs l=.add a b):i=l:=by
 by_cases e:i=l
 . exact e
 have k:=(h.OR hi d).2;have m:=fP cV pcs i .out hi;have g:cV (set pcs i .out l)<=eQ n (λj=>cV (set pcs i .out j)):=iD (λj=>cV (set pcs i .out j)) f
 rw[ah pcs Pc.out (zj e)]at g;have o:cV (pcs i)=1:=by rw[d];rfl
 have p:cV (pcs l)=1:=by rw[c];rfl
 have q:cV .out=0:=rfl;omega
def Inv.step{n pcs s s' i q}(h:Inv n pcs s)(hi:i<n)(b:(q,s')∈mv (pcs i) s):Inv n (set pcs i q) s':=by
 have j:=h.j0 i hi
 have key:(s'.w.S=true->s'.w.N≠0)/\(s.w.N<=s'.w.N\/(∃old sv,pcs i=.add old sv)\/s.w.S=false)/\(∀old sv,q=.add old sv->old.N<=s'.w.N/\old.N≠0):=by
  have g:=h.j5;have k:=h.j6 i hi;revert b j k;cases pcs i with
  |out=>intro b;simp[mv]at b
  |bad=>intro b;simp[mv]at b
  | gT=>
    intro b _ _;simp only[mv]at b
    grind
  |rd l=>intro b _ _;simp[mv]at b;obtain⟨rfl,rfl⟩:=b;exact⟨g,.inl (YF _),λold sv h=>by unfold nx at h;grind⟩
  | sq o l=>
    intro b _ _;simp only[mv,YN,zG]at b;obtain⟨a,p,rfl,rfl⟩:=b;refine⟨g,.inl (YF _),λold sv h=>?_⟩;subst h;unfold hd at p
    grind
  | sw o l=>
    intro b _ _;simp only[mv]at b
    grind
  | jX o l=>
    intro b _ _;simp only[mv]at b;split at b
    . simp_all
    split at b
    . rename_i m
      simp at b;obtain⟨rfl,rfl⟩:=b;rw[m]at g ⊢;refine⟨λh=>?_,.inl ?_,λold sv h=>by grind⟩
      . unfold oW at h ⊢
        grind
      unfold oW
      grind
    simp_all
  | fU sv=>
    intro b _ _;simp only[mv]at b
    grind
  | tq=>
    intro b _ _;simp[mv]at b
    grind
  | up sv=>
    intro b _ _;simp only[mv]at b;split at b
    . grind
    simp at b;obtain⟨rfl,rfl⟩:=b;exact⟨g,.inl (YF _),λold sv h=>by unfold nx at h;grind⟩
  |add o sv=>intro b _ k;simp[mv]at b;grind
  | held=>
    intro b _ _;simp only[mv]at b
    grind
  | iP o=>
    intro b j _;simp only[mv]at b;split at b
    . rename_i m
      simp at b;obtain⟨rfl,rfl⟩:=b;have v:o.S=false:=j.2.2.1
      simp_all
    simp_all
  |uS=>intro b _ _;simp only[mv,lb,zG]at b;grind
  |give=>intro b _ _;simp[mv]at b;simp_all
 obtain⟨r,c,x⟩:=key;refine⟨h.toInv0.step hi b,r,λl d old sv f=>?_⟩;by_cases e:l=i
 . subst e
   rw[aj]at f
   simp_all
 rw[ah pcs q e]at f;obtain⟨y,t⟩:=h.j6 l d old sv f;refine⟨?_,t⟩;rcases c with c|⟨o,u,c⟩|c
 . omega
 . exact absurd (h.toInv0.add_one hi d c f) (zj e)
 rw[(h.toInv0.OR d f).1]at c;cases c
def Ao:∀n ,eQ n (λ_=>0)=0
 |0=>rfl
 |n+1=>by rw[eQ,Ao n]
def Inv.rest{n pcs s}(h:Inv n pcs s)(l:∀i,i<n->pcs i=.out):s.w=.zero/\s.ms=0:=by
 have f:∀(F:Pc->Nat),F .out=0->eQ n (λi=>F (pcs i))=0:=λF m=>by
  have:eQ n (λi=>F (pcs i))=eQ n (λ_=>0):=ta λi o=>by simp_all
  rw[this];exact Ao n
 have L:s.w.L=false:=by
  have:=h.j1;rw[f bW rfl]at this
  grind
 have S:s.w.S=false:=by
  cases e:s.w.S with
  |false=>rfl
  |true=>have:=(h.j3 e).2.2.2;rw[f cB rfl,f mF rfl,f cV rfl]at this;exact absurd this.symm (h.j5 e)
 obtain⟨g,p,j⟩:=h.j2 S;rw[f eY rfl,f cC rfl,f mF rfl]at g;rw[f cB rfl,f cC rfl]at j;have K:s.w.K=false:=by grind
 refine⟨?_,by omega⟩;have N:s.w.N=0:=by omega
 cases k:s.w with
 |mk a b c d=>rw[k]at L S K N;simp only at L S K N;subst L;subst S;subst K;subst N;rfl
def fV:Pc->Nat
 |.out=>0
 |.gT=>6
 |.rd l=>if l.aw then 5 else 6
 |.sq _ l=>if l.aw then 5 else 6
 |.sw _ _=>6
 |.jX _ l=>if l.aw then 5 else 6
 |.fU _=>4
 |.tq=>5
 |.up _=>5
 |.add _ _=>5
 |.held=>3
 |.iP _=>2
 |.uS=>2
 |.give=>1
 |.bad=>0
def jq(w:Wd):Pc->Nat
 |.out=>0
 |.gT=>16
 |.rd l=>3+3*(4-l.it)
 |.sq old l=>if w=old then 2+3*(4-l.it)else 5+3*(4-l.it)
 |.sw old l=>if w=old then 1 else 4+3*(3-l.it)
 |.jX old l=>if w=old then 1 else 4+3*(4-l.it)
 |.fU _=>18
 |.tq=>17
 |.up _=>16
 |.add _ _=>1
 |.held=>1
 |.iP old=>if w=old then 1 else 4
 |.uS=>3
 |.give=>1
 |.bad=>0
def Nd  w   p :jq w p<=18:=by cases p<;>simp[jq]<;>(try split)<;>omega
def DU{f c}(h:∀i,f i<=c):∀n,eQ n f<=n*c
 |0=>by simp[eQ]
 |n+1=>by have:=DU h n;have:=h n;rw[eQ,Nat.succ_mul];omega
def phi(n:Nat)(pcs:Nat->Pc)(s:Sh):Nat:=eQ n (λi=>fV (pcs i))+s.ms
def meas(n:Nat)(pcs:Nat->Pc)(s:Sh):Nat:=phi n pcs s*(18*n+1)+eQ n (λi=>jq s.w (pcs i))
def Nf{p q s s'}(f:loc p)(h:(q,s')∈mv p s):fV q+s'.ms<fV p+s.ms\/(s'.w=s.w/\fV q+s'.ms<=fV p+s.ms/\jq s.w q<jq s.w p):=by
 have g:∀(old:Wd) (l:Lo) (q:Pc),q∈hd old l->fV q=fV (.rd l)/\jq s.w q<(if s.w=old then 2+3*(4-l.it)else 5+3*(4-l.it)):=λold l q b=>by
  unfold hd at b;simp only[YH,lb]at b
  rcases b with b|rfl
  . split at b
    . rename_i a
      simp at a;simp only[lb]at b;subst b;split
      . rename_i i
        simp at i;simp[fV,jq,i.1.1]
        grind
      refine⟨rfl,?_⟩;have:=a.2;simp[jq]
      grind
    grind
  simp[fV,jq]
  grind
 have c:∀(l:Lo),fV (nx s.w l)=fV (.rd l)/\jq s.w (nx s.w l)<3+3*(4-l.it):=λl=>by unfold nx;split<;>simp[fV,jq]<;>omega
 cases p with
 |out=>simp[mv]at h
 |bad=>simp[mv]at h
 |gT=>simp only[mv]at h;split at h<;>simp only[lb,zG]at h<;>obtain⟨rfl,rfl⟩:=h<;>simp[fV,jq]
 |rd l=>simp only[mv,lb,zG]at h;obtain⟨rfl,rfl⟩:=h;obtain⟨d,e⟩:=c l;exact .inr ⟨rfl,by omega,e⟩
 |sq old l=>simp only[mv,YN,zG]at h;obtain⟨k,b,rfl,rfl⟩:=h;obtain⟨d,e⟩:=g old l _ b;exact .inr ⟨rfl,by rw[d];exact YF _,e⟩
 | sw old l=>
   have j:=f.1;have m:=f.2.2.2.2.2;simp only[mv]at h;split at h<;>rename_i a<;>simp only[lb,zG]at h<;>obtain⟨rfl,rfl⟩:=h
   . simp[fV,jq]
   refine .inr ⟨rfl,by simp[fV,j],?_⟩
   simp[jq,a]
 | jX old l=>
   simp only[mv]at h;split at h
   . rename_i a
     simp at a;have:=f.1 a.1
     simp_all
   split at h<;>rename_i a<;>simp only[lb,zG]at h
   . obtain⟨rfl,rfl⟩:=h
     left;split<;>simp only[fV]<;>split<;>omega
   obtain⟨rfl,rfl⟩:=h;exact .inr ⟨rfl,by simp[fV],by simp[jq,a]⟩
 | fU sv=>
   simp only[mv]at h;split at h
   . simp at h
   simp only[lb,zG]at h;obtain⟨rfl,rfl⟩:=h;cases sv<;>exact .inr ⟨rfl,by simp[fV];omega,by simp[jq]⟩
 | tq=>
   simp only[mv,YQ,zG,ZK,or_false]at h
   rcases h with⟨rfl,rfl⟩|⟨rfl,rfl⟩<;>exact .inr ⟨rfl,by simp[fV],by simp[jq]⟩
 | up sv=>
   simp only[mv]at h;split at h
   . split at h<;>simp only[lb,zG]at h<;>obtain⟨rfl,rfl⟩:=h<;>exact .inr ⟨rfl,by simp[fV],by simp[jq]⟩
   simp only[lb,zG]at h;obtain⟨rfl,rfl⟩:=h;obtain⟨d,e⟩:=c ⟨true,sv,0⟩;refine .inr ⟨rfl,by rw[d];simp[fV],?_⟩
   have n:∀w,jq w (.up sv)=16:=λ_=>rfl
   grind
 |add old sv=>simp only[mv,lb,zG]at h;obtain⟨rfl,rfl⟩:=h;exact .inl (by simp[fV])
 | held=>
   simp only[mv]at h;left;split at h
   . simp only[lb,zG]at h;obtain⟨rfl,rfl⟩:=h;simp[fV]
   simp only[lb,zG]at h;obtain⟨rfl,rfl⟩:=h;split
   . simp[fV]
   split
   . simp[fV]
   split<;>simp[fV]
 | iP old=>
   simp only[mv]at h;split at h<;>rename_i a<;>simp only[lb,zG]at h<;>obtain⟨rfl,rfl⟩:=h
   . simp[fV]
   exact .inr ⟨rfl,by simp[fV],by simp[jq,a]⟩
 | uS=>
   simp only[mv,lb,zG]at h;obtain⟨rfl,rfl⟩:=h;split
   . left;simp[fV]
   exact .inr ⟨rfl,by simp[fV],by simp[jq]⟩
 |give=>simp only[mv,lb,zG]at h;obtain⟨rfl,rfl⟩:=h;exact .inr ⟨rfl,by simp[fV];omega,by simp[jq]⟩
def GG{n pcs s s' i q}(hi:i<n)(b:loc (pcs i))(d:(q,s')∈mv (pcs i) s):meas n (set pcs i q) s'<meas n pcs s/\phi n (set pcs i q) s'<=phi n pcs s:=by
 have C:=fP fV pcs i q hi;have e:=iD (λj=>fV (pcs j)) hi
 rcases Nf b d with h|⟨g,k,l⟩
 . have a:phi n (set pcs i q) s'+1<=phi n pcs s:=by unfold phi;omega
   refine⟨?_,by omega⟩
   have m:=DU (f:=λj=>jq s'.w (set pcs i q j)) (c:=18) (λj=>Nd _ _) n
   have:=Zw (18*n+1) a;rw[aav]at this;unfold meas;omega
 have a:phi n (set pcs i q) s'<=phi n pcs s:=by unfold phi;omega
 refine⟨?_,a⟩;have R:=fP (jq s.w) pcs i q hi;have o:=iD (λj=>jq s.w (pcs j)) hi
 have:=Zw (18*n+1) a;unfold meas
 grind
def Inv.alive{n pcs s}(h:Inv n pcs s)(c:∀i,i<n->pcs i=.out\/∃sv,pcs i=.fU sv)(a:s.ms=0):∀i,i<n->pcs i=.out:=by
 have z:∀(f:Pc->Nat),f .out=0->(∀sv,f (.fU sv)=0)->eQ n (λi=>f (pcs i))=0:=λf v w=>by
  have:∀m,m<=n->eQ m (λi=>f (pcs i))=0:=λm=>by
   induction m with
   |zero=>intro _;rfl
   | succ m d=>
     intro a;rw[eQ,d (by omega)]
     grind
  simp_all
 have g:=z bW rfl λ_=>rfl
 have j:=z eY rfl λ_=>rfl
 have k:=z cC rfl λ_=>rfl
 have l:=z mF rfl λ_=>rfl
 have o:=z cV rfl λ_=>rfl
 have p:=z gV rfl λ_=>rfl
 have j1:=h.j1;have j2:=h.j2;have j3:=h.j3;have j4:=h.j4
 have q:eQ n (λi=>cB (pcs i))=0:=by obtain⟨⟨r,t,u,x⟩,ms⟩:=s;simp only at j1 j2 j3 j4 a;subst a;cases r<;>cases t<;>cases u<;>simp[g,j,k,l,o,p]at j1 j2 j3 j4 ⊢<;>omega
 intro i b
 rcases c i b with e|⟨sv,e⟩
 . exact e
 have:=BO q i b;rw[e]at this;simp[cB]at this
end Go.cr.Mu
namespace Go.cr
section
open Go.Conc
def mG{α}(P:abm):Sem α->Option α
 |.pure a=>some a
 |.program f=>mG P (f P)
 |_=>none
def Jf{α P}  s :∀{a:α},mG P s=some a->∀w es,s.runT P w es=(.ok a w,es):=by
 induction s with
 |pure b=>intro a h w es;simp only[mG,kn]at h;subst h;rfl
 |program f c=>intro a h w es;simp only[mG]at h;simp only[Sem.runT];grind
 |_=>intro a h;simp[mG]at h
def ln{α β P}{f:α->Sem β}  s :∀{a},mG P s=some a->mG P (s.bind f)=mG P (f a):=by
 induction s with
 |pure b=>intro a h;simp only[mG,kn]at h;subst h;rfl
 |program g c=>intro a h;simp only[mG]at h;exact c P h
 |_=>intro a h;simp[mG]at h
def enc(L K S:Bool)(N:Int):Int:=8*N+(L.toNat+2*K.toNat+4*S.toNat:Nat)
def Ap{L K S N}(h:0<=N):enc L K S N=((8*N.toNat+(L.toNat+2*K.toNat+4*S.toNat):Nat):Int):=by unfold enc;omega
def Uk{N b m}(hb:b<8)(a:m<8):(8*N+b) &&& m=b &&& m:=by
 have c:m=m % 2 ^ 3:=by omega
 apply Nat.eq_of_testBit_eq;intro i;simp only[Nat.testBit_and];by_cases d:i<3
 . congr 1
   have:=ZC (i:=3) N (b:=b) (by omega) i
   grind
 . have:m.testBit i=false:=Nat.testBit_lt_two_pow (YU a (by
    have:2 ^ 3<=2 ^ i:=Nat.pow_le_pow_right (by omega) (by omega);omega))
   grind
def Ng{N b m}(hb:b<8)(c:m<8):(8*N+b)|||m=8*N+(b|||m):=by
 have e:=Nat.two_pow_add_eq_or_of_lt (i:=3) (b:=b) (by omega) N;have a:b|||m<2 ^ 3:=Nat.or_lt_two_pow (by omega) (by omega);have d:=Nat.two_pow_add_eq_or_of_lt (i:=3) (b:=b|||m) a N
 grind
def Ul(N:Int):Prop:=0<=N/\N<=1000000
def Nh{L K S N}(h:Ul N){m:Nat}(a:m<8):bits .and .i32 (enc L K S N) (m:Int)=(((L.toNat+2*K.toNat+4*S.toNat) &&& m:Nat):Int):=by
 have hb:L.toNat+2*K.toNat+4*S.toNat<8:=by cases L<;>cases K<;>cases S<;>decide
 rw[Ap h.1,(bits_nat .i32 31 (by decide) wraps_i32 _ m (by have:=h.2;omega) (by omega)).1,Uk hb a]
def PM{L K S N}(h:Ul N){m:Nat}(a:m<8):bits .or .i32 (enc L K S N) (m:Int)=((8*N.toNat+((L.toNat+2*K.toNat+4*S.toNat)|||m):Nat):Int):=by
 have hb:L.toNat+2*K.toNat+4*S.toNat<8:=by cases L<;>cases K<;>cases S<;>decide
 rw[Ap h.1,(bits_nat .i32 31 (by decide) wraps_i32 _ m (by have:=h.2;omega) (by omega)).2,Ng hb a]
def Um{a b c d}(hb:b<8)(hd:d<8):(8*a+b) &&& (8*c+d)=8*(a &&& c)+(b &&& d):=by
 apply Nat.eq_of_testBit_eq;intro i;have e:=ZC (i:=3) a (b:=b) (by omega) i;have f:=ZC (i:=3) c (b:=d) (by omega) i;have g:=ZC (i:=3) (a &&& c) (b:=b &&& d) (by have:=Nat.and_le_left (n:=b) (m:=d);omega) i
 grind
def BP{L K S N}(h:Ul N):bits .andNot .i32 (enc L K S N) 2=enc L false S N:=by
 have hb:L.toNat+2*K.toNat+4*S.toNat<8:=by cases L<;>cases K<;>cases S<;>decide
 have e:((N.toNat:Nat):Int)=N:=Int.toNat_of_nonneg h.1;have f:=h.2
 have a:(BitVec.ofInt 32 (enc L K S N)).toNat=8*N.toNat+(L.toNat+2*K.toNat+4*S.toNat):=by rw[Ap h.1,BitVec.ofInt_natCast,BitVec.toNat_ofNat];omega
 have b:(~~~(BitVec.ofInt 32 2)).toNat=8*536870911+5:=by decide
 have c:N.toNat &&& 536870911=N.toNat:=by
  have:=Nat.and_two_pow_sub_one_eq_mod N.toNat 29
  grind
 have d:(L.toNat+2*K.toNat+4*S.toNat) &&& 5=L.toNat+4*S.toNat:=by cases L<;>cases K<;>cases S<;>decide
 show IntKind.i32.wrap ((BitVec.ofInt 32 (enc L K S N) &&& ~~~(BitVec.ofInt 32 2)).toNat:Int)=_;rw[BitVec.toNat_and,a,b,Um hb (by omega),c,d,wraps_i32 _ (Int.natCast_nonneg _) (by omega)]
 unfold enc
 simp_all
def dU(c:Int)(w:Nat):Int:=c*4294967296+w
inductive SV where
 |cu
 |lit (v:Value)
 |word (L K S:Bool) (δ:Int)
 |cnt
 |dU (w:Nat)
 |FA
 |GH
 |GJ
 |now
 |R6
structure Fl where
 n0:Bool
 n1:Bool
 c0:Bool
 c1:Bool
 wz:Bool
 tb:Bool
structure Sy where
 N:Int
 c:Int
 ws:Int
 tn:Int
structure Fl.At(f:Fl)(y:Sy):Prop where
 hN:0<=y.N/\y.N<=1000
 hc:0<=y.c/\y.c<=1000
 n0:f.n0=decide (y.N=0)
 n1:f.n1=decide (y.N=1)
 c0:f.c0=decide (y.c=0)
 c1:f.c1=decide (y.c=1)
 wz:f.wz=decide (y.ws=0)
 tb:f.tb=decide (IntKind.i64.wrap (y.tn-y.ws)>1000000)
def SR(y:Sy):SV->Value->Prop
 |.cu,_=>True
 |.lit v,x=>x=v
 |.word L K S a,x=>x=.int .i32 (enc L K S (y.N+a))/\0<=y.N+a/\a<=2
 |.cnt,x=>x=.int .i32 y.N
 |.dU w,x=>x=.int .u64 (dU y.c w)
 |.FA,x=>x=.int .u64 y.c
 |.GH,x=>x=.int .i32 y.c
 |.GJ,x=>x=.int .i64 y.ws
 |.now,x=>x=.int .i64 y.tn
 |.R6,x=>x=.int .i64 (IntKind.i64.wrap (y.tn-y.ws))
def Jg(f:Fl)(op:BinOp)(a b:SV):Option SV:=
 match op,a,b with
 |.and,.word L K S c,.lit (.int .i32 m)=>if 0<=m/\m<8 then some (.lit (.int .i32 (((L.toNat+2*K.toNat+4*S.toNat) &&& m.toNat:Nat):Int)))else none
 |.or,.word L K S c,.lit (.int .i32 m)=>if m=1 then some (.word true K S c)else if m=2 then some (.word L true S c)else if m=4 then some (.word L K true c)else none
 |.andNot,.word L K S c,.lit (.int .i32 m)=>if m=2 then some (.word L false S c)else none
 |.add,.word L K S c,.lit (.int .i32 m)=>if m=8 then(if c<=1 then some (.word L K S (c+1))else none)else if m=1 then(if L=false then some (.word true K S c)else none)else none
 |.sub,.word L K S c,.lit (.int .i32 m)=>if m=8/\c=0/\f.n0=false then some (.word L K S (-1))else none
 |.shr,.word _ _ _ c,.lit (.int .u64 m)=>if m=3/\c=0 then some .cnt else none
 |.eql,.word L K S c,.lit (.int .i32 m)=>if m=0/\c=0 then some (.lit (.bool (!L && !K && !S && f.n0)))else none
 |.neq,.word L K S c,.lit (.int .i32 m)=>if m=0/\c=0 then some (.lit (.bool !(!L && !K && !S && f.n0)))else none
 |.eql,.cnt,.lit (.int .i32 m)=>if m=0 then some (.lit (.bool f.n0))else if m=1 then some (.lit (.bool f.n1))else none
 |.neq,.cnt,.lit (.int .i32 m)=>if m=0 then some (.lit (.bool !f.n0))else if m=1 then some (.lit (.bool !f.n1))else none
 |.and,.dU w,.lit (.int .u64 m)=>if m=2147483648/\w<=1000 then some (.lit (.int .u64 0))else if m=2147483647/\w<=1000 then some (.lit (.int .u64 w))else none
 |.shr,.dU w,.lit (.int .u64 m)=>if m=32/\w<=1000 then some .FA else none
 |.eql,.GH,.lit (.int .i32 m)=>if m=0 then some (.lit (.bool f.c0))else if m=1 then some (.lit (.bool f.c1))else if m=-1 then some (.lit (.bool false))else none
 |.lss,.GH,.lit (.int .i32 m)=>if m=0 then some (.lit (.bool false))else none
 |.gtr,.GH,.lit (.int .i32 m)=>if m=0 then some (.lit (.bool !f.c0))else none
 |.neq,.dU w,.dU d=>if w=d then some (.lit (.bool false))else none
 |.neq,.dU w,.lit (.int .u64 m)=>if m=0 then some (.lit (.bool !(f.c0 && decide (w=0))))else none
 |.add,.dU w,.lit (.int .u64 m)=>if m=1/\w<=1000 then some (.dU (w+1))else none
 |.eql,.GJ,.lit (.int .i64 m)=>if m=0 then some (.lit (.bool f.wz))else none
 |.neq,.GJ,.lit (.int .i64 m)=>if m=0 then some (.lit (.bool !f.wz))else none
 |.sub,.now,.GJ=>some .R6
 |.gtr,.R6,.lit (.int .i64 m)=>if m=1000000 then some (.lit (.bool f.tb))else none
 |_,_,_=>none
def iJ{n}(a:-2147483648<=n)(b:n<2147483648):IntKind.i32.wrap n=n:=by rw[IntKind.wrap_i32];omega
def jK{n}(a:0<=n)(b:n<18446744073709551616):IntKind.u64.wrap n=n:=by simp[IntKind.wrap,IntKind.bits,IntKind.signed];omega
def lq{L K S N}:8*N<=enc L K S N/\enc L K S N<=8*N+7:=by unfold enc;cases L<;>cases K<;>cases S<;>simp[Bool.toNat]<;>omega
def wh{L K S N}(h:0<=N):enc L K S N=0↔(L=false/\K=false/\S=false/\N=0):=by unfold enc;grind
def uT(a b:Int):(a==b)=decide (a=b):=by grind
def mV{a b c p q}[Decidable p][Decidable q](h:q↔(a=false/\b=false/\c=false/\p)):decide q=(!a && !b && !c && decide p):=by grind
set_option maxHeartbeats 1000000 in
def Ni{P f y}(o:f.At y){op t a b r x z}(h:Jg f op a b=some r)(g:SR y a x)(hb:SR y b z):∃v,mG P (binOp op t x z)=some v/\SR y r v:=by
 have hN:=o.hN;have hc:=o.hc;unfold Jg at h;split at h
 ·
  rename_i L K S j m;obtain⟨rfl,l,p⟩:=g;have hb:z=.int .i32 m:=hb;subst hb;split at h
  . rename_i d
    simp only[kn]at h;subst h;refine⟨.int .i32 (bits .and .i32 (enc L K S (y.N+j)) m),rfl,?_⟩;have e:m=(m.toNat:Int):=by omega
    show Value.int .i32 _=.int .i32 _;congr 1;rw[e];exact Nh ⟨l,by omega⟩ (by omega)
  cases h
 ·
  rename_i L K S j m;obtain⟨rfl,l,p⟩:=g;have hb:z=.int .i32 m:=hb;subst hb;have q:∀k:Nat,k<8->bits .or .i32 (enc L K S (y.N+j)) (k:Int)=((8*(y.N+j).toNat+((L.toNat+2*K.toNat+4*S.toNat)|||k):Nat):Int):=λk D=>PM ⟨l,by omega⟩ D
  have I:(((y.N+j).toNat:Nat):Int)=y.N+j:=Int.toNat_of_nonneg l;split at h
  . rename_i d;subst d
    simp only[kn]at h;subst h;refine⟨.int .i32 (bits .or .i32 (enc L K S (y.N+j)) 1),rfl,?_,l,p⟩;congr 1;have:=q 1 (by omega)
    rw[show((1:Nat):Int)=1 from rfl]at this
    rw[this];unfold enc;cases L<;>cases K<;>cases S<;>simp[Bool.toNat]<;>omega
  split at h
  . rename_i d;subst d
    simp only[kn]at h;subst h;refine⟨.int .i32 (bits .or .i32 (enc L K S (y.N+j)) 2),rfl,?_,l,p⟩;congr 1;have:=q 2 (by omega)
    rw[show((2:Nat):Int)=2 from rfl]at this
    rw[this];unfold enc;cases L<;>cases K<;>cases S<;>simp[Bool.toNat]<;>omega
  split at h
  . rename_i d;subst d
    simp only[kn]at h;subst h;refine⟨.int .i32 (bits .or .i32 (enc L K S (y.N+j)) 4),rfl,?_,l,p⟩;congr 1;have:=q 4 (by omega)
    rw[show((4:Nat):Int)=4 from rfl]at this
    rw[this];unfold enc;cases L<;>cases K<;>cases S<;>simp[Bool.toNat]<;>omega
  cases h
 ·
  rename_i L K S j m;obtain⟨rfl,l,p⟩:=g;have hb:z=.int .i32 m:=hb;subst hb;split at h
  . rename_i d;subst d
    simp only[kn]at h;subst h;refine⟨.int .i32 (bits .andNot .i32 (enc L K S (y.N+j)) 2),rfl,?_,l,p⟩;rw[BP ⟨l,by omega⟩]
  cases h
 ·
  rename_i L K S j m;obtain⟨rfl,l,p⟩:=g;have hb:z=.int .i32 m:=hb;subst hb;have s:=lq (L:=L) (K:=K) (S:=S) (N:=y.N+j);split at h
  . rename_i d;subst d
    split at h
    . simp only[kn]at h;subst h
      refine⟨.int .i32 (IntKind.i32.wrap (enc L K S (y.N+j)+8)),rfl,?_,by omega,by omega⟩
      rw[iJ (by omega) (by omega)]
      congr 1;unfold enc;omega
    cases h
  split at h
  . rename_i d;subst d
    split at h
    . rename_i E;subst E
      simp only[kn]at h;subst h;refine⟨.int .i32 (IntKind.i32.wrap (enc false K S (y.N+j)+1)),rfl,?_,l,p⟩;rw[iJ (by omega) (by omega)]
      congr 1;unfold enc;simp[Bool.toNat];omega
    cases h
  cases h
 ·
  rename_i L K S j m;obtain⟨rfl,l,p⟩:=g;have hb:z=.int .i32 m:=hb;subst hb;have s:=lq (L:=L) (K:=K) (S:=S) (N:=y.N+j);split at h
  . rename_i d
    obtain⟨rfl,rfl,A⟩:=d;rw[o.n0]at A;simp at A;simp only[kn]at h;subst h;refine⟨.int .i32 (IntKind.i32.wrap (enc L K S (y.N+0)-8)),rfl,?_,by omega,by omega⟩
    rw[iJ (by omega) (by omega)]
    congr 1;unfold enc;omega
  cases h
 ·
  rename_i L K S j m;obtain⟨rfl,l,p⟩:=g;have hb:z=.int .u64 m:=hb;subst hb;have s:=lq (L:=L) (K:=K) (S:=S) (N:=y.N+j);split at h
  . rename_i d
    obtain⟨rfl,rfl⟩:=d;simp only[kn]at h;subst h;refine⟨.int .i32 ((enc L K S (y.N+0)).fdiv (2 ^ 3)),rfl,?_⟩;show Value.int .i32 _=.int .i32 _;congr 1;rw[Int.fdiv_eq_ediv_of_nonneg _ (by decide)]
    omega
  cases h
 ·
  rename_i L K S j m;obtain⟨rfl,l,p⟩:=g;have hb:z=.int .i32 m:=hb;subst hb;split at h
  . rename_i d
    obtain⟨rfl,rfl⟩:=d;simp only[kn]at h;subst h;refine⟨.bool (enc L K S (y.N+0)==0),rfl,?_⟩;show Value.bool _=.bool _;congr 1;rw[o.n0,uT];have:=wh (L:=L) (K:=K) (S:=S) l;rw[aaA]at this ⊢;exact mV this
  cases h
 ·
  rename_i L K S j m;obtain⟨rfl,l,p⟩:=g;have hb:z=.int .i32 m:=hb;subst hb;split at h
  . rename_i d
    obtain⟨rfl,rfl⟩:=d;simp only[kn]at h;subst h;refine⟨.bool (enc L K S (y.N+0)!=0),rfl,?_⟩;show Value.bool _=.bool _;congr 1;rw[o.n0];have:=wh (L:=L) (K:=K) (S:=S) l;rw[aaA]at this ⊢;rw[bne,uT,mV this]
  cases h
 ·
  rename_i m;have g:x=.int .i32 y.N:=g;have hb:z=.int .i32 m:=hb;subst g;subst hb;split at h
  . rename_i d;subst d
    simp only[kn]at h;subst h;exact⟨.bool (y.N==0),rfl,by show Value.bool _=.bool _;rw[o.n0,uT]⟩
  split at h
  . rename_i d;subst d
    simp only[kn]at h;subst h;exact⟨.bool (y.N==1),rfl,by show Value.bool _=.bool _;rw[o.n1,uT]⟩
  cases h
 . rename_i m
   have g:x=.int .i32 y.N:=g;have hb:z=.int .i32 m:=hb;subst g;subst hb;split at h
   . rename_i d;subst d
     simp only[kn]at h;subst h;exact⟨.bool (y.N !=0),rfl,by show Value.bool _=.bool _;rw[o.n0,bne,uT]⟩
   split at h
   . rename_i d;subst d
     simp only[kn]at h;subst h;exact⟨.bool (y.N !=1),rfl,by show Value.bool _=.bool _;rw[o.n1,bne,uT]⟩
   cases h
 ·
  rename_i w m;have g:x=.int .u64 (dU y.c w):=g;have hb:z=.int .u64 m:=hb;subst g;subst hb
  have F:dU y.c w=((y.c.toNat*4294967296+w:Nat):Int):=by have:((y.c.toNat:Nat):Int)=y.c:=Int.toNat_of_nonneg hc.1;rw[Int.natCast_add,Int.natCast_mul,this];rfl
  split at h
  . rename_i d
    obtain⟨rfl,u⟩:=d;simp only[kn]at h;subst h;refine⟨.int .u64 (bits .and .u64 (dU y.c w) 2147483648),rfl,?_⟩;show Value.int .u64 _=.int .u64 _;congr 1
    have G:bits .and .u64 (dU y.c w) 4294967295=(w:Int):=by
     have:=bits_mask .u64 64 (by decide) (λn a b=>jK a b) 32 (by omega) (dU y.c w) (by unfold dU;omega) (by unfold dU;omega)
     rw[show((2:Int) ^ 32-1)=4294967295 from rfl]at this
     rw[this];unfold dU;omega
    rw[F,show(2147483648:Int)=((2147483648:Nat):Int)from rfl,(bits_nat .u64 64 (by decide) (λn a b=>jK a b) _ _ (by omega) (by omega)).1]
    have e:(y.c.toNat*4294967296+w) &&& 2147483648=0:=by
     apply Nat.eq_of_testBit_eq;intro i;rw[Nat.testBit_and,Nat.zero_testBit]
     have hb:(2147483648:Nat).testBit i=decide (31=i):=by have:=Nat.testBit_two_pow (n:=31) (m:=i);simpa using this
     rw[hb]
     by_cases B:31=i
     . subst B
       have l:=ZC (i:=32) y.c.toNat (b:=w) (by omega) 31
       simp only[show 31<32 by omega,YD]at l
       rw[show y.c.toNat*4294967296+w=2 ^ 32*y.c.toNat+w by omega,l]
       rw[Nat.testBit_lt_two_pow (by omega:w<2 ^ 31)];rfl
     simp[B]
    rw[e];rfl
  split at h
  . rename_i d
    obtain⟨rfl,u⟩:=d;simp only[kn]at h;subst h;refine⟨.int .u64 (bits .and .u64 (dU y.c w) 2147483647),rfl,?_⟩;show Value.int .u64 _=.int .u64 _;congr 1;have:=bits_mask .u64 64 (by decide) (λn a b=>jK a b) 31 (by omega) (dU y.c w) (by unfold dU;omega) (by unfold dU;omega)
    rw[show((2:Int) ^ 31-1)=2147483647 from rfl]at this
    rw[this];unfold dU;omega
  cases h
 ·
  rename_i w m;have g:x=.int .u64 (dU y.c w):=g;have hb:z=.int .u64 m:=hb;subst g;subst hb;split at h
  . rename_i d
    obtain⟨rfl,u⟩:=d;simp only[kn]at h;subst h;refine⟨.int .u64 ((dU y.c w).fdiv (2 ^ 32)),rfl,?_⟩;show Value.int .u64 _=.int .u64 _;congr 1;rw[Int.fdiv_eq_ediv_of_nonneg _ (by decide)]
    unfold dU;omega
  cases h
 . rename_i m
   have g:x=.int .i32 y.c:=g;have hb:z=.int .i32 m:=hb;subst g;subst hb;split at h
   . rename_i d;subst d
     simp only[kn]at h;subst h;exact⟨.bool (y.c==0),rfl,by show Value.bool _=.bool _;rw[o.c0,uT]⟩
   split at h
   . rename_i d;subst d
     simp only[kn]at h;subst h;exact⟨.bool (y.c==1),rfl,by show Value.bool _=.bool _;rw[o.c1,uT]⟩
   split at h
   . rename_i d;subst d
     simp only[kn]at h;subst h;refine⟨.bool (y.c==-1),rfl,?_⟩;show Value.bool _=.bool _;have:¬y.c=-1:=by omega
     rw[uT];simp[this]
   cases h
 . rename_i m
   have g:x=.int .i32 y.c:=g;have hb:z=.int .i32 m:=hb;subst g;subst hb;split at h
   . rename_i d;subst d
     simp only[kn]at h;subst h;refine⟨.bool (decide (y.c<0)),rfl,?_⟩;show Value.bool _=.bool _;have:¬y.c<0:=by omega
     simp[this]
   cases h
 . rename_i m
   have g:x=.int .i32 y.c:=g;have hb:z=.int .i32 m:=hb;subst g;subst hb;split at h
   . rename_i d;subst d
     simp only[kn]at h;subst h;refine⟨.bool (decide (y.c>0)),rfl,?_⟩;show Value.bool _=.bool _;rw[o.c0];congr 1
     by_cases C:y.c=0
     . simp[C]
     have:y.c>0:=by omega
     simp[C,this]
   cases h
 . rename_i w H
   have g:x=.int .u64 (dU y.c w):=g;have hb:z=.int .u64 (dU y.c H):=hb;subst g;subst hb;split at h
   . rename_i d;subst d
     simp only[kn]at h;subst h;exact⟨.bool (dU y.c w !=dU y.c w),rfl,by show Value.bool _=.bool _;simp⟩
   cases h
 . rename_i w m
   have g:x=.int .u64 (dU y.c w):=g;have hb:z=.int .u64 m:=hb;subst g;subst hb;split at h
   . rename_i d;subst d
     simp only[kn]at h;subst h;refine⟨.bool (dU y.c w !=0),rfl,?_⟩;show Value.bool _=.bool _;rw[o.c0];congr 1;have:dU y.c w=0↔(y.c=0/\w=0):=by unfold dU;omega
     rw[bne,uT]
     have e:decide (dU y.c w=0)=(decide (y.c=0) && decide (w=0)):=by rw[aaC,za,ZW,ZW,ZW];exact this
     rw[e]
   cases h
 . rename_i w m
   have g:x=.int .u64 (dU y.c w):=g;have hb:z=.int .u64 m:=hb;subst g;subst hb;split at h
   . rename_i d
     obtain⟨rfl,u⟩:=d;simp only[kn]at h;subst h;refine⟨.int .u64 (IntKind.u64.wrap (dU y.c w+1)),rfl,?_⟩;show Value.int .u64 _=.int .u64 _;rw[jK (by unfold dU;omega) (by unfold dU;omega)]
     congr 1;unfold dU;push_cast;omega
   cases h
 . rename_i m
   have g:x=.int .i64 y.ws:=g;have hb:z=.int .i64 m:=hb;subst g;subst hb;split at h
   . rename_i d;subst d
     simp only[kn]at h;subst h;exact⟨.bool (y.ws==0),rfl,by show Value.bool _=.bool _;rw[o.wz,uT]⟩
   cases h
 . rename_i m
   have g:x=.int .i64 y.ws:=g;have hb:z=.int .i64 m:=hb;subst g;subst hb;split at h
   . rename_i d;subst d
     simp only[kn]at h;subst h;exact⟨.bool (y.ws !=0),rfl,by show Value.bool _=.bool _;rw[o.wz,bne,uT]⟩
   cases h
 . have g:x=.int .i64 y.tn:=g
   have hb:z=.int .i64 y.ws:=hb;subst g;subst hb;simp only[kn]at h;subst h;exact⟨_,rfl,rfl⟩
 . rename_i m
   have g:x=.int .i64 (IntKind.i64.wrap (y.tn-y.ws)):=g;have hb:z=.int .i64 m:=hb;subst g;subst hb;split at h
   . rename_i d;subst d
     simp only[kn]at h;subst h;exact⟨.bool (decide (IntKind.i64.wrap (y.tn-y.ws)>1000000)),rfl,by show Value.bool _=.bool _;rw[o.tb]⟩
   cases h
 cases h
inductive BQ where
 |run
 |ret
def BQ.of:BQ->FrameMode
 |.run=>.run
 |.ret=>.returning
structure oB where
 fn:FuncId
 todo:abb
 env:List SV
 defers:List Deferred
 mode:BQ
 kind:abi
def sv(env:List SV):abn->SV
 |.tmp t=>env.getD t .cu
 |.const v=>.lit v
 |.global g=>.lit (.pointer (some ⟨g,0,none⟩))
 |.func f=>.lit (.func (.func f) #[] #[])
def Uo(P:abm)(f:Fl)(ρ:abn->SV)(o:Op):Option SV:=
 match o with
 |.move x=>some (ρ x)
 |.assign x=>some (ρ x)
 |.pick c a b=>match ρ c with|.lit (.bool x)=>some (if x then ρ a else ρ b)|_=>none
 | .binOp op t x y _=>
   match Jg f op (ρ x) (ρ y)with
   |some r=>some r
   | none=>match ρ x,ρ y with
     |.lit (.int k a),.lit (.int d b)=>(mG P (binOp op t (.int k a) (.int d b))).map .lit
     |_,_=>none
 |.unOp .not _ x=>match ρ x with|.lit (.bool b)=>some (.lit (.bool !b))|_=>none
 |.nilCheck x=>match ρ x with|.lit (.pointer (some a))=>some (.lit (.pointer (some a)))|_=>none
 |.fieldAddr s x e=>match ρ x with|.lit (.pointer (some a))=>(mG P (Instr.fieldAt s (.pointer (some a)) e)).map .lit|_=>none
 | .convert src dst x=>
   match ρ x with
   |.lit v=>(mG P (convert src dst v)).map .lit
   |.FA=>match P.underlying src,P.underlying dst with|some _,some (.int .i32)=>some .GH|_,_=>none
   |_=>none
 |_=>none
def BR{P op t x y k k' a b}:mG P (eqGuard op t x y (.int k a) (.int k' b))=some ():=by unfold eqGuard;split<;>rfl
def SR.int{y a x}(h:SR y a x)(b:∀v,a≠.lit v)(hj:a≠.cu):∃k n,x=.int k n:=by
 cases a with
 |cu=>simp_all
 |lit v=>simp_all
 |word _ _ _ _=>exact⟨_,_,h.1⟩
 |_=>exact⟨_,_,h⟩
def Jh{f op a b r y x z}(h:Jg f op a b=some r)(g:SR y a x)(hb:SR y b z):∃k n k' c,x=.int k n/\z=.int k' c:=by
 unfold Jg at h
 split at h<;>first
  |(cases h;done)
  | (obtain⟨k,n,d⟩:=g.int (by intro v e;cases e) (by intro e;cases e)
     first
     |exact⟨k,n,_,_,d,hb⟩
     |(obtain⟨k',c,i⟩:=hb.int (by intro v e;cases e) (by intro e;cases e);exact⟨k,n,k',c,d,i⟩))
def Aq{α P s}{g:α->SV}{r}(h:(mG P s).map g=some r):∃a,mG P s=some a/\r=g a:=by
 cases q:mG P s with
 |none=>simp_all
 |some a=>simp_all
def pS{P s v}(h:mG P s=some v):mG P (do pure (.value (<-s)):Sem Next)=some (.value v):=by
 show mG P (Sem.bind s λa=>(pure (Next.value a):Sem Next))=_;rw[ln s h];rfl
def PN{P f y}(A:f.At y){ρ ρ' o r}(h:Uo P f ρ o.op=some r)(i:∀x,SR y (ρ x) (ρ' x)):∃v,mG P (execOp ρ' o)=some (.value v)/\SR y r v:=by
 unfold Uo at h;split at h
 . rename_i x e
   simp only[kn]at h;subst h;exact⟨ρ' x,by simp[execOp,e];rfl,i x⟩
 . rename_i x e
   simp only[kn]at h;subst h;exact⟨ρ' x,by simp[execOp,e];rfl,i x⟩
 . rename_i c a b e
   split at h
   . rename_i x j
     simp only[kn]at h;subst h;have hc:=i c;rw[j]at hc;have hc:ρ' c=.bool x:=hc;refine⟨if x then ρ' a else ρ' b,?_,?_⟩
     . simp only[execOp,e,hc]
       cases x<;>rfl
     grind
   cases h
 . rename_i op t x z nl e
   have key:∀{k n m p},ρ' x=.int k n->ρ' z=.int m p->∀{v},mG P (binOp op t (.int k n) (.int m p))=some v->mG P (execOp ρ' o)=some (.value v):=by
    intro k n m p g q v l;have:execOp ρ' o=(do pure (.value (<-(do eqGuard op t x z (ρ' x) (ρ' z);binOp op t (ρ' x) (ρ' z)))):Sem Next):=by simp only[execOp,e]
    rw[this,g,q];refine pS ?_;show mG P ((eqGuard op t x z (.int k n) (.int m p)).bind λ_=>binOp op t (.int k n) (.int m p))=_
    rw[ln _ BR];exact l
   split at h
   . rename_i F w
     simp only[kn]at h;subst h;obtain⟨k,n,m,p,g,q⟩:=Jh w (i x) (i z);obtain⟨v,l,G⟩:=Ni (P:=P) A (t:=t) w (i x) (i z)
     simp_all
   split at h
   . rename_i k a m b j B
     obtain⟨v,l,rfl⟩:=Aq h;have g:=i x;have q:=i z;rw[j]at g;rw[B]at q;exact⟨v,key g q l,rfl⟩
   cases h
 . rename_i t x e
   split at h
   . rename_i b j
     simp only[kn]at h;subst h;have g:=i x;rw[j]at g;have g:ρ' x=.bool b:=g;exact⟨.bool !b,by simp only[execOp,e,g];rfl,rfl⟩
   cases h
 . rename_i x e
   split at h
   . rename_i a j
     simp only[kn]at h;subst h;have g:=i x;rw[j]at g;have g:ρ' x=.pointer (some a):=g;exact⟨_,by simp only[execOp,e,g];rfl,rfl⟩
   cases h
 . rename_i s x H e
   split at h
   . rename_i a j
     obtain⟨v,l,rfl⟩:=Aq h;have g:=i x;rw[j]at g;have g:ρ' x=.pointer (some a):=g;refine⟨v,?_,rfl⟩;simp only[execOp,e,g];exact pS l
   cases h
 . rename_i src dst x e
   split at h
   . rename_i u j
     obtain⟨v,l,rfl⟩:=Aq h;have g:=i x;rw[j]at g;have g:ρ' x=u:=g;refine⟨v,?_,rfl⟩;simp only[execOp,e,g];exact pS l
   . rename_i j
     split at h
     . rename_i d w hd
       simp only[kn]at h;subst h;have g:=i x;rw[j]at g;have g:ρ' x=.int .u64 y.c:=g;refine⟨.int .i32 y.c,?_,rfl⟩;simp only[execOp,e,g];refine pS ?_
       have C:mG P (underlying src)=some d:=by unfold underlying;show mG P (Sem.bind program _)=_;rw[ln program (a:=P) rfl,w];rfl
       have D:mG P (underlying dst)=some (.int .i32):=by unfold underlying;show mG P (Sem.bind program _)=_;rw[ln program (a:=P) rfl,hd];rfl
       unfold convert;show mG P (Sem.bind (underlying src) _)=_;rw[ln _ C];show mG P (Sem.bind (underlying dst) _)=_;rw[ln _ D];have E:IntKind.i32.wrap y.c=y.c:=iJ (by have:=A.hc;omega) (by have:=A.hc;omega)
       show some (Value.int .i32 (IntKind.i32.wrap y.c))=_;rw[E]
     cases h
   cases h
 cases h
def yL(ops:aaW)(env:List SV)(o:Oper):Option Bool:=
 match o.guard with
 |none=>some true
 | some (j,b)=>match (ops[j]?).bind (·.dst)with
   | some d=>match env.getD d .cu with
     |.lit (.bool x)=>some (x==b)
     |_=>none
   |none=>none
def wi(fr:oB)(v:SV):Option oB:=
 match fr.todo with
 |.inRegion ops (i::rest)::k=>some {fr with env:=(match (ops[i]?).bind (·.dst)with|some d=>fr.env.set d v|none=>fr.env),todo:=.inRegion ops rest::k}
 |_=>none
def R7(fn:Func)(env:List SV):Option SV:=
 match fn.results.toList with
 |[]=>some (.lit (.tuple #[]))
 |[.tmp t]=>some (env.getD t .cu)
 |_=>none
def OS(P:abm)(env:List SV)(c:Call):Option oB:=
 match c.callee with
 | .value (.func g)=>match P.funcs[g]? with
   | some fn=>match fn.body with
     |some body=>if fn.name= "runtime.NumGoroutine" then none else some {fn:=g,todo:=[.code body],env:=c.args.toList.map (sv env)++List.replicate (fn.ntmps-c.args.size) .cu,defers:=[],mode:=.run,kind:=.normal}
     |none=>none
   |none=>none
 |_=>none
def Ji(c:Call):Option Deferred:=
 match c.callee with
 |.value (.func g)=>if c.args=#[]then some {target:=.fn (.func g) #[],args:=#[]}else none
 |_=>none
def ss(P : abm)(f:Fl)(fr:oB)(st:List oB):Option (oB × List oB):=
 match fr.mode with
 | .ret=>match st with
   |[]=>none
   | c ::e=>match fr.defers,fr.kind,P.funcs[fr.fn]? with
     | [],.normal,some fn=>match R7 fn fr.env with
       |some v=>(wi c v).map (·,e)
       |none=>none
     |_,_,_=>none
 | .run => match fr.todo with
   |[]=>some ({fr with mode:=.ret},st)
   |.code .ret::_=>some ({fr with mode:=.ret},st)
   |.code .skip::k=>some ({fr with todo:=k},st)
   |.inBlock _::k=>some ({fr with todo:=k},st)
   |.inScope _::k=>some ({fr with todo:=k},st)
   |.inRegion _ []::k=>some ({fr with todo:=k},st)
   |.code (.seq a b)::k=>some ({fr with todo:=.code a::.code b::k},st)
   |.code (.block id c)::k=>some ({fr with todo:=.code c::.inBlock id::k},st)
   |.code (.scope c)::k=>some ({fr with todo:=.code c::.inScope c::k},st)
   |.code (.loop c)::k=>some ({fr with todo:=.code c::.inLoop c::k},st)
   |.inLoop c::k=>some ({fr with todo:=.code c::.inLoop c::k},st)
   |.code (.exit id)::k=>(exitTo id k).map λg=>({fr with todo:=g},st)
   | .code (.cond c a b)::k=>match sv fr.env c with
     |.lit (.bool x)=>some ({fr with todo:=.code (if x then a else b)::k},st)
     |_=>none
   |.code (.region id ops false)::k=>some ({fr with todo:=.inRegion ops (List.range ops.size)::k},st)
   | .inRegion ops (i::rest)::k=>match ops[i]? with
     |none=>none
     | some o=>match yL ops fr.env o with
       |none=>none
       |some false=>(wi fr .cu).map (·,st)
       | some true=>match o.op with
         |.call c=>(OS P fr.env c).map (·,fr::st)
         | .defer c=>match Ji c with
           |some d=>(wi fr .cu).map λs=>({s with defers:=d::s.defers},st)
           |none=>none
         | op=>match Uo P f (sv fr.env) op with
           |some v=>(wi fr v).map (·,st)
           |none=>none
   |_=>none
def sgo(P:abm)(f:Fl):Nat->oB->List oB->oB × List oB
 |0,fr,st=>(fr,st)
 | n+1,fr,st=>match ss P f fr st with
   |some (a,b)=>sgo P f n a b
   |none=>(fr,st)
structure FR  y  (s:oB) (fr:Frame):Prop where
 fn:fr.fn=s.fn
 todo:fr.todo=s.todo
 defers:fr.defers=s.defers
 mode:fr.mode=s.mode.of
 kind:fr.kind=s.kind
 ro:fr.roundOf=none
 size:fr.tmps.size=s.env.length
 env:∀t,SR y (s.env.getD t .cu) (fr.tmps.getD t undef)
def lL(y:Sy):List oB->aaY->Prop
 |[],[]=>True
 |s::ss,f::fs=>FR y s f/\lL y ss fs
 |_,_=>False
def rU(P:abm)(Wd:aaT)(g g':abd):Prop:=g.status=.running/\∀main w,Wd w->stepG P main g w=.go g' w #[]
def iQ(P:abm)(Wd:aaT):Nat->abd->abd->Prop
 |0,g,a=>g=a
 |n+1,g,a=>∃b,rU P Wd g b/\iQ P Wd n b a
def rV(P:abm)(Wd:aaT)(g g':abd):Prop:=∃n,iQ P Wd n g g'
def iQ.trans{P Wd}:∀{n m a b c},iQ P Wd n a b->iQ P Wd m b c->iQ P Wd (n+m) a c
 |0,m,a,b,c,h,d=>by obtain rfl:=h;simp_all
 | n+1,m,a,b,c,h,d=>by
   obtain⟨e,f,g⟩:=h;rw[show n+1+m=(n+m)+1 by omega];exact⟨e,f,g.trans d⟩
def rV.trans{P Wd a b c}(h:rV P Wd a b)(d:rV P Wd b c):rV P Wd a c:=let ⟨n,h⟩:=h;let ⟨m,d⟩:=d;⟨n+m,h.trans d⟩
def rU.yM{P Wd a b}(h:rU P Wd a b):rV P Wd a b:=⟨1,b,h,rfl⟩
def FR.sv{y:Sy}{s:oB}{fr:Frame}(h:FR y s fr)(x:abn):SR y (sv s.env x) (fr.eval x):=by
 cases x with
 |tmp t=>exact h.env t
 |const v=>rfl
 |global g=>rfl
 |func f=>rfl
def FR.fin{y s s' fr v x}(h:FR y s fr)(a:wi s v=some s')(p:SR y v x):FR y s' (fr.finish x):=by
 obtain⟨fn,tmps,todo,defs,mode,kind,ro⟩:=fr;obtain⟨b,c,f,g,j,l,m,n⟩:=h;simp only at b c f g j l m n;subst c;unfold wi at a;split at a
 . rename_i ops i rest k e
   simp only[kn]at a;subst a;simp only[Frame.finish,e];refine⟨b,rfl,f,g,j,l,?_,λt=>?_⟩
   . grind
   cases q:(ops[i]?).bind (·.dst)with
   |none=>simp_all
   | some d=>
     simp only;by_cases o:d=t
     . subst o
       by_cases hd:d<tmps.size
       . simp_all
       grind
     simp_all
 cases a
def oX{y s fr ops o b}(h:FR y s fr)(a:yL ops s.env o=some b):Region.wanted o (yielded ops fr.tmps)=b:=by
 unfold yL at a;unfold Region.wanted;cases i:o.guard with
 |none=>simp_all
 | some p=>
   obtain⟨j,c⟩:=p;rw[i]at a;simp only at a ⊢;cases g:ops[j]? with
   |none=>simp_all
   | some k=>
     rw[g]at a;cases hd:k.dst with
     |none=>simp_all
     | some d=>
       simp only[Option.bind_some,hd]at a;have f:=h.env d;split at a
       . rename_i x l
         rw[l]at f;have f:fr.tmps.getD d undef=.bool x:=f
         have e:fr.tmps[d]?=some (.bool x):=by
          by_cases e:d<fr.tmps.size
          . simp_all
          simp[Array.getD,e,undef]at f
         simp only[kn]at a;simp[yielded,g,hd,e,a]
       cases a
def lL.lV{y fs}(h:lL y [] fs):fs=[]:=by cases fs with|nil=>rfl|cons _ _=>exact h.elim
def lL.cons_inv{y s l fs}(h:lL y (s::l) fs):∃f a,fs=f::a/\FR y s f/\lL y l a:=by
 cases fs with
 |nil=>exact h.elim
 |cons f a=>exact⟨f,a,rfl,h.1,h.2⟩
def fY{P fn}:seen P fn #[]=#[]:=rfl
def apply_pure{P fr cs s n}(h:mG P s=some n)  w :stepG.apply P true fr cs none s w=stepG.apply P true fr cs none (pure n) w:=by have a:=Jf s h w #[];have b:(pure n:Sem Next).runT P w #[]=(.ok n w,#[]):=rfl;simp only[stepG.apply,YD,a,b]
def mW{P main fid k ops i rest o tmps defs kind cs}(a:ops[i]?=some o)(b:Region.wanted o (yielded ops tmps)=true)  w :
 stepG P main (G ⟨fid,tmps,.inRegion ops (i::rest)::k,defs,.run,kind,none⟩ cs) w=
  stepG.apply P true ⟨fid,tmps,.inRegion ops (i::rest)::k,defs,.run,kind,none⟩ cs none (execOp (Frame.eval ⟨fid,tmps,.inRegion ops (i::rest)::k,defs,.run,kind,none⟩) o) w:=by
 simp only[G,stepG,stepG.exec,stepG.oper,Frame.oper?,a,b,YW,Zt,YD]
def Jj{P main fid k ops i rest o tmps defs kind cs}(a:ops[i]?=some o)(b:Region.wanted o (yielded ops tmps)=false)  w :
 stepG P main (G ⟨fid,tmps,.inRegion ops (i::rest)::k,defs,.run,kind,none⟩ cs) w=.go (G (Frame.finish ⟨fid,tmps,.inRegion ops (i::rest)::k,defs,.run,kind,none⟩ undef) cs) w #[]:=by
 have h:((ops[i]?).map (Region.wanted · (yielded ops tmps))).getD false=false:=by grind
 simp only[G,stepG,stepG.exec,h];rfl
def yk{P ρ o c g fn body}(e:o.op=.call c)(f:c.callee=.value (.func g))(h:P.funcs[g]?=some fn)(hb:fn.body=some body)(b:fn.name≠ "runtime.NumGoroutine")(d:ρ (.func g)=.func (.func g) #[] #[]):
 mG P (execOp ρ o)=some (.enter g (c.args.map ρ)):=by
 simp only[execOp,e,resolve,f,d,Deferred.ofValue];show mG P (callFunc g ((#[]++c.args.map ρ)++#[]))=_;unfold callFunc;show mG P (Sem.bind program _)=_;rw[ln program (a:=P) rfl];simp[h,hb,b];rfl
def OT{P Wd f y}(hf:f.At y){s s' st D fr frs}(h:ss P f s st=some (s',D))(hr:FR y s fr)(A:lL y st frs):
 ∃r l,FR y s' r/\lL y D l/\∀cs,rU P Wd (G fr (frs++cs)) (G r (l++cs)):=by
 have q:=hr;obtain⟨fn,tmps,todo,defs,mode,kind,ro⟩:=fr;obtain⟨S,m,L,I,M,h6,X,T⟩:=hr;simp only at S m L I M h6 X T;subst h6;unfold ss at h;split at h
 ·
  rename_i U;rw[U]at I;have I:mode=.returning:=I;subst I;split at h
  . cases h
  rename_i c a9;split at h
  . rename_i E hd hk F
    obtain⟨fc,l,rfl,hc,Y⟩:=A.cons_inv;split at h
    . rename_i v C
      obtain⟨V,j,e⟩:=YI.1 h;simp only[zG]at e;obtain⟨rfl,rfl⟩:=e
      have N:∃x,SR y v x/\∀w,(results E tmps).runT P w #[]=(.ok x w,#[]):=by
       unfold R7 at C;split at C
       . rename_i O
         simp only[kn]at C;subst C;have O:E.results=#[]:=by simp_all
         exact⟨.tuple #[],rfl,λw=>by simp[results,O]⟩
       . rename_i t O
         simp only[kn]at C;subst C;have O:E.results=#[.tmp t]:=by grind
         exact⟨tmps.getD t undef,T t,λw=>by simp[results,O]⟩
       cases C
      obtain⟨x,Z,ad⟩:=N;refine⟨fc.finish x,l,hc.fin j Z,Y,λcs=>⟨rfl,λmain w _=>?_⟩⟩;rw[hd]at L;rw[hk]at M;subst L;subst M;subst S;have e1:(results E tmps).run P w=.ok x w:=by simp_all
      have e2:(results E tmps).events P w #[]=#[]:=by simp_all
      simp[G,stepG,unwind,F,e1,e2,doReturn,GStep.after,fY]
    cases h
  cases h
 rename_i U;rw[U]at I;have I:mode=.run:=I;subst I
 have ctl:∀B:abb,(∀main cs w,stepG P main (G ⟨fn,tmps,todo,defs,.run,kind,none⟩ (frs++cs)) w=.go (G ⟨fn,tmps,B,defs,.run,kind,none⟩ (frs++cs)) w #[])->some ({s with todo:=B},st)=some (s',D) ->
  ∃r l,FR y s' r/\lL y D l/\∀cs,rU P Wd (G ⟨fn,tmps,todo,defs,.run,kind,none⟩ (frs++cs)) (G r (l++cs)):=λB hs e=>by
  simp only[kn,zG]at e;obtain⟨rfl,rfl⟩:=e;exact⟨_,frs,⟨S,rfl,L,by rw[U];rfl,M,rfl,X,T⟩,A,λcs=>⟨rfl,λmain w _=>hs main cs w⟩⟩
 have ret:(∀main cs w,stepG P main (G ⟨fn,tmps,todo,defs,.run,kind,none⟩ (frs++cs)) w=.go (G ⟨fn,tmps,todo,defs,.returning,kind,none⟩ (frs++cs)) w #[])->some ({s with mode:=.ret},st)=some (s',D) ->
  ∃r l,FR y s' r/\lL y D l/\∀cs,rU P Wd (G ⟨fn,tmps,todo,defs,.run,kind,none⟩ (frs++cs)) (G r (l++cs)):=λhs e=>by
  simp only[kn,zG]at e;obtain⟨rfl,rfl⟩:=e;exact⟨_,frs,⟨S,m,L,rfl,M,rfl,X,T⟩,A,λcs=>⟨rfl,λmain w _=>hs main cs w⟩⟩
 split at h
 . rename_i n;rw[n]at m;subst m
   exact ret (λ_ _ _=>by simp[G,stepG,stepG.exec]) h
 . rename_i n;rw[n]at m;subst m
   exact ret (λ_ _ _=>by simp[G,stepG,stepG.exec]) h
 . rename_i n;rw[n]at m;subst m
   exact ctl _ (λ_ _ _=>by simp[G,stepG,stepG.exec]) h
 . rename_i n;rw[n]at m;subst m
   exact ctl _ (λ_ _ _=>by simp[G,stepG,stepG.exec]) h
 . rename_i n;rw[n]at m;subst m
   exact ctl _ (λ_ _ _=>by simp[G,stepG,stepG.exec]) h
 . rename_i n;rw[n]at m;subst m
   exact ctl _ (λ_ _ _=>by simp[G,stepG,stepG.exec]) h
 . rename_i n;rw[n]at m;subst m
   exact ctl _ (λ_ _ _=>by simp[G,stepG,stepG.exec]) h
 . rename_i n;rw[n]at m;subst m
   exact ctl _ (λ_ _ _=>by simp[G,stepG,stepG.exec]) h
 . rename_i n;rw[n]at m;subst m
   exact ctl _ (λ_ _ _=>by simp[G,stepG,stepG.exec]) h
 . rename_i n;rw[n]at m;subst m
   exact ctl _ (λ_ _ _=>by simp[G,stepG,stepG.exec]) h
 . rename_i n;rw[n]at m;subst m
   exact ctl _ (λ_ _ _=>by simp[G,stepG,stepG.exec]) h
 . rename_i id k n;rw[n]at m;subst m
   obtain⟨k',he,e⟩:=YI.1 h;exact ctl k' (λ_ _ _=>by simp[G,stepG,stepG.exec,he]) (by rw[e])
 . rename_i c a b k n;rw[n]at m;subst m
   split at h
   . rename_i x Q
     have C:=q.sv c;rw[Q]at C;have C:Frame.eval ⟨fn,tmps,.code (.cond c a b)::k,defs,.run,kind,none⟩ c=.bool x:=C;exact ctl _ (λ_ _ _=>by simp[G,stepG,stepG.exec,C]) h
   cases h
 . rename_i n;rw[n]at m;subst m
   exact ctl _ (λ_ _ _=>by simp[G,stepG,stepG.exec]) h
 . rename_i ops i rest k n;rw[n]at m;subst m
   split at h
   . cases h
   rename_i o W;split at h
   . cases h
   . rename_i hw
     obtain⟨V,j,e⟩:=YI.1 h;simp only[zG]at e;obtain⟨rfl,rfl⟩:=e;exact⟨_,frs,q.fin j trivial,A,λcs=>⟨rfl,λmain w _=>Jj W (oX q hw) w⟩⟩
   rename_i hw;have J:=oX q hw;split at h
   . rename_i c K
     obtain⟨V,j,e⟩:=YI.1 h;simp only[zG]at e;obtain⟨rfl,rfl⟩:=e;unfold OS at j;split at j
     . rename_i g R
       split at j
       . rename_i E F
         split at j
         . rename_i body H
           split at j
           . cases j
           rename_i a7;simp only[kn]at j;subst j;refine⟨Frame.enter P g (c.args.map (Frame.eval ⟨fn,tmps,.inRegion ops (i::rest)::k,defs,.run,kind,none⟩)) .normal,⟨fn,tmps,.inRegion ops (i::rest)::k,defs,.run,kind,none⟩::frs,?_,⟨q,A⟩,λcs=>⟨rfl,λmain w _=>?_⟩⟩
           . refine⟨rfl,by simp[Frame.enter,F,H],rfl,rfl,rfl,rfl,by simp[Frame.enter,F],λt=>?_⟩
             simp only[Frame.enter,F,YW,Zt];rw[aak,zA];by_cases n:t<c.args.size
             . rw[aan (by simp_all),Zn (by simp_all)]
               simp only[ZE,YY,aaE];rw[YM n];exact q.sv _
             rw[ZL (by simp;omega),YR (by simp;omega)];simp only[YV,Array.length_toList,List.getElem?_replicate];split<;>trivial
           rw[mW W J,apply_pure (yk K R F H a7 rfl)];simp only[stepG.apply,YD,GStep.after];have u:(pure (.enter g (c.args.map (Frame.eval ⟨fn,tmps,.inRegion ops (i::rest)::k,defs,.run,kind,none⟩))):Sem Next).runT P w #[]=(.ok (.enter g (c.args.map (Frame.eval ⟨fn,tmps,.inRegion ops (i::rest)::k,defs,.run,kind,none⟩))) w,#[]):=rfl;simp only[u,ite_self,fY,G,List.cons_append];rfl
         cases j
       cases j
     cases j
   . rename_i c K
     split at h
     . rename_i d hd
       obtain⟨V,j,e⟩:=YI.1 h;simp only[zG]at e;obtain⟨rfl,rfl⟩:=e
       have Q:mG P (execOp (Frame.eval ⟨fn,tmps,.inRegion ops (i::rest)::k,defs,.run,kind,none⟩) o)=some (.defer d):=by
        unfold Ji at hd;split at hd
        . rename_i g hg
          split at hd
          . rename_i ha
            simp only[kn]at hd;subst hd;have em:(#[]:Array abn).map (Frame.eval ⟨fn,tmps,.inRegion ops (i::rest)::k,defs,.run,kind,none⟩)=#[]:=by simp
            simp only[execOp,K,resolve,hg,ha,em];rfl
          cases hd
        cases hd
       have p:=q.fin (x:=undef) j trivial;have e1:Frame.finish ⟨fn,tmps,.inRegion ops (i::rest)::k,d::defs,.run,kind,none⟩ undef={Frame.finish ⟨fn,tmps,.inRegion ops (i::rest)::k,defs,.run,kind,none⟩ undef with defers:=d::(Frame.finish ⟨fn,tmps,.inRegion ops (i::rest)::k,defs,.run,kind,none⟩ undef).defers}:=rfl;refine⟨{Frame.finish ⟨fn,tmps,.inRegion ops (i::rest)::k,defs,.run,kind,none⟩ undef with defers:=d::(Frame.finish ⟨fn,tmps,.inRegion ops (i::rest)::k,defs,.run,kind,none⟩ undef).defers},frs,⟨p.fn,p.todo,congrArg (List.cons d) p.defers,p.mode,p.kind,p.ro,p.size,p.env⟩,A,λcs=>⟨rfl,λmain w _=>?_⟩⟩;rw[mW W J,apply_pure Q];have u:(pure (.defer d):Sem Next).runT P w #[]=(.ok (.defer d) w,#[]):=rfl;simp only[stepG.apply,YD,u,ite_self,fY,GStep.after,G]
       grind
     cases h
   rename_i al av;split at h
   . rename_i v C
     obtain⟨V,j,e⟩:=YI.1 h;simp only[zG]at e;obtain⟨rfl,rfl⟩:=e;obtain⟨x,Q,a8⟩:=PN hf (ρ':=Frame.eval ⟨fn,tmps,.inRegion ops (i::rest)::k,defs,.run,kind,none⟩) C (λz=>q.sv z);refine⟨_,frs,q.fin j a8,A,λcs=>⟨rfl,λmain w _=>?_⟩⟩;rw[mW W J,apply_pure Q];have u:(pure (.value x):Sem Next).runT P w #[]=(.ok (.value x) w,#[]):=rfl;simp only[stepG.apply,YD,u,ite_self,fY,GStep.after,G];rfl
   cases h
 cases h
def lr{P Wd f y}(i:f.At y):∀  n  {s st fr frs},FR y s fr->lL y st frs ->
 ∃m c a,FR y (sgo P f n s st).1 c/\lL y (sgo P f n s st).2 a/\∀cs,iQ P Wd m (G fr (frs++cs)) (G c (a++cs))
 |0,s,st,fr,frs,g,b=>⟨0,fr,frs,g,b,λ_=>rfl⟩
 | n+1,s,st,fr,frs,g,b=>by
   unfold sgo;cases e:ss P f s st with
   |none=>exact⟨0,fr,frs,g,b,λ_=>rfl⟩
   |some p=>obtain⟨u,j⟩:=p;obtain⟨c,a,k,l,o⟩:=OT i e g b;obtain⟨m,h,d,q,r,t⟩:=lr i n k l;exact⟨m+1,h,d,q,r,λcs=>⟨_,o cs,t cs⟩⟩
end
open Go.Conc
open Go.ConcN (sumTo upd sumTo_upd upd_ne upd_same)
inductive TT(P:abm)(m:Mo):ao->ai->abd->Type
 |step {k:ao}{O:ai}{g:abd}(N:aaG):g.status=.running->(∀k' O' g',N k' O' g'->TT P m k' O' g')->zY P m.main k O g N->TT P m k O g
 |ghost {k:ao}{O:ai}{g:abd}(k2:ao) (O2:ai):km k O k2 O2->TT P m k2 O2 g->TT P m k O g
 |cY {k:ao}{O:ai}{g:abd}(N:aaG):g.status=.running->m.cY k O g N->(∀k' O' g',N k' O' g'->TT P m k' O' g')->TT P m k O g
theorem T.tree{P m}(l:m.solo=false){k O g}(h:T P m (λ_ _ _=>False) k O g):Nonempty (TT P m k O g):=by
 induction h with
 |stop h=>exact h.elim
 |step N a _ i b=>exact⟨.step N a (λc d e f=>Classical.choice (b c d e f)) i⟩
 |ghost a _ b=>exact⟨.ghost _ _ a (Classical.choice b)⟩
 |phase N a _ _ _=>simp_all
 |cY N j a _ b=>exact⟨.cY N j a (λc d e f=>Classical.choice (b c d e f))⟩
def TT.running{P m k O g}(t:TT P m k O g):g.status=.running:=by
 induction t with
 |step _ h _ _=>exact h
 |ghost _ _ _ _ a=>exact a
 |cY _ h _ _=>exact h
structure Node  P  where
 m:Mo
 k:ao
 O:ai
 g:abd
 t:TT P m k O g
inductive oC{P:abm}:Node P->Node P->Prop
 |step {m:Mo}{k k':ao}{O O':ai}{g g':abd}(N:aaG) (h1:g.status=.running) (c:∀k' O' g',N k' O' g'->TT P m k' O' g') (h3:zY P m.main k O g N) (hn:N k' O' g'):oC ⟨m,k',O',g',c k' O' g' hn⟩ ⟨m,k,O,g,.step N h1 c h3⟩
 |ghost {m:Mo}{k:ao}{O:ai}{g:abd}(k2:ao) (O2:ai) (h:km k O k2 O2) (c:TT P m k2 O2 g):oC ⟨m,k2,O2,g,c⟩ ⟨m,k,O,g,.ghost k2 O2 h c⟩
 |cY {m:Mo}{k k':ao}{O O':ai}{g g':abd}(N:aaG) (h0:g.status=.running) (h1:m.cY k O g N) (c:∀k' O' g',N k' O' g'->TT P m k' O' g') (hn:N k' O' g'):oC ⟨m,k',O',g',c k' O' g' hn⟩ ⟨m,k,O,g,.cY N h0 h1 c⟩
def Jk{P m}:∀{k O g}  t ,Acc oC (⟨m,k,O,g,t⟩:Node P):=by
 intro k O g t;induction t with
 |step N d c f b=>exact⟨_,λy a=>by cases a with|step _ _ _ _ e=>simp_all⟩
 |ghost i j h c b=>exact⟨_,λy a=>by cases a;exact b⟩
 |cY N l d c b=>exact⟨_,λy a=>by cases a with|cY _ _ _ _ e=>simp_all⟩
def BS{P}:∀x:Node P,Acc oC x:=λ⟨_,_,_,_,t⟩=>Jk t
def Jl{P}(n:Nat)(f' f:Nat->Node P):Prop:=∃i,i<n/\(∀j,j≠i->f' j=f j)/\oC (f' i) (f i)
def yN{P}:∀  n  (f:Nat->Node P),Acc (Jl n) f
 |0,f=>⟨_,λy ⟨i,c,_⟩=>by omega⟩
 | n + 1,f=>by
   have key:∀x:Node P,Acc oC x->∀f:Nat->Node P,f n=x->Acc (Jl (n+1)) f:=by
    intro x d;induction d with
    | intro x _ e=>
      intro f l;have g:=yN n f;induction g with
      | intro f _ a=>
        refine⟨_,λh ⟨i,c,b,j⟩=>?_⟩;by_cases k:i=n
        . grind
        exact a h ⟨i,by omega,b,j⟩ (by grind)
   exact key (f n) (BS (f n)) f rfl
def Jm{P}  n :WellFounded (Jl (P:=P) n):=⟨yN n⟩
structure qx  P  where
 S:Type
 r:S->S->Prop
 wf:WellFounded r
 mo:S->Nat->Mo
 main:∀s i,(mo s i).main=(i==0)
 top:Nat
 lk:Nat
 R8:top<=lk
 Live:S->aba
 Walk:S->aba
 At:S->Nat->aaG
 yO:S->aba
 nE:S->aba
 DV:S->Nat->aaG
 deaf:S->abg
 Wd:aaT
 Ex:S->abl->abk->aba->aba->Nat->World->Trace->Prop
 Nj:S->Nat->Node P->Prop
 tie:∀s i x y,oC y x->Nj s i x->Nj s i y
def blk(g:abd):abd:={g with status:=.blocked}
def Jn(P:abm)(Wd:aaT)(yO:Prop)(q:Nat)(g g':abd):Prop:=(yO/\g=blk g'/\q=0)\/iQ P Wd q g g'
structure bC{P}(A:qx P)(Z:Base)  s  (f:Nat->Node P) (q:abg)  kk   OO   J M  (gs:aaJ)  w   t :Prop where
 lk:Z.lk=A.lk
 cJ:cq Z kk OO J M w t
 live:∀i,A.Live s i->i<A.top/\gs[i]?=some (f i).g/\(f i).m=A.mo s i/\(f i).k=kk i/\(f i).O=OO i/\(f i).g.status=.running/\Deaf t i=0/\(i=0\/J i)/\A.Nj s i (f i)
 walk:∀i,A.Walk s i -> ¬A.Live s i/\i<A.top/\Deaf t i=A.deaf s i/\∃g g',gs[i]?=some g/\A.At s i (kk i) (OO i) g'/\Jn P A.Wd (A.yO s i) (q i) g g'
 held:∀i,A.nE s i -> ¬A.Live s i/\¬A.Walk s i/\i<A.top/\Deaf t i=0/\∃g,gs[i]?=some g/\g.status=.blocked/\A.DV s i (kk i) (OO i) g
 rest:∀i g,gs[i]?=some g -> ¬A.Live s i -> ¬A.Walk s i -> ¬A.nE s i->i≠0/\QuitsD P (q i) (Deaf t i) g
 above:∀j,gs.size<=j->Deaf t j=0
 ex:A.Ex s kk OO J M gs.size w t
structure yP{P}(A:qx P):Prop where
 own:∀{s kk OO J M n w t i k' O' w' es},A.Ex s kk OO J M n w t->A.Live s i->i<n->Eff (kk i) (OO i) w k' O' w' es->∀u ,(∀op∈u,op.g=i)->jZ u->(∀op∈u,∃e,iO (kk i) (OO i) w.heap.size e/\op.act=.ofEvent e)->A.Ex s (bP kk i k') (bP OO i O') J M n w' (t++u)
 slip:∀{s kk OO J M n w t i},A.Ex s kk OO J M n w t->∀u ,(∀op∈u,op.g=i)->(∀op∈u,op.act.touch?=none/\∀a,op.act≠.mark (.release a))->A.Ex s kk OO J M n w (t++u)
 draw:∀{s kk OO J M n w t},A.Ex s kk OO J M n w t->∀d,A.Ex s kk OO J M n (w.at d) t
 rW:∀{s kk OO J M n w t j g},A.Ex s kk OO J M n w t->A.nE s j->∀k O,A.DV s j k O g->g.again w=g
 wd:∀{s kk OO J M n w t},A.Ex s kk OO J M n w t->A.Wd w
 kq:∀{s i k O g},A.At s i k O g->g.status=.running/\g.offers=none
def wj{P a a' g w}(h:g.again w=g):woken P a a' w g=g:=by
 unfold Go.Conc.woken
 simp_all
def yQ{g}(a:g.status=.running)(b:g.offers=none)  w :(blk g).again w=g:=by obtain⟨fr,cs,c,d,off⟩:=g;simp only at a b;subst a b;simp[blk,Goroutine.again]
def iQ.first{P Wd n g g'}(h:iQ P Wd n g g')(a:g'.status=.running):g.status=.running:=by
 cases n with
 |zero=>rw[show g=g' from h];exact a
 |succ n=>obtain⟨c,b,_⟩:=h;exact b.1
def DW{e}(h:e.mute=true)  a :MemAct.ofEvent e≠.mark (.release a):=by
 obtain⟨loc,wr,b⟩:=e;cases loc with
 |mark m=>cases m<;>simp_all [Event.mute,MemAct.ofEvent]
 |_=>simp_all [Event.mute]
def runs(gs:aaJ):Nat:=sumTo gs.size λj=>if(gs[j]?).any (λg=>g.status==.running)then 1 else 0
section
variable{P:abm}{A:qx P}{Z:Base}{s:A.S}{f:Nat->Node P}{q:abg}{kk:abl}{OO:abk}{J M:aba}{gs:aaJ}{w:World}{t:Trace}
def cq.at(h:cq Z kk OO J M w t)  d :cq Z kk OO J M (w.at d) t:=⟨λi=>⟨(h.sat i).apart,(h.sat i).cell,(h.sat i).sh,(h.sat i).obj,(h.sat i).tail,(h.sat i).part⟩,h.jb,h.mU,h.Am,h.clean,h.seen,h.acc,h.n0,h.v3,h.lg,h.om,h.yj.step (.refl _) rfl (YF _) (λ_ _=>rfl),h.mine⟩
def bC.awake(B:yP A)(h:bC A Z s f q kk OO J M gs w t):∀g∈gs,Go.Conc.awake g:=by
 intro g m;obtain⟨i,n,rfl⟩:=Array.mem_iff_getElem.1 m;have d:=YM n;by_cases j:A.Live s i
 . obtain⟨_,c,_,_,_,b,_⟩:=h.live i j
   have:gs[i]=(f i).g:=by simp_all
   rw[this];intro x a;simp_all
 by_cases k:A.Walk s i
 . obtain⟨_,_,_,g,o,c,b,e⟩:=h.walk i k
   have:gs[i]=g:=by simp_all
   rw[this];rcases e with⟨_,rfl,_⟩|e
   . intro x a;cases a
   have:=e.first (B.kq b).1
   intro x a;simp_all
 by_cases l:A.nE s i
 . obtain⟨_,_,_,_,g,c,b,_⟩:=h.held i l
   have:gs[i]=g:=by simp_all
   rw[this];intro x a;simp_all
 have c:=(h.rest i _ d j k l).2;intro x a;rcases c.status with b|b<;>rw[b]at a<;>cases a
structure Rest(A:qx P)  s  (f:Nat->Node P) (q:abg) (kk:abl) (OO:abk)  t   i  (gs':aaJ):Prop where
 live:∀j,j≠i->A.Live s j->gs'[j]?=some (f j).g
 walk:∀j,j≠i->A.Walk s j->∃g g',gs'[j]?=some g/\A.At s j (kk j) (OO j) g'/\Jn P A.Wd (A.yO s j) (q j) g g'
 held:∀j,j≠i->A.nE s j->∃g,gs'[j]?=some g/\g.status=.blocked/\A.DV s j (kk j) (OO j) g
 rest:∀j g,j≠i->gs'[j]?=some g -> ¬A.Live s j -> ¬A.Walk s j -> ¬A.nE s j->j≠0/\QuitsD P (q j) (Deaf t j) g
def bC.Nk(B:yP A)(h:bC A Z s f q kk OO J M gs w t){i a a' x w'}(C:∀j g,A.nE s j->A.DV s j (kk j) (OO j) g->g.again w'=g):Rest A s f q kk OO t i ((gs.map (woken P a a' w')).setIfInBounds i x):=by
 have b:∀j,j≠i->((gs.map (woken P a a' w')).setIfInBounds i x)[j]?=(gs[j]?).map (woken P a a' w'):=λj e=>by grind
 refine⟨λj e o=>?_,λj e p=>?_,λj e n=>?_,λj g e r o p n=>?_⟩
 . obtain⟨_,l,_,_,_,k,_⟩:=h.live j o
   rw[b j e,l,YW,woken_run k]
 . obtain⟨_,_,_,g,c,l,k,d⟩:=h.walk j p
   obtain⟨u,D⟩:=B.kq k;rcases d with⟨d,rfl,v⟩|d
   . by_cases m:woken P a a' w' (blk c)=blk c
     . exact⟨blk c,c,by simp_all,k,.inl ⟨d,rfl,v⟩⟩
     have E:woken P a a' w' (blk c)=c:=by
      unfold Go.Conc.woken at m ⊢;split at m
      . rename_i F;rw[YG F];exact yQ u D w'
      simp_all
     exact⟨c,c,by simp_all,k,.inr (by rw[v];rfl)⟩
   exact⟨g,c,by rw[b j e,l,YW,woken_run (d.first u)],k,.inr d⟩
 . obtain⟨_,_,_,_,g,l,k,d⟩:=h.held j n
   exact⟨g,by rw[b j e,l,YW,wj (C j g n d)],k,d⟩
 rw[b j e]at r;obtain⟨z,G,rfl⟩:=YI.1 r;have y:=h.rest j z G o p n;rw[woken_quitsD y.2];exact y
set_option maxHeartbeats 2000000 in
def Jo(B:yP A)(Fin:aaG)
 (av:∀{s f q kk OO J M gs w t},bC A Z s f q kk OO J M gs w t->∃(i:Nat) (g:abd),gs[i]?=some g/\g.status=.running)
 (cY:∀ {s f q kk OO J M gs w t}  sl   i  {k O g N}  h0   h   c ,bC A Z s f q kk OO J M gs w t->A.Live s i->f i=⟨A.mo s i,k,O,g,.cY N h0 h c⟩ ->
   ∃ ops m',runT P (crowd gs w sl) i=(.next m',ops)/\
     ((∃s' f' q' kk' OO' J' M' gs' w' C,m'=crowd gs' w' C/\A.r s' s/\bC A Z s' f' q' kk' OO' J' M' gs' w' (t++ops))\/
      (∃gs' w' C k' O' g',m'=crowd gs' w' C/\dE P Z.W0 k' O' g' gs' w' (t++ops)/\Fin k' O' g')))
 (stop:∀{s f q kk OO J M gs w t}  sl   i  {g},bC A Z s f q kk OO J M gs w t->A.Walk s i->gs[i]?=some g->A.At s i (kk i) (OO i) g->q i=0 ->
   ∃ ops m',runT P (crowd gs w sl) i=(.next m',ops)/\
     ((∃s' f' q' kk' OO' J' M' gs' w' C,m'=crowd gs' w' C/\A.r s' s/\bC A Z s' f' q' kk' OO' J' M' gs' w' (t++ops))\/
      (∃gs' w' C k' O' g',m'=crowd gs' w' C/\dE P Z.W0 k' O' g' gs' w' (t++ops)/\Fin k' O' g')\/
      (A.yO s i/\m'=crowd (gs.setIfInBounds i (blk g)) w sl/\ops=#[]))):
 ∀  s   n   f   rr   q   kk   OO   J M   gs   w   sl   t ,sumTo gs.size q=n->runs gs=rr->bC A Z s f q kk OO J M gs w t ->
  ∃N gs' w' C t' k' O' g',runNT P N (crowd gs w sl) t=(.next (crowd gs' w' C),t')/\dE P Z.W0 k' O' g' gs' w' t'/\Fin k' O' g':=by
 intro s
 induction s using A.wf.induction with
 |_ s b8=>
 intro n
 induction n using Nat.strongRecOn with
 |ind n b9=>
 intro f
 induction f using(Jm (P:=P) A.top).induction with
 |_ f bm=>
 intro rr
 induction rr using Nat.strongRecOn with
 |ind rr c7=>
 intro q kk OO J M gs w sl t hn c9 D;obtain⟨i0,x0,e0,r0⟩:=av D;obtain⟨i,g,d,C,hi,hg,U⟩:=crowd_pick (P:=P) (w:=w) (sl:=sl) (D.awake B) ⟨i0,_,e0,r0⟩;have Q:i<gs.size:=(zs.1 hi).1;have o:bC A Z s f q kk OO J M gs (w.at d) t:=⟨D.lk,D.cJ.at d,D.live,D.walk,D.held,D.rest,D.above,B.draw D.ex d⟩;have bw:∀j,j<A.top->j≠Z.lk:=λj y=>by rw[D.lk];have:=A.R8;omega
 by_cases hl:A.Live s i
 . obtain ⟨ht,h1,b1,V,h3,h4,h5,h6,h7⟩:=o.live i hl
   rw[hi]at h1;have b2:=YX h1;cases hf:f i with
   | mk mm k O g0 tr=>
     rw[hf]at b1 V h3 h4 b2 h7;simp only at b1 V h3 h4 b2;subst b2;subst b1;cases tr with
     | step N hr c hs=>
       obtain⟨g',w',es,k',O',aE,ca,b3,aL⟩:=hs (w.at d) (by rw[V,h3];exact o.cJ.sat i)
       rw[A.main]at aE;have K:=runT_crowd_go (P:=P) (sl:=C) (i:=i) hi aE;have hE:Eff (kk i) (OO i) (w.at d) k' O' w' es.toList:=by rw[<-V,<-h3];exact ca
       have E:jZ (MemOp.ofEvents i g.frame.fn g.frame.place es):=v8 (λe he=>hE.evs e he) i _ _
       have G:∀op∈MemOp.ofEvents i g.frame.fn g.frame.place es,op.g=i:=λop z=>by obtain⟨e,_,rfl⟩:=zH z;rfl
       have hP:=o.cJ.own (i:=i) (bw i ht) h6 (fn:=g.frame.fn) (pos:=g.frame.place) hE b3;have X:=B.own o.ex hl Q hE _ G E (λop z=>by obtain⟨e,he,rfl⟩:=zH z;exact⟨e,hE.evs e (by simpa using he),rfl⟩)
       have hR:=o.Nk B (i:=i) (a:=g) (a':=g') (x:=g') (w':=w') (λj x hh W=>B.rW X hh _ _ W)
       have H:bC A Z s (bP f i ⟨A.mo s i,k',O',g',c k' O' g' aL⟩) q (bP kk i k') (bP OO i O') J M ((gs.map (woken P g g' w')).setIfInBounds i g') w' (t++MemOp.ofEvents i g.frame.fn g.frame.place es):=by
        refine⟨D.lk,hP,λj y=>?_,λj y=>?_,λj y=>?_,λj x W n1 n2 n3=>?_,λj y=>?_,by simpa using X⟩
        . obtain⟨I,T,pm,R,Y,p4,p5,p6⟩:=o.live j y
          by_cases l:j=i
          . subst l
            rw[an,an,an,zU (by simpa using Q),bX E]
            exact⟨I,rfl,rfl,rfl,rfl,(c k' O' g' aL).running,p5,p6.1,A.tie _ _ _ _ (.step N hr c hs aL) h7⟩
          rw[ar _ _ l,ar _ _ l,ar _ _ l,hR.live j l y,bX E];exact⟨I,rfl,pm,R,Y,p4,p5,p6⟩
        . obtain⟨I,T,R,_⟩:=o.walk j y
          have l:j≠i:=λe=>I (e ▸ hl)
          rw[ar _ _ l,ar _ _ l,bX E];exact⟨I,T,R,hR.walk j l y⟩
        . obtain⟨I,T,R,Y,_⟩:=o.held j y
          have l:j≠i:=λe=>I (e ▸ hl)
          rw[ar _ _ l,ar _ _ l,bX E];exact⟨I,T,R,Y,hR.held j l y⟩
        . have l:j≠i:=λe=>n1 (e ▸ hl)
          rw[bX E];exact hR.rest j x l W n1 n2 n3
        rw[bX E];exact D.above j (by simpa using y)
       obtain⟨N',gs',a7,L,t',a8,a9,ad,e1,e2,e3⟩:=bm _ ⟨i,ht,λj y=>ar _ _ y,by rw[an,hf];exact .step N hr c hs aL⟩ _ q _ _ J M _ w' C _ (by simpa using hn) rfl H
       exact⟨N'+1,gs',a7,L,t',a8,a9,ad,by simp only[runNT,U,K];exact e1,e2,e3⟩
     | ghost k2 O2 b4 c=>
       obtain⟨b3,hE⟩:=b4 w (by rw[V,h3];exact D.cJ.sat i)
       have bx:Eff (kk i) (OO i) w k2 O2 w (#[]:aaU).toList:=by rw[<-V,<-h3];exact hE
       have cb:jZ (MemOp.ofEvents i 0  "" #[]):=v8 (k:=kk i) (O:=OO i) (B:=0) (λe he=>by simp at he) i _ _
       have ax:t++MemOp.ofEvents i 0  "" #[]=t:=by rw[ofEvents_eq];simp
       have hP:=D.cJ.own (i:=i) (bw i ht) h6 (fn:=0) (pos:=  "") bx b3
       have X:=B.own D.ex hl Q bx _ (λop z=>by obtain⟨e,_,rfl⟩:=zH z;rfl) cb (λop z=>by obtain⟨e,he,rfl⟩:=zH z;simp at he)
       rw[ax]at hP X
       have H:bC A Z s (bP f i ⟨A.mo s i,k2,O2,g,c⟩) q (bP kk i k2) (bP OO i O2) J M gs w t:=by
        refine⟨D.lk,hP,λj y=>?_,λj y=>?_,λj y=>?_,D.rest,D.above,X⟩
        . obtain⟨I,T,pm,R,Y,p4,p5,p6⟩:=D.live j y
          by_cases l:j=i
          . subst l
            rw[an,an,an];exact⟨I,hi,rfl,rfl,rfl,h4,p5,p6.1,A.tie _ _ _ _ (.ghost k2 O2 b4 c) h7⟩
          rw[ar _ _ l,ar _ _ l,ar _ _ l];exact⟨I,T,pm,R,Y,p4,p5,p6⟩
        . have l:j≠i:=λe=>(D.walk j y).1 (e ▸ hl)
          rw[ar _ _ l,ar _ _ l];exact D.walk j y
        have l:j≠i:=λe=>(D.held j y).1 (e ▸ hl)
        rw[ar _ _ l,ar _ _ l];exact D.held j y
       exact bm _ ⟨i,ht,λj y=>ar _ _ y,by rw[an,hf];exact .ghost k2 O2 b4 c⟩ _ q _ _ J M gs w sl t hn rfl H
     | cY N h0 h c=>
       obtain⟨ops,m',e1,e2⟩:=cY C i h0 h c o hl hf
       rcases e2 with⟨s',f',q',kk',OO',J',M',gs',w',al,rfl,hr,H⟩|⟨gs',w',al,k',O',g',rfl,hS,hF⟩
       . obtain⟨N',b5,w2,b6,t2,k2,O2,g2,e3,e4,e5⟩:=b8 s' hr _ f' _ q' kk' OO' J' M' gs' w' al _ rfl rfl H
         exact⟨N'+1,b5,w2,b6,t2,k2,O2,g2,by simp only[runNT,U,e1];exact e3,e4,e5⟩
       exact⟨1,gs',w',al,_,k',O',g',by simp only[runNT,U,e1],hS,hF⟩
 by_cases hk:A.Walk s i
 . obtain ⟨_,ht,dj,g1,g',h1,V,h3⟩:=o.walk i hk
   obtain rfl:g1=g:=by rw[hi]at h1;exact(YX h1).symm
   rcases h3 with⟨_,hb,_⟩|h3
   . rw[hb]at hg;cases hg
   cases S:q i with
   | zero=>
     rw[S]at h3;obtain rfl:g1=g':=h3;obtain⟨ops,m',e1,e2⟩:=stop C i o hk hi V S
     rcases e2 with⟨s',f',q',kk',OO',J',M',gs',w',al,rfl,hr,H⟩|⟨gs',w',al,k',O',g',rfl,hS,hF⟩|⟨bA,rfl,rfl⟩
     . obtain⟨N',b5,w2,b6,t2,k2,O2,g2,e3,e4,e5⟩:=b8 s' hr _ f' _ q' kk' OO' J' M' gs' w' al _ rfl rfl H
       exact⟨N'+1,b5,w2,b6,t2,k2,O2,g2,by simp only[runNT,U,e1];exact e3,e4,e5⟩
     . exact⟨1,gs',w',al,_,k',O',g',by simp only[runNT,U,e1],hS,hF⟩
     have ay:∀j,j≠i->(gs.setIfInBounds i (blk g1))[j]?=gs[j]?:=λj y=>YC (zj y)
     have H:bC A Z s f q kk OO J M (gs.setIfInBounds i (blk g1)) (w.at d) t:=by
      refine⟨D.lk,o.cJ,λj y=>?_,λj y=>?_,λj y=>?_,λj x W n1 n2 n3=>?_,λj y=>D.above j (by simpa using y),by simpa using o.ex⟩
      . have l:j≠i:=λe=>hl (e ▸ y)
        rw[ay j l];exact o.live j y
      . obtain⟨I,T,R,Y⟩:=o.walk j y
        refine⟨I,T,R,?_⟩
        by_cases l:j=i
        . subst l
          exact⟨blk g1,g1,by rw[zU Q],V,.inl ⟨bA,rfl,S⟩⟩
        rw[ay j l];exact Y
      . have l:j≠i:=λe=>(o.held j y).2.1 (e ▸ hk)
        rw[ay j l];exact o.held j y
      have l:j≠i:=λe=>n2 (e ▸ hk)
      rw[ay j l]at W;exact o.rest j x W n1 n2 n3
     have b7:runs (gs.setIfInBounds i (blk g1))<rr:=by
      rw[<-c9];unfold runs;rw[Zp];obtain⟨F,hF⟩:∃F:abg,F=λj=>if(gs[j]?).any (λg=>g.status==.running)then 1 else 0:=⟨_,rfl⟩
      have hu:(λj=>if((gs.setIfInBounds i (blk g1))[j]?).any (λg=>g.status==.running)then 1 else 0)=upd F i 0:=by
       funext j
       by_cases l:j=i
       . subst l
         rw[upd_same,zU Q];rfl
       rw[upd_ne _ _ l,ay j l,hF]
      rw[hu,<-hF];have h1:F i=1:=by rw[hF];simp[hi,hg]
      have V:sumTo gs.size (upd F i 0)+F i=sumTo gs.size F+0:=sumTo_upd F 0 id Q;omega
     obtain⟨N',gs',a7,L,t',a8,a9,ad,e3,e4,e5⟩:=c7 _ b7 q kk OO J M _ _ C t (by simpa using hn) rfl H
     refine⟨N'+1,gs',a7,L,t',a8,a9,ad,?_,e4,e5⟩;simp only[runNT,U,e1];rw[show t++(#[]:Array MemOp)=t by simp]
     exact e3
   | succ k=>
     rw[S]at h3;obtain⟨g2,⟨dm,aE⟩,bB⟩:=h3;have aC:=aE (i==0) (w.at d) (B.wd o.ex);have K:=runT_crowd_go (P:=P) (sl:=C) (i:=i) hi aC;have ax:t++MemOp.ofEvents i g1.frame.fn g1.frame.place #[]=t:=by rw[ofEvents_eq];simp
     have hR:=o.Nk B (i:=i) (a:=g1) (a':=g2) (x:=g2) (w':=w.at d) (λj x hh W=>B.rW o.ex hh _ _ W)
     have c5:sumTo gs.size (upd q i k)+(k+1)=sumTo gs.size q+k:=by have:=sumTo_upd q k id Q;simpa[S]using this
     have H:bC A Z s f (upd q i k) kk OO J M ((gs.map (woken P g1 g2 (w.at d))).setIfInBounds i g2) (w.at d) t:=by
      refine⟨D.lk,o.cJ,λj y=>?_,λj y=>?_,λj y=>?_,λj x W n1 n2 n3=>?_,λj y=>D.above j (by simpa using y),by simpa using o.ex⟩
      . have l:j≠i:=λe=>hl (e ▸ y)
        obtain⟨I,T,pp⟩:=o.live j y;exact⟨I,hR.live j l y,pp⟩
      . obtain⟨I,T,R,Y⟩:=o.walk j y
        refine⟨I,T,R,?_⟩
        by_cases l:j=i
        . subst l
          exact⟨g2,g',by rw[zU (by simpa using Q)],V,.inr (by rw[upd_same];exact bB)⟩
        rw[upd_ne q k l];exact hR.walk j l y
      . have l:j≠i:=λe=>(o.held j y).2.1 (e ▸ hk)
        obtain⟨I,T,R,Y,_⟩:=o.held j y;exact⟨I,T,R,Y,hR.held j l y⟩
      have l:j≠i:=λe=>n2 (e ▸ hk)
      rw[upd_ne q k l];exact hR.rest j x l W n1 n2 n3
     obtain⟨N',gs',a7,L,t',a8,a9,ad,e1,e2,e3⟩:=b9 (sumTo gs.size (upd q i k)) (by omega) f _ (upd q i k) kk OO J M _ (w.at d) C _ (by simp) rfl H
     refine⟨N'+1,gs',a7,L,t',a8,a9,ad,?_,e2,e3⟩;simp only[runNT,U,K,ax];exact e1
 by_cases hh:A.nE s i
 . obtain⟨_,_,_,_,g1,h1,V,_⟩:=D.held i hh
   rw[hi]at h1;obtain rfl:=YX h1;rw[V]at hg;cases hg
 obtain⟨b0,hq⟩:=o.rest i g hi hl hk hh;cases S:q i with
 |zero=>rw[S]at hq;rw[hq.1]at hg;cases hg
 | succ k=>
   have dr:=hq;rw[S]at hq
   rcases hq with⟨hf,_⟩|⟨_,g',es,hm,aC,cg⟩
   . rw[hf]at hg;cases hg
   have cm:(i==0)=false:=by simpa using b0
   have K:=runT_crowd_go (P:=P) (sl:=C) (i:=i) hi (by rw[cm];exact aC (w.at d))
   have G:∀op∈MemOp.ofEvents i g.frame.fn g.frame.place es,op.g=i:=λop z=>by obtain⟨e,_,rfl⟩:=zH z;rfl
   have aO:∀op∈MemOp.ofEvents i g.frame.fn g.frame.place es,op.act.touch?=none:=λop z=>by obtain⟨e,he,rfl⟩:=zH z;exact touch_mute (hm e he)
   have cv:∀op∈MemOp.ofEvents i g.frame.fn g.frame.place es,∀a,op.act≠.mark (.release a):=λop z a=>by obtain⟨e,he,rfl⟩:=zH z;have:=hm e he;exact DW this a
   have c6:∀op∈MemOp.ofEvents i g.frame.fn g.frame.place es,op.act.low (w.at d).heap.size:=λop z=>by obtain⟨e,he,rfl⟩:=zH z;exact low_mute (hm e he) _
   have hP:=o.cJ.sZ (w':=w.at d) (kk':=kk) (OO':=OO) (J':=J) (M':=M) (u:=MemOp.ofEvents i g.frame.fn g.frame.place es) (λa b=>a=b) rfl ⟨⟨.refl _,rfl⟩,λ_ _=>rfl⟩ (λb=>.inl rfl) c6 (λa b e n x _ _ _ h=>by subst e;exact h.app _) (λj b n v h=>⟨j,rfl,h⟩) (λj b x h=>⟨j,rfl,h⟩) (λj b x h=>⟨j,rfl,h,λ_ h=>h⟩) o.cJ.jb
    (λsaid=>noRace_append (o.cJ.clean said) (λop z=>G op z) λn a ha op z b hb _=>by rw[aO op z]at hb;cases hb) (λop z a ha=>by rw[aO op z]at ha;cases ha) (λm op a z ha=>by rw[aO op (Ze z)]at ha;cases ha)
    (λn a ha hm h=>h.elim (λ⟨j,h1,V⟩=>.inr (.inl ⟨j,h1,V.app _⟩)) (λ⟨p,h1,V⟩=>.inr (.inr (.inl ⟨p,h1,V.app _⟩))))
   have X:=B.slip (i:=i) o.ex _ G (λop z=>⟨aO op z,cv op z⟩)
   have hR:=o.Nk B (i:=i) (a:=g) (a':=g') (x:=g') (w':=w.at d) (λj x hh W=>B.rW o.ex hh _ _ W)
   have c5:sumTo gs.size (upd q i k)+(k+1)=sumTo gs.size q+k:=by have:=sumTo_upd q k id Q;simpa[S]using this
   have H:bC A Z s f (upd q i k) kk OO J M ((gs.map (woken P g g' (w.at d))).setIfInBounds i g') (w.at d) (t++MemOp.ofEvents i g.frame.fn g.frame.place es):=by
    refine⟨D.lk,hP,λj y=>?_,λj y=>?_,λj y=>?_,λj x W n1 n2 n3=>?_,λj y=>?_,by simpa using X⟩
    . have l:j≠i:=λe=>hl (e ▸ y)
      obtain⟨I,T,pm,R,Y,p4,p5,p6⟩:=o.live j y;rw[Deaf_other t (zj l) _ G];exact⟨I,hR.live j l y,pm,R,Y,p4,p5,p6⟩
    . have l:j≠i:=λe=>hk (e ▸ y)
      obtain⟨I,T,R,Y⟩:=o.walk j y;rw[Deaf_other t (zj l) _ G,upd_ne q k l];exact⟨I,T,R,hR.walk j l y⟩
    . have l:j≠i:=λe=>hh (e ▸ y)
      obtain⟨I,T,R,Y,_⟩:=o.held j y;rw[Deaf_other t (zj l) _ G];exact⟨I,T,R,Y,hR.held j l y⟩
    . by_cases l:j=i
      . subst l
        rw[zU (by simpa using Q)]at W
        obtain rfl:=YX W;rw[upd_same,Deaf_own];exact⟨b0,cg⟩
      rw[upd_ne q k l,Deaf_other t (zj l) _ G];exact hR.rest j x l W n1 n2 n3
    rw[Deaf_other t (g':=i) (by simp at y;omega) _ G]
    exact D.above j (by simpa using y)
   obtain⟨N',gs',a7,L,t',a8,a9,ad,e1,e2,e3⟩:=b9 (sumTo gs.size (upd q i k)) (by omega) f _ (upd q i k) kk OO J M _ (w.at d) C _ (by simp) rfl H
   exact⟨N'+1,gs',a7,L,t',a8,a9,ad,by simp only[runNT,U,K];exact e1,e2,e3⟩
end

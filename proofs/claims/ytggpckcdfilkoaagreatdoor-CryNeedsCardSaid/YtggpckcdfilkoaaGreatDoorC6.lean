import Derived.Conc.CrowdTrace
import Derived.Test.YtggpckcdfilkoaaGreatDoorC5
set_option linter.all false
namespace Go.bu
open Go.Conc
def ChanAt(w:World)(b:Nat):Prop:=∃cap buf cl s r a,w.heap[b]?=some (.chan cap buf cl s r a)
def Kept(kk:Zz)(OO:ZF)(w w':World)(b:Nat):Prop:=
 w'.heap[b]?=w.heap[b]?\/(ChanAt w b/\ChanAt w' b/\∀i,OO i b=none)\/
 ∃c a e,w.heap[b]?=some (.cells c e (0,0))/\w'.heap[b]?=some (.cells a e (0,0))/\a.size=c.size/\(∀i x,OO i b=some x->∃f,x=.part f/\∀n,f n≠none->a[n]?=c[n]?)/\∀n,a[n]?=c[n]?\/∀i,(kk i).cell b n=none
def Calm(Z:Base)(w w':World):Prop:=(sE w.os w'.os/\w'.output=w.output)/\∀b,b<Z.W0.heap.size->w'.heap[b]?=w.heap[b]?
def RV(kk:Zz)(OO:ZF)(B:Nat):Loc->Prop
 |.cell a=>a.block<B/\∀i,¬bS (OO i) a.block a.off/\(kk i).cell a.block a.off=none
 |.obj r=>r<B/\∀i o,OO i r≠some (.obj o)
 |_=>True
def Told(Z:Base)(J M:ZA)(t:Trace)(n:Nat)(a:Touch):Prop:=Knows t 0 n\/(∃j,J j/\Knows t j n)\/(∃p,M p/\Before t n p)\/(Z.na a.loc/\a.kind=.atomic/\(t.counts n->n<Z.N0))
def F5{t B}(h:∀op∈t,op.act.low B){n a}(c:touchAt t n=some a):match a.loc with|.cell ad=>ad.block<B|.obj r=>r<B|_=>True:=by
 obtain⟨x,d,b⟩:=touch_of c;have:=h x (K9 d);obtain⟨f,fn,pos,act⟩:=x;cases act with
 |access e=>simp  [MemAct.touch?]at b;subst b;simp  [MemAct.low,Loc.low]at this;omega
 |mark m=>cases m<;>simp_all [MemAct.touch?,MemAct.low]<;>(subst b;simpa using this)
 |_=>simp[MemAct.touch?]at b
section
variable{Z:Base}{kk:Zz}{OO:ZF}{J M:ZA}{w:World}{t:Trace}
def dX.AO(h:dX Z kk OO J M w t)(Fl:Nat->ZA){u w' kk' OO' J' M'}
 (R:w'.heap.size=w.heap.size) (S:Calm Z w w') (hb:∀b,Kept kk OO w w' b) (z:∀op∈u,op.act.low w.heap.size)
 (a8:∀i j,Fl i j->∀n a,touchAt t n=some a->a.loc.isMemory=true -> ¬Z.na a.loc->OT Z t i n->OT Z (t++u) j n)
 (T:∀j b n v,(kk' j).cell b n=some v->∃i,Fl i j/\(kk i).cell b n=some v)
 (hs:∀j b s,(kk' j).sh b=some s->∃i,Fl i j/\(kk i).sh b=some s)
 (D:∀j b x,OO' j b=some x->∃i,Fl i j/\OO i b=some x/\∀s,(kk i).sh b=some s->(kk' j).sh b=some s)
 (hd:∀i j b x,i≠j->OO' i b=some x->OO' j b=none)
 (hr:∀said,¬Race said (t++u))
 (hu:∀op∈u,∀a,op.act.touch?=some a->a.loc.isMemory=true->RV kk OO w.heap.size a.loc)
 (U:∀m op a,u[m]?=some op->op.act.touch?=some a->a.loc.isMemory=true->Told Z J' M' (t++u) (t.size+m) a)
 (P:∀n a,touchAt t n=some a->a.loc.isMemory=true->((∃j,J j/\Knows t j n)\/(∃p,M p/\Before t n p))->Told Z J' M' (t++u) n a):dX Z kk' OO' J' M' w' (t++u):=by
 have F:∀j b n,bS (OO' j) b n->∃i,Fl i j/\bS (OO i) b n:=λj b n y=>by
  rcases y with⟨o,q⟩|⟨m,q,A⟩|⟨f,q,A⟩
  . obtain⟨i,d,g,_⟩:=D j b _ q;exact⟨i,d,.inl ⟨o,g⟩⟩
  . obtain⟨i,d,g,_⟩:=D j b _ q;exact⟨i,d,.inr (.inl ⟨m,g,A⟩)⟩
  . obtain⟨i,d,g,_⟩:=D j b _ q;exact⟨i,d,.inr (.inr ⟨f,g,A⟩)⟩
 have a9:∀i j b n v,(kk i).cell b n=some v -> ¬bS (OO j) b n:=λi j b n v N=>by
  by_cases e:i=j
  . subst e;exact(h.sat i).apart b n v N
  . exact h.tW j i b n v (vj e) N
 have B:∀i b x,OO i b=some x->(∀f,x≠.part f)->w'.heap[b]?=w.heap[b]?:=λi b x V ab=>by
  rcases hb b with d|⟨_,_,d⟩|⟨_,_,_,_,_,_,d,_⟩
  . omega
  . grind
  grind
 have η:∀{n:Nat}{a:Touch},touchAt (t++u) n=some a->(touchAt t n=some a/\n<t.size)\/∃m op,u[m]?=some op/\op.act.touch?=some a/\n=t.size+m:=λ{n a} P=>by
  obtain⟨x,V,al⟩:=touch_of P;by_cases hn:n<t.size
  . grind [Array.getElem?_append_left,touchAt_of]
  grind
 refine⟨λj=>⟨λb n v N y=>?_,λb n v N=>?_,λb s W=>?_,λb o C=>?_,λb n X=>?_,λb f Y=>?_⟩,hd,λi j b n v av N y=>?_,λj n a I A=>?_,hr,λop E=>?_,λn a I A=>?_,by simp;exact FL h.n0 (Iq _ _),h.Je _,λa G=>?_,λr G=>?_,h.Fo.step S.1.1 S.1.2 ac S.2,λj b x V=>by obtain⟨i,_,d,_⟩:=D j b x V;exact h.mine i b x d⟩
 . grind
 . obtain⟨i,_,d⟩:=T j b n v N
   have g:=(h.sat i).cell b n v d;rcases hb b with l|⟨⟨_,_,_,_,_,_,l⟩,_⟩|⟨c,c',e,l,O,h5,_,Q⟩
   . simpa only[World.cell?,l]using g
   . simp[World.cell?,l]at g
   . rcases Q n with Q|Q
     . simp only[World.cell?,l,O]at g ⊢
       grind
     grind
 . obtain⟨i,_,d⟩:=hs j b s W
   have g:=(h.sat i).sh b s d;rcases hb b with l|⟨⟨_,_,_,_,_,_,l⟩,_⟩|⟨c,c',e,l,O,h5,_,Q⟩
   . simpa only[World.shape?,l]using g
   . simp[World.shape?,l]at g
   . simp only[World.shape?,l,O]at g ⊢
     grind
 . obtain⟨i,_,d,_⟩:=D j b _ C
   rw[B i b _ d (λ_ e=>by cases e)];exact(h.sat i).obj b o d
 . obtain⟨i,_,d,g⟩:=D j b _ X
   rw[B i b _ d (λ_ e=>by cases e)];obtain⟨c,e,l,O⟩:=(h.sat i).tail b n d
   grind
 . obtain⟨i,_,d,g⟩:=D j b _ Y
   obtain⟨c,e,l,O,h5⟩:=(h.sat i).part b f d;rcases hb b with q|⟨_,_,q⟩|⟨c0,c1,e0,q1,q2,q3,q4,_⟩
   . grind
   . grind
   grind
 . grind
 . rcases η I with⟨k,a7⟩|⟨m,op,d,g,rfl⟩
   . by_cases hK:∃i,Fl i j/\OT Z t i n/\¬Z.na a.loc
     . grind
     . refine .inr ?_
       have H:=F5 h.seen k
       have K:∀i,Fl i j->wj (kk i) (OO i) w.heap.size a:=λi hi=>by
        by_cases G:Z.na a.loc
        . unfold wj
          split
          . next L z=>rw[z]at G;have:=h.rp L G;grind
          . next r z=>rw[z]at G;have:=h.vH r G;grind
          grind
        . rcases h.Hr i n a k A with d|d
          . grind
          omega
       unfold wj;split
       . next L z=>
         rw[z]at H;refine⟨ac,λy=>?_,?_⟩
         . obtain⟨i,d,g⟩:=F j _ _ y
           have:=K i d;unfold wj at this
           grind
         . cases q:(kk' j).cell L.block L.off with
           |none=>grind
           | some v=>
             obtain⟨i,d,g⟩:=T j _ _ v q;have:=K i d;unfold wj at this
             grind
       . next r z=>
         rw[z]at H;refine⟨ac,λo C=>?_⟩;obtain⟨i,d,g,_⟩:=D j r _ C;have:=K i d;unfold wj at this
         grind
       grind
   . refine .inr ?_
     have:=hu op (K9 d) a g A;unfold wj;split
     . next L z=>
       rw[z]at this;refine⟨by rw[R];exact this.1,λy=>?_,.inl ?_⟩
       . obtain⟨i,_,l⟩:=F j _ _ y
         exact(this.2 i).1 l
       . cases q:(kk' j).cell L.block L.off with
         |none=>rfl
         |some v=>obtain⟨i,_,l⟩:=T j _ _ v q;rw[(this.2 i).2]at l;grind
     . next r z=>
       rw[z]at this;refine⟨by rw[R];exact this.1,λo C=>?_⟩;obtain⟨i,_,l,_⟩:=D j r _ C;exact this.2 i o l
     grind
 . rw[R]
   rcases Array.mem_append.1 E with E|E
   . exact h.seen op E
   grind
 . rcases η I with⟨k,a7⟩|⟨m,op,d,g,rfl⟩
   . rcases h.acc n a k A with d|d|d|d
     . exact .inl (d.app _)
     . exact P n a k A (.inl d)
     . exact P n a k A (.inr d)
     grind [ym]
   . exact U m op a d g A
 . obtain⟨d,g⟩:=h.rp a G
   refine⟨ac,λj=>⟨λy=>?_,?_⟩⟩
   . grind
   . cases q:(kk' j).cell a.block a.off with
     |none=>rfl
     |some v=>grind
 . obtain⟨d,g⟩:=h.vH r G
   grind
def dX.abX(h:dX Z kk OO J M w t){z}(N:z≠Z.lk){b f}(hb:∀i,OO i b=none)(O:∀n v,f n=some v->∀i,(kk i).cell b n=none)
 (P:∀ad ,ad.block=b->f ad.off≠none -> ¬Z.na (.cell ad)) (Q:∃c e,w.heap[b]?=some (.cells c e (0,0))/\(kk z).sh b=some (e,c.size)/\∀n v,f n=some v->c[n]?=some v)
 (R:∀m a ad,touchAt t m=some a->a.loc=.cell ad->ad.block=b->f ad.off≠none->Knows t z m) (F:Z.W0.heap.size<=b):dX Z kk (dz OO z ((OO z).set b (.part f))) J M w t:=by
 have K:∀n,f n≠none->∀i,(kk i).cell b n=none:=λn S i=>by
  cases q:f n with
  |none=>grind
  |some v=>grind
 have s:∀c n,bS ((OO z).set b (.part f)) c n->bS (OO z) c n\/(c=b/\f n≠none):=λc n k=>by
  by_cases d:c=b
  . subst d
    rcases k with⟨o,q⟩|⟨m,q,_⟩|⟨g,q,D⟩
    . simp[au.set]at q
    . simp[au.set]at q
    . simp only[au.set,ZC,td,Own.part.injEq]at q
      grind
  . exact .inl (by simpa[bS,au.set,d]using k)
 have T:Sat (kk z) ((OO z).set b (.part f)) w:=by
  refine⟨λc n v B k=>?_,(h.sat z).cell,(h.sat z).sh,λc o k=>?_,λc n k=>?_,λc g k=>?_⟩
  . rcases s c n k with k|⟨rfl,D⟩
    . exact(h.sat z).apart c n v B k
    grind
  . by_cases d:c=b
    . subst d;simp[au.set]at k
    . exact(h.sat z).obj c o (by simpa[au.set,d]using k)
  . by_cases d:c=b
    . grind
    . exact(h.sat z).tail c n (by simpa[au.set,d]using k)
  . by_cases d:c=b
    . subst d
      simp only[au.set,ZC,td,Own.part.injEq]at k
      grind
    . exact(h.sat z).part c g (by simpa[au.set,d]using k)
 have G:b<w.heap.size:=am
 refine⟨λi=>?_,λi j c x u H=>?_,λi j c n v u B k=>?_,λi n a y I=>?_,h.clean,h.seen,h.acc,h.n0,h.Dl,λa y=>⟨(h.rp a y).1,λi=>⟨λk=>?_,((h.rp a y).2 i).2⟩⟩,λr E=>⟨(h.vH r E).1,λi o k=>?_⟩,h.Fo,λi c x k=>?_⟩
 . by_cases p:z=i
   . grind [aD]
   . rw[aK _ _ (vj p)];exact h.sat i
 . by_cases d:c=b
   . subst d
     by_cases L:z=j
     . simp_all [aK]
     . rw[aK _ _ (vj L)];grind
   . have e:∀l,dz OO z ((OO z).set b (.part f)) l c=OO l c:=λl=>by
      by_cases C:z=l
      . subst C;rw[aD];simp[au.set,d]
      . rw[aK _ _ (vj C)]
     rw[e]at H ⊢;exact h.om i j c x u H
 . by_cases p:z=i
   . subst p
     rw[aD]at k;rcases s c n k with k|⟨rfl,D⟩
     . exact h.tW z j c n v u B k
     grind
   . rw[aK _ _ (vj p)]at k;exact h.tW i j c n v u B k
 . by_cases p:z=i
   . subst p
     rw[aD];rcases h.Hr z n a y I with A|A
     . grind
     . unfold wj at A ⊢
       split
       . grind [wo]
       . next r C=>
         rw[C]at A;refine .inr ⟨A.1,λo k=>?_⟩;by_cases d:r=b
         . subst d;simp[au.set]at k
         . exact A.2 o (by simpa[au.set,d]using k)
       grind
   . rw[aK _ _ (vj p)];exact h.Hr i n a y I
 . by_cases p:z=i
   . subst p
     rw[aD]at k;rcases s _ _ k with k|⟨e,D⟩
     . exact((h.rp a y).2 z).1 k
     grind
   . rw[aK _ _ (vj p)]at k;exact((h.rp a y).2 i).1 k
 . by_cases p:z=i
   . subst p
     rw[aD]at k;by_cases d:r=b
     . subst d;simp[au.set]at k
     . exact(h.vH r E).2 z o (by simpa[au.set,d]using k)
   . rw[aK _ _ (vj p)]at k;exact(h.vH r E).2 i o k
 . by_cases p:z=i
   . subst p
     rw[aD]at k;by_cases d:c=b
     . omega
     . exact h.mine z c x (by simpa[au.set,d]using k)
   . rw[aK _ _ (vj p)]at k;exact h.mine i c x k
theorem y8  b :au.bot b=none:=rfl
def dX.start{P k O g gs w W0 t}(h:iz P W0 k O g gs w t)  lk   la  (K:0≠lk):
 ∃Z ,Z.N0=t.size/\Z.lk=lk/\Z.la=la/\Z.W0=W0/\gs[0]?=some g/\(∃q,Leavers P t gs q)/\Deaf t 0=0/\dX Z (dz (λ_=>az.bot) 0 k) (dz (λ_=>au.bot) 0 O) (λ_=>False) (λ_=>False) w t/\∀n a,touchAt t n=some a->a.loc.isMemory=true->Knows t 0 n\/(Z.na a.loc/\a.kind=.atomic):=by
 obtain⟨na,q,L,M,d,z,N,U,A,Q⟩:=h;refine⟨⟨na,t.size,lk,la,W0⟩,rfl,rfl,rfl,rfl,L,⟨q,M⟩,d.hears,?_,d.known⟩;have l:∀i,i=0\/(dz (λ_=>az.bot) 0 k i=az.bot/\dz (λ_=>au.bot) 0 O i=au.bot):=(by grind [aK]);refine⟨λi=>?_,λi j b x m s=>?_,λi j b n v m G=>?_,λi n a p B=>?_,d.clean,d.seen,λn a p B=>?_,AK _,λn g V R C D=>d.over n g R C D,λa p=>?_,λr S=>?_,A,λi b x s=>?_⟩
 . rcases l i with rfl|⟨u,f⟩
   . grind [aD]
   . rw[u,f]
     exact⟨λ_ _ _ h=>(by cases h),λ_ _ _ h=>(by cases h),λ_ _ h=>(by cases h),λ_ _ h=>(by cases h),λ_ _ h=>(by cases h),λ_ _ h=>(by cases h)⟩
 . rcases l i with rfl|⟨_,e⟩
   . rw[aK _ _ (vj m)];rfl
   . rw[e]at s;cases s
 . rcases l j with rfl|⟨e,_⟩
   . rw[aK _ _ m];exact iR (y8 b)
   . rw[e]at G;cases G
 . have c:=F5 d.seen p
   have H:wj az.bot au.bot w.heap.size a:=by
    unfold wj;split
    . next W E=>rw[E]at c;exact⟨c,iR (y8 _),.inl rfl⟩
    . next r E=>rw[E]at c;exact⟨c,λo z=>by cases z⟩
    grind
   rcases l i with rfl|⟨u,f⟩
   . rw[aD,aD]
     rcases d.known n a p B with y|⟨y,I⟩
     . grind [wo]
     . refine .inr ?_
       unfold wj
       grind
   grind
 . rcases d.known n a p B with y|⟨y,I⟩
   . grind
   . refine .inr (.inr (.inr ⟨y,I,λ_=>?_⟩))
     obtain⟨x,s,_⟩:=touch_of p
     grind
 . obtain⟨F,T,X⟩:=z a p
   refine⟨F,λi=>?_⟩;rcases l i with rfl|⟨u,f⟩
   . grind [aD]
   . rw[u,f];exact⟨iR (y8 _),rfl⟩
 . obtain⟨F,T⟩:=N r S
   refine⟨F,λi o J=>?_⟩;rcases l i with rfl|⟨u,f⟩
   . simp_all [aD]
   . rw[f]at J;cases J
 . rcases l i with rfl|⟨_,f⟩
   . simp_all [aD]
   . rw[f]at s;cases s
def dX.finish{P g gs q}(h:dX Z kk OO (λ_=>False) (λ_=>False) w t)(m:gs[0]?=some g)(o:Leavers P t gs q)(hd:Deaf t 0=0):iz P Z.W0 (kk 0) (OO 0) g gs w t:=by
 refine⟨Z.na,q,m,o,⟨h.clean,λn a c d=>?_,λn s j e f=>?_,hd,h.seen⟩,λa c=>?_,λr k=>?_,h.sat 0,h.Fo,h.mine 0⟩
 . rcases h.acc n a c d with b|⟨_,b,_⟩|⟨_,b,_⟩|⟨b,x,_⟩
   . grind
   . grind
   . grind
   grind
 . by_cases u:n<Z.N0
   . exact h.Dl n s u j e f
   . have v:=f
     obtain⟨a,c,d,_⟩:=f;rcases h.acc n a c d with b|⟨_,b,_⟩|⟨_,b,_⟩|⟨_,_,b⟩
     . obtain⟨p,z,l,i,hb⟩:=b
       rcases hb with rfl|hb
       . rw[Trace.g?,l]at j
         grind
       . exact⟨p,by simp[Trace.g?,l,i],hb⟩
     . grind
     . grind
     grind
 . exact⟨(h.rp a c).1,((h.rp a c).2 0).1,((h.rp a c).2 0).2⟩
 . exact⟨(h.vH r k).1,(h.vH r k).2 0⟩
def dX.zc(h:dX Z kk OO J M w t)(S:Loc->Prop)(c:∀a,S (.cell a)->a.block<w.heap.size/\∀i,¬bS (OO i) a.block a.off/\(kk i).cell a.block a.off=none)(f:∀r,¬S (.obj r)):
 dX ⟨λl=>Z.na l\/S l,Z.N0,Z.lk,Z.la,Z.W0⟩ kk OO J M w t:=
 ⟨h.sat,h.om,h.tW,h.Hr,h.clean,h.seen,λn a b d=>(h.acc n a b d).imp id am,h.n0,h.Dl,
   λa b=>b.elim (h.rp a) (c a),λr e=>e.elim (h.vH r) am,h.Fo,h.mine⟩
end
def qg(u:Trace):Prop:=∀op∈u,op.act≠.mark .disable/\op.act≠.mark .enable
theorem AP{t u}(a:qg u)  g :∀m,m<=u.size->(t++u).deaf g (t.size+m)=Deaf t g
 |0,_=>deaf_old (AK _)
 | m+1,h=>by
   have b:(t++u)[t.size+m]?=some u[m]:=am
   rw[<-Nat.add_assoc,deaf_succ b,AP a g m ac];have:=a u[m] am;unfold deafStep
   grind
theorem dH{t u}(a:qg u)  g :Deaf (t++u) g=Deaf t g:=by
 have:=AP (t:=t) a g u.size (AK _);unfold Deaf at *
 grind
theorem kV{t u:Trace}{m op}(h:u[m]?=some op):(t++u)[t.size+m]?=some op:=am
def heard_new{t u}(a:qg u){m op}(h:u[m]?=some op)(hd:Deaf t op.g=0):(t++u).heard (t.size+m):=by exact⟨op.g,by simp[Trace.g?,kV h],by grind [AP]⟩
section
variable{t u:Trace}{i j n:Nat}
def rq(a:Knows t i n){m op}(h:u[m]?=some op)(b:op.g=i):Before (t++u) n (t.size+m):=.inr (a.hb_new ac (kV h) b)
def aiS(a:qg u){c k m1 m2:Nat}{x y}(b:u[m1]?=some x)(d:u[m2]?=some y)(l:x.act=.send c k)(m:y.act=.recvDone c k)(e:Deaf t x.g=0)(f:Deaf t y.g=0)(h:Knows t x.g n):Knows (t++u) y.g n:=by
 have i:=rq h b rfl;have j:HappensBefore _ _ _:=.single (.inr ⟨.handOver (c:=c) (k:=k) (by grind [act?_of]) (by grind [act?_of]),heard_new a b e,heard_new a d f⟩);exact⟨t.size+m2,y,kV d,rfl,i.trans (.inr j)⟩
def ajn(d:qg u){c m p:Nat}{y}(b:u[m]?=some y)(e:t.act? p=some (.close c))(f:t.heard p)(j:y.act=.recvClosed c)(h:Deaf t y.g=0)(hb:Before t n p):Knows (t++u) y.g n:=by
 have a:=lt_of_act? e;have i:HappensBefore _ p _:=.single (.inr ⟨.closed (c:=c) (by grind [act?_old]) (by grind [act?_of]),(heard_old a).2 f,heard_new d b h⟩);exact⟨t.size+m,y,kV b,rfl,(hb.app u).trans (.inr i)⟩
def BP(b:qg u){c m1 m2:Nat}{x y}(d:u[m1]?=some x)(a:u[m2]?=some y)(k:x.act=.go y.g)(l:y.act=.start)(e:Deaf t x.g=0)(f:Deaf t y.g=0)(h:Knows t x.g n):Knows (t++u) y.g n:=by
 have i:=rq h d rfl;have j:HappensBefore _ _ _:=.single (.inr ⟨.spawn (child:=y.g) (by grind [act?_of]) (by grind [act?_of]) (by simp[Trace.g?,kV a]),heard_new b d e,heard_new b a f⟩);exact⟨t.size+m2,y,kV a,rfl,i.trans (.inr j)⟩
end
def tx{t u}(d:qg u){a}{m p n:Nat}{y}(c:u[m]?=some y)(l:y.act=.mark (.acquire a))(e:Deaf t y.g=0)(f:t.act? p=some (.mark (.releaseMerge a)))(h:t.heard p)(i:∀k,p<k->(t++u).act? k≠some (.mark (.release a)))(hb:Before t n p):Knows (t++u) y.g n:=by
 have b:=lt_of_act? f;have j:HappensBefore _ p _:=.single (.inr ⟨.marked (a:=a) ac (by grind [act?_old]) (by grind [act?_of]) am,(heard_old b).2 h,heard_new d c e⟩);exact⟨t.size+m,y,kV c,rfl,(hb.app u).trans (.inr j)⟩
def Dp{k O B es}(h:∀e∈es.toList,nY k O B e)  g   fn   pos :qg (MemOp.ofEvents g fn pos es):=λop a=>by
 obtain⟨e,c,rfl⟩:=zj a;have:=h e aq;obtain⟨loc,wr,b⟩:=e;cases loc with
 |cell d=>simp[MemAct.ofEvent]
 |obj r=>cases wr<;>cases b<;>simp[MemAct.ofEvent]
 |mark m=>simp  [nY]at this;cases m<;>simp_all [pG,tp,MemAct.ofEvent]
 |_=>simp[nY]at this
end Go.bu
namespace Go.bu.Mu
structure Wd where
 L:Bool
 K:Bool
 S:Bool
 N:Nat
 deriving DecidableEq
def Wd.zero:Wd:=⟨false,false,false,0⟩
structure Lo where
 aw:Bool
 sv:Bool
 it:Nat
 deriving DecidableEq
inductive Pc where
 |out
 |mE
 |rd (l:Lo)
 |sq (old:Wd) (l:Lo)
 |sw (old:Wd) (l:Lo)
 |qe (old:Wd) (l:Lo)
 |lx (sv:Bool)
 |tq
 |up (sv:Bool)
 |add (old:Wd) (sv:Bool)
 |held
 |nZ (old:Wd)
 |Cl
 |give
 |bad
 deriving DecidableEq
def hd(old:Wd)(l:Lo):List Pc:=(if old.L && !old.S && decide (l.it<4)then[if !l.aw && !old.K && decide (old.N≠0)then .sw old l else .rd {l with it:=l.it+1}]else[])++[.qe old l]
def nx(old:Wd)(l:Lo):Pc:=if old.L && !old.S then .sq old l else .qe old l
def wq(old:Wd)(l:Lo):Wd:=⟨old.L||!old.S,if l.aw then false else old.K,old.S||(l.sv && old.L),if old.L||old.S then old.N+1 else old.N⟩
structure Sh where
 w:Wd
 ms:Nat
 deriving DecidableEq
def mv(p:Pc)(s:Sh):List (Pc × Sh):=
 match p with
 |.out=>[]
 |.mE=>if s.w=.zero then[(.held,{s with w:={Wd.zero with L:=true}})]else[(.rd ⟨false,false,0⟩,s)]
 |.rd l=>[(nx s.w l,s)]
 |.sq old l=>(hd old l).map (·,s)
 |.sw old l=>if s.w=old then[(.rd {l with aw:=true,it:=l.it+1},{s with w:={old with K:=true}})]else[(.rd {l with it:=l.it+1},s)]
 | .qe old l=>
   if l.aw && !old.K then[(.bad,s)]else
   if s.w=old then[(if old.L||old.S then .lx l.sv else .held,{s with w:=wq old l})]else[(.rd l,s)]
 |.lx sv=>if s.ms=0 then[]else[(if sv then .up true else .tq,{s with ms:=s.ms-1})]
 |.tq=>[(.up false,s),(.up true,s)]
 |.up sv=>if s.w.S then(if s.w.L||s.w.K||decide (s.w.N=0)then[(.bad,s)]else[(.add s.w sv,s)])else[(nx s.w ⟨true,sv,0⟩,s)]
 |.add old sv=>[(.held,{s with w:={s.w with L:=true,S:=s.w.S && !(!sv||decide (old.N=1)),N:=s.w.N-1}})]
 | .held=>
   let w:={s.w with L:=false}
   if s.w.L=false then[(.bad,s)]else
   [(if w=.zero then .out else if w.S then .give else if decide (w.N=0)||w.K then .out else .nZ w,{s with w})]
 |.nZ old=>if s.w=old then[(.give,{s with w:={old with K:=true,N:=old.N-1}})]else[(.Cl,s)]
 |.Cl=>[(if decide (s.w.N=0)||s.w.L||s.w.K||s.w.S then .out else .nZ s.w,s)]
 |.give=>[(.out,{s with ms:=s.ms+1})]
 |.bad=>[]
def tot(n:Nat)(f:Ct):Nat:=match n with
 |0=>0
 |n+1=>tot n f+f n
def set(pcs:Nat->Pc)(i:Nat)(p:Pc):Nat->Pc:=λj=>if j=i then p else pcs j
theorem aj  pcs   i   p :set pcs i p i=p:=by simp[set]
theorem ah  pcs  {i j}  p  (h:j≠i):set pcs i p j=pcs j:=by simp[set,h]
theorem AQ{f g}:∀{n},(∀i,i<n->f i=g i)->tot n f=tot n g
 |0,_=>rfl
 |n+1,h=>by rw[tot,tot,AQ  λi a=>h i ac,h n ac]
def kW(f:Pc->Nat)  pcs   i   p :∀{n},i<n->tot n (λj=>f (set pcs i p j))+f (pcs i)=tot n (λj=>f (pcs j))+f p
 |0,h=>ac
 | n + 1,h=>by
   by_cases e:i=n
   . subst e
     rw[tot,tot,aj,AQ  λj a=>by rw[ah pcs p (show j≠i by omega)]];omega
   . have:=kW f pcs i p (n:=n) ac
     rw[tot,tot,ah pcs p (show n≠i by omega)];omega
theorem pe  f  {i}:∀{n},i<n->f i<=tot n f
 |0,h=>ac
 | n+1,h=>by
   rw[tot];by_cases e:i=n
   . grind
   . have:=pe f (n:=n) (i:=i) ac;omega
def Jf{f}:∀{n},tot n f=0->∀i,i<n->f i=0
 |0,_,i,a=>ac
 | n+1,h,i,a=>by
   rw[tot]at h;by_cases e:i=n
   . grind
   . exact Jf (n:=n) ac i ac
def dQ:Pc->Nat|.held=>1|_=>0
def kB:Pc->Nat|.rd l=>l.aw.toNat|.sq _ l=>l.aw.toNat|.sw _ l=>l.aw.toNat|.qe _ l=>l.aw.toNat|_=>0
def eH:Pc->Nat|.lx _=>1|_=>0
def eI:Pc->Nat|.give=>1|_=>0
def tz:Pc->Nat|.tq=>1|.up _=>1|_=>0
def gz:Pc->Nat|.add _ _=>1|_=>0
def mF:Pc->Nat|.nZ _=>1|.Cl=>1|_=>0
def loc:Pc->Prop
 |.rd l=>(l.sv=true->l.aw=true)/\l.it<=4
 |.sq old l=>(l.aw=true->old.K=true)/\(l.sv=true->l.aw=true)/\l.it<=4/\old.L=true/\old.S=false
 |.sw old l=>l.aw=false/\l.sv=false/\old.L=true/\old.S=false/\old.K=false/\l.it<4
 |.qe old l=>(l.aw=true->old.K=true)/\(l.sv=true->l.aw=true)/\l.it<=4
 |.nZ old=>old.L=false/\old.K=false/\old.S=false/\old.N≠0
 |.bad=>False
 |_=>True
structure Inv0  n  (pcs:Nat->Pc) (s:Sh):Prop where
 j0:∀i,i<n->loc (pcs i)
 j1:tot n (λi=>dQ (pcs i))=s.w.L.toNat
 j2:s.w.S=false->tot n (λi=>kB (pcs i))+tot n (λi=>eI (pcs i))+s.ms+tot n (λi=>tz (pcs i))=s.w.K.toNat/\tot n (λi=>gz (pcs i))=0/\tot n (λi=>eH (pcs i))=s.w.N+tot n (λi=>eI (pcs i))+s.ms
 j3:s.w.S=true->s.w.K=false/\tot n (λi=>kB (pcs i))=0/\tot n (λi=>eI (pcs i))+s.ms+tot n (λi=>tz (pcs i))+tot n (λi=>gz (pcs i))=(!s.w.L).toNat/\tot n (λi=>eH (pcs i))+tot n (λi=>tz (pcs i))+tot n (λi=>gz (pcs i))=s.w.N
 j4:s.w.L=false->s.w.K=false->s.w.S=false->s.w.N≠0->0<tot n (λi=>mF (pcs i))
def ZH{old l}(a:l.sv=true->l.aw=true)(d:l.it<=4)(e:l.aw=true->old.K=true){p}(h:p∈hd old l):loc p/\kB p=l.aw.toNat/\dQ p=0/\eH p=0/\eI p=0/\tz p=0/\gz p=0/\mF p=0:=by
 obtain⟨aw,sv,it⟩:=l;unfold hd at h;simp only[E4,sN]at h;rcases h with h|rfl
 . split at h
   . rename_i b
     simp at b;simp only[sN]at h;subst h;split
     . rename_i c
       simp at c;obtain⟨⟨f,g⟩,i⟩:=c;subst f;have:sv=false:=am
       simp[loc,kB,dQ,eH,eI,tz,gz,mF,b,this,g]
     . exact⟨⟨a,am⟩,rfl,rfl,rfl,rfl,rfl,rfl,rfl⟩
   grind
 . exact⟨⟨e,a,d⟩,rfl,rfl,rfl,rfl,rfl,rfl,rfl⟩
def RX{old l}(a:l.sv=true->l.aw=true)(b:l.it<=4)(c:l.aw=true->old.K=true):loc (nx old l)/\kB (nx old l)=l.aw.toNat/\dQ (nx old l)=0/\eH (nx old l)=0/\eI (nx old l)=0/\tz (nx old l)=0/\gz (nx old l)=0/\mF (nx old l)=0:=by
 unfold nx;split
 . rename_i h
   simp at h;exact⟨⟨c,a,b,h.1,h.2⟩,rfl,rfl,rfl,rfl,rfl,rfl,rfl⟩
 . exact⟨⟨c,a,b⟩,rfl,rfl,rfl,rfl,rfl,rfl,rfl⟩
set_option maxHeartbeats 2000000 in
def Inv0.step{n pcs s s' i q}(h:Inv0 n pcs s)(hi:i<n)(a:(q,s')∈mv (pcs i) s):Inv0 n (set pcs i q) s':=by
 have H:=kW dQ pcs i q hi;have A:=kW kB pcs i q hi;have P:=kW eH pcs i q hi;have G:=kW eI pcs i q hi;have U:=kW tz pcs i q hi;have D:=kW gz pcs i q hi;have R:=kW mF pcs i q hi;have J:=pe (λj=>dQ (pcs j)) hi
 have M:=pe (λj=>kB (pcs j)) hi
 have V:=pe (λj=>eH (pcs j)) hi
 have O:=pe (λj=>eI (pcs j)) hi
 have C:=pe (λj=>tz (pcs j)) hi
 have Q:=pe (λj=>gz (pcs j)) hi
 have E:=pe (λj=>mF (pcs j)) hi
 have y:=h.j0 i hi;obtain⟨⟨d,f,g,W⟩,ms⟩:=s;have j1:=h.j1;have j2:=h.j2;have j3:=h.j3;have j4:=h.j4;simp only at j1 j2 j3 j4
 have key:∀(m:Wd) (t:Nat),s'=⟨m,t⟩->loc q->(tot n (λj=>dQ (set pcs i q j))=m.L.toNat) ->
  (m.S=false->tot n (λj=>kB (set pcs i q j))+tot n (λj=>eI (set pcs i q j))+t+tot n (λj=>tz (set pcs i q j))=m.K.toNat/\tot n (λj=>gz (set pcs i q j))=0/\tot n (λj=>eH (set pcs i q j))=m.N+tot n (λj=>eI (set pcs i q j))+t) ->
  (m.S=true->m.K=false/\tot n (λj=>kB (set pcs i q j))=0/\tot n (λj=>eI (set pcs i q j))+t+tot n (λj=>tz (set pcs i q j))+tot n (λj=>gz (set pcs i q j))=(!m.L).toNat/\tot n (λj=>eH (set pcs i q j))+tot n (λj=>tz (set pcs i q j))+tot n (λj=>gz (set pcs i q j))=m.N) ->
  (m.L=false->m.K=false->m.S=false->m.N≠0->0<tot n (λj=>mF (set pcs i q j)))->Inv0 n (set pcs i q) s':=by
  rintro m t rfl F o v r z
  refine⟨λj hj=>?_,o,v,r,z⟩
  by_cases e:j=i
  . subst e;rw[aj];exact F
  . rw[ah pcs q e];exact h.j0 j hj
 generalize hp:pcs i=p at *;generalize tot n (λj=>dQ (set pcs i q j))=H' at *
 generalize tot n (λj=>kB (set pcs i q j))=A' at *
 generalize tot n (λj=>eH (set pcs i q j))=P' at *
 generalize tot n (λj=>eI (set pcs i q j))=G' at *
 generalize tot n (λj=>tz (set pcs i q j))=U' at *
 generalize tot n (λj=>gz (set pcs i q j))=D' at *
 generalize tot n (λj=>mF (set pcs i q j))=R' at *
 generalize tot n (λj=>dQ (pcs j))=H0 at *
 generalize tot n (λj=>kB (pcs j))=A0 at *
 generalize tot n (λj=>eH (pcs j))=P0 at *
 generalize tot n (λj=>eI (pcs j))=G0 at *
 generalize tot n (λj=>tz (pcs j))=U0 at *
 generalize tot n (λj=>gz (pcs j))=D0 at *
 generalize tot n (λj=>mF (pcs j))=R0 at *
 cases p with
 |out=>simp[mv]at a
 |bad=>simp[mv]at a
 | mE=>
   simp only[mv]at a;split at a
   . rename_i c
     simp only[Wd.zero,Wd.mk.injEq]at c;obtain⟨rfl,rfl,rfl,rfl⟩:=c;simp only[sN,zG]at a;obtain⟨rfl,rfl⟩:=a;refine key _ _ rfl trivial ?_ ?_ ?_ ?_<;>simp[dQ,kB,eH,eI,tz,gz,mF,Wd.zero]at *<;>omega
   . simp only[sN,zG]at a
     obtain⟨rfl,rfl⟩:=a;refine key _ _ rfl (by simp[loc]) ?_ ?_ ?_ ?_<;>simp[dQ,kB,eH,eI,tz,gz,mF,Wd.zero]at *<;>cases d<;>cases f<;>cases g<;>simp at *<;>omega
 | rd l=>
   simp only[mv,sN,zG]at a;obtain⟨rfl,rfl⟩:=a
   have X:l.aw=true->f=true:=λha=>by
    simp[kB,ha]at M;cases g
    . have:=(j2 rfl).1
      cases f
      . simp at this;omega
      . rfl
    . have:=(j3 rfl).2.1;omega
   obtain⟨F,o,v,r,z,Y,Z,k7⟩:=RX (old:=⟨d,f,g,W⟩) y.1 y.2 X;rw[o]at A;rw[v]at H;rw[r]at P;rw[z]at G;rw[Y]at U;rw[Z]at D;rw[k7]at R;refine key _ _ rfl F ?_ ?_ ?_ ?_<;>simp[dQ,kB,eH,eI,tz,gz,mF]at H A P G U D R ⊢<;>cases d<;>cases f<;>cases g<;>simp at j1 j2 j3 j4 ⊢<;>omega
 |sq old l=>simp only[mv,CR,zG]at a;obtain⟨q',k,rfl,rfl⟩:=a;obtain⟨F,o,v,r,z,Y,Z,k7⟩:=ZH y.2.1 y.2.2.1 y.1 k;rw[o]at A;rw[v]at H;rw[r]at P;rw[z]at G;rw[Y]at U;rw[Z]at D;rw[k7]at R;refine key _ _ rfl F ?_ ?_ ?_ ?_<;>simp[dQ,kB,eH,eI,tz,gz,mF]at H A P G U D R ⊢<;>cases d<;>cases f<;>cases g<;>simp at j1 j2 j3 j4 ⊢<;>omega
 | sw old l=>
   obtain⟨oL,oK,oS,oN⟩:=old;obtain⟨w,x,B,T,h5,h6⟩:=y;obtain⟨aw,sv,it⟩:=l;simp only at w x B T h5 h6;subst w;subst x;subst B;subst T;subst h5;simp only[mv]at a;split at a
   . rename_i c
     simp only[Wd.mk.injEq]at c;obtain⟨rfl,rfl,rfl,rfl⟩:=c;simp only[sN,zG]at a;obtain⟨rfl,rfl⟩:=a;refine key _ _ rfl (by simp[loc];omega) ?_ ?_ ?_ ?_<;>simp[dQ,kB,eH,eI,tz,gz,mF]at *<;>omega
   . simp only[sN,zG]at a
     obtain⟨rfl,rfl⟩:=a;refine key _ _ rfl (by simp[loc];omega) ?_ ?_ ?_ ?_<;>simp[dQ,kB,eH,eI,tz,gz,mF]at H A P G U D R ⊢<;>cases d<;>cases f<;>cases g<;>simp at j1 j2 j3 j4 ⊢<;>omega
 | qe old l=>
   obtain⟨oL,oK,oS,oN⟩:=old;obtain⟨w,x,B⟩:=y;obtain⟨aw,sv,it⟩:=l;simp only at w x B;simp only[mv]at a;split at a
   . rename_i c
     simp at c;have:=w c.1;rw[this]at c;simp at c
   split at a
   . rename_i c
     simp only[Wd.mk.injEq]at c;obtain⟨rfl,rfl,rfl,rfl⟩:=c;simp only[sN,zG]at a;obtain⟨k,rfl⟩:=a;cases aw<;>cases sv<;>simp only[zA,false_implies,true_implies,imp_false,not_true]at x
     all_goals cases d<;>cases g<;>simp at k<;>subst k
     all_goals refine key _ _ rfl (by simp[loc]) ?_ ?_ ?_ ?_<;>simp[dQ,kB,eH,eI,tz,gz,mF,wq]at H A P G U D R J M V O C Q E ⊢<;>cases f<;>simp at j1 j2 j3 j4 w ⊢<;>omega
   . simp only[sN,zG]at a
     obtain⟨rfl,rfl⟩:=a;refine key _ _ rfl ⟨x,B⟩ ?_ ?_ ?_ ?_<;>simp[dQ,kB,eH,eI,tz,gz,mF]at H A P G U D R ⊢<;>cases d<;>cases f<;>cases g<;>simp at j1 j2 j3 j4 ⊢<;>omega
 | lx sv=>
   simp only[mv]at a;split at a
   . simp at a
   . rename_i c
     simp only[sN,zG]at a;obtain⟨rfl,rfl⟩:=a;cases sv
     all_goals refine key _ _ rfl trivial ?_ ?_ ?_ ?_<;>simp[dQ,kB,eH,eI,tz,gz,mF]at H A P G U D R J M V O C Q E ⊢<;>cases d<;>cases f<;>cases g<;>simp at j1 j2 j3 j4 ⊢<;>omega
 | tq=>
   simp only[mv,Cv,zG,LY,or_false]at a
   rcases a with⟨rfl,rfl⟩|⟨rfl,rfl⟩
   all_goals refine key _ _ rfl trivial ?_ ?_ ?_ ?_<;>simp[dQ,kB,eH,eI,tz,gz,mF]at H A P G U D R J M V O C Q E ⊢<;>cases d<;>cases f<;>cases g<;>simp at j1 j2 j3 j4 ⊢<;>omega
 | up sv=>
   simp only[mv]at a;split at a
   . rename_i c
     subst c;obtain⟨o,v,r,z⟩:=j3 rfl;simp[tz]at C;have I:d=false:=by cases d<;>simp at r ⊢;omega
     subst I;subst o;have hN:W≠0:=ac
     simp only[Bool.false_or,hN,decide_false,zA,LK,sN,zG]at a;obtain⟨rfl,rfl⟩:=a;refine key _ _ rfl trivial ?_ ?_ ?_ ?_<;>simp[dQ,kB,eH,eI,tz,gz,mF]at H A P G U D R r j1 ⊢<;>omega
   . rename_i c
     simp at c;subst c;simp only[sN,zG]at a;obtain⟨rfl,rfl⟩:=a;obtain⟨o,v,r⟩:=j2 rfl;simp[tz]at C;have X:f=true:=by cases f<;>simp at o ⊢;omega
     subst X;obtain⟨l0,l1,l2,l3,l4,l5,l6,l7⟩:=RX (l:=⟨true,sv,0⟩) (old:=⟨d,true,false,W⟩) (λ_=>rfl) ap (λ_=>rfl)
     rw[l1]at A;rw[l2]at H;rw[l3]at P;rw[l4]at G;rw[l5]at U;rw[l6]at D;rw[l7]at R;refine key _ _ rfl l0 ?_ ?_ ?_ ?_<;>simp[dQ,kB,eH,eI,tz,gz,mF]at H A P G U D R o ⊢<;>cases d<;>simp at j1 j4 ⊢<;>omega
 | add old sv=>
   simp only[mv,sN,zG]at a;obtain⟨rfl,rfl⟩:=a;simp[gz]at Q
   have hS:g=true:=by
    cases g with
    |true=>rfl
    |false=>have:=(j2 rfl).2.1;omega
   subst hS;obtain⟨o,v,r,z⟩:=j3 rfl;have I:d=false:=by cases d<;>simp at r ⊢;omega
   subst I;subst o;generalize hb:(true && !(!sv||decide (old.N=1)))=b at key ⊢
   refine key _ _ rfl trivial ?_ ?_ ?_ ?_<;>simp[dQ,kB,eH,eI,tz,gz,mF]at H A P G U D R r j1 ⊢<;>cases b<;>(try simp)<;>omega
 | held=>
   simp[dQ]at J;have I:d=true:=by cases d<;>simp at j1 ⊢;omega
   subst I;simp only[mv,ML,LK,sN,zG]at a;obtain⟨k,rfl⟩:=a;split at k
   . rename_i c
     simp only[Wd.zero,Wd.mk.injEq,true_and]at c;obtain⟨rfl,rfl,rfl⟩:=c;subst k;refine key _ _ rfl trivial ?_ ?_ ?_ ?_<;>simp[dQ,kB,eH,eI,tz,gz,mF]at *<;>omega
   split at k
   . rename_i c
     have c:g=true:=c;subst c;subst k;obtain⟨o,v,r,z⟩:=j3 rfl;subst o;refine key _ _ rfl trivial ?_ ?_ ?_ ?_<;>simp[dQ,kB,eH,eI,tz,gz,mF]at H A P G U D R j1 r ⊢<;>omega
   split at k
   . rename_i a7 u c
     simp at u;subst u;subst k;refine key _ _ rfl trivial ?_ ?_ ?_ ?_<;>simp[dQ,kB,eH,eI,tz,gz,mF]at *<;>cases f<;>simp at *<;>omega
   . rename_i a7 u c
     simp at u c;subst u;subst k;refine key _ _ rfl (by simp[loc,c]) ?_ ?_ ?_ ?_<;>simp[dQ,kB,eH,eI,tz,gz,mF]at *<;>simp[c]at *<;>omega
 | nZ old=>
   obtain⟨oL,oK,oS,oN⟩:=old;obtain⟨w,x,B,T⟩:=y;simp only at w x B T;subst w;subst x;subst B;simp only[mv]at a;split at a
   . rename_i c
     simp only[Wd.mk.injEq]at c;obtain⟨rfl,rfl,rfl,rfl⟩:=c;simp only[sN,zG]at a;obtain⟨rfl,rfl⟩:=a;refine key _ _ rfl trivial ?_ ?_ ?_ ?_<;>simp[dQ,kB,eH,eI,tz,gz,mF]at *<;>omega
   . simp only[sN,zG]at a
     obtain⟨rfl,rfl⟩:=a;refine key _ _ rfl trivial ?_ ?_ ?_ ?_<;>simp[dQ,kB,eH,eI,tz,gz,mF]at H A P G U D R E ⊢<;>cases d<;>cases f<;>cases g<;>simp at j1 j2 j3 j4 ⊢<;>omega
 | Cl=>
   simp only[mv,sN,zG]at a;obtain⟨k,rfl⟩:=a;split at k
   . rename_i c
     subst k;refine key _ _ rfl trivial ?_ ?_ ?_ ?_<;>simp[dQ,kB,eH,eI,tz,gz,mF]at H A P G U D R E c ⊢<;>cases d<;>cases f<;>cases g<;>simp at j1 j2 j3 j4 c ⊢<;>omega
   . rename_i c
     simp at c;subst k;obtain⟨⟨⟨z1,z2⟩,z3⟩,z4⟩:=c;subst z2;subst z3;subst z4;refine key _ _ rfl (by simp[loc,z1]) ?_ ?_ ?_ ?_<;>simp[dQ,kB,eH,eI,tz,gz,mF]at *<;>omega
 |give=>simp only[mv,sN,zG]at a;obtain⟨rfl,rfl⟩:=a;refine key _ _ rfl trivial ?_ ?_ ?_ ?_<;>simp[dQ,kB,eH,eI,tz,gz,mF]at H A P G U D R O ⊢<;>cases d<;>cases f<;>cases g<;>simp at j1 j2 j3 j4 ⊢<;>omega
structure Inv  n   pcs   s :Prop extends Inv0 n pcs s where
 j5:s.w.S=true->s.w.N≠0
 j6:∀i,i<n->∀old sv,pcs i=.add old sv->old.N<=s.w.N/\old.N≠0
def Inv0.YE{n pcs s}(h:Inv0 n pcs s){i}(hi:i<n){old sv}(a:pcs i=.add old sv):s.w.S=true/\tot n (λi=>gz (pcs i))<=1:=by
 have c:gz (pcs i)=1:=by rw[a];rfl
 have d:gz (pcs i)<=tot n (λi=>gz (pcs i)):=(by grind [pe])
 cases e:s.w.S with
 |true=>refine⟨rfl,?_⟩;have:=(h.j3 e).2.2.1;cases b:s.w.L<;>rw[b]at this<;>simp at this<;>omega
 |false=>have:=(h.j2 e).2.1;omega
def Inv0.add_one{n pcs s}(h:Inv0 n pcs s){i l}(hi:i<n)(g:l<n){old a sv b}(d:pcs i=.add old sv)(c:pcs l=.add a b):i=l:=by
 by_cases e:i=l
 . exact e
 . have k:=(h.YE hi d).2
   have m:=kW gz pcs i .out hi;have f:gz (set pcs i .out l)<=tot n (λj=>gz (set pcs i .out j)):=(by grind [pe])
   rw[ah pcs Pc.out (vj e)]at f;have o:gz (pcs i)=1:=by rw[d];rfl
   have p:gz (pcs l)=1:=by rw[c];rfl
   have q:gz .out=0:=rfl;omega
def Inv.step{n pcs s s' i q}(h:Inv n pcs s)(hi:i<n)(b:(q,s')∈mv (pcs i) s):Inv n (set pcs i q) s':=by
 have j:=h.j0 i hi
 have key:(s'.w.S=true->s'.w.N≠0)/\(s.w.N<=s'.w.N\/(∃old sv,pcs i=.add old sv)\/s.w.S=false)/\(∀old sv,q=.add old sv->old.N<=s'.w.N/\old.N≠0):=by
  have f:=h.j5;have k:=h.j6 i hi;revert b j k;cases pcs i with
  |out=>intro b;simp[mv]at b
  |bad=>intro b;simp[mv]at b
  | mE=>
    intro b _ _;simp only[mv]at b
    grind
  |rd l=>intro b _ _;simp[mv]at b;obtain⟨rfl,rfl⟩:=b;exact⟨f,ac,λold sv h=>by unfold nx at h;grind⟩
  | sq o l=>
    intro b _ _;simp only[mv,CR,zG]at b;obtain⟨a,m,rfl,rfl⟩:=b;refine⟨f,ac,λold sv h=>?_⟩;subst h;unfold hd at m
    grind
  | sw o l=>
    intro b _ _;simp only[mv]at b
    grind
  | qe o l=>
    intro b _ _;simp only[mv]at b;split at b
    . grind
    . split at b
      . rename_i p
        simp at b;obtain⟨rfl,rfl⟩:=b;rw[p]at f ⊢;refine⟨λh=>?_,.inl ?_,am⟩
        . unfold wq at h ⊢
          grind
        . unfold wq
          grind
      grind
  | lx sv=>
    intro b _ _;simp only[mv]at b
    grind
  | tq=>
    intro b _ _;simp[mv]at b
    grind
  | up sv=>
    intro b _ _;simp only[mv]at b;split at b
    . grind
    . simp at b;obtain⟨rfl,rfl⟩:=b
      exact⟨f,ac,λold sv h=>by unfold nx at h;grind⟩
  |add o sv=>intro b _ k;simp[mv]at b;grind
  | held=>
    intro b _ _;simp only[mv]at b
    grind
  | nZ o=>
    intro b j _;simp only[mv]at b;split at b
    . have u:o.S=false:=j.2.2.1
      grind
    grind
  |Cl=>intro b _ _;simp only[mv,sN,zG]at b;grind
  |give=>intro b _ _;simp[mv]at b;grind
 obtain⟨r,d,v⟩:=key;refine⟨h.toInv0.step hi b,r,λl c old sv g=>?_⟩;by_cases e:l=i
 . grind [aj]
 . rw[ah pcs q e]at g
   obtain⟨x,y⟩:=h.j6 l c old sv g;rcases d with d|⟨o,t,d⟩|d
   . omega
   . exact absurd (h.toInv0.add_one hi c d g) (vj e)
   . rw[(h.toInv0.YE c g).1]at d;grind
theorem Hu:∀n ,tot n (λ_=>0)=0
 |0=>rfl
 |n+1=>by rw[tot,Hu n]
def Inv.rest{n pcs s}(h:Inv n pcs s)(l:∀i,i<n->pcs i=.out):s.w=.zero/\s.ms=0:=by
 have f:∀(F:Pc->Nat),F .out=0->tot n (λi=>F (pcs i))=0:=λF m=>by
  have:tot n (λi=>F (pcs i))=tot n (λ_=>0):=(by grind [AQ])
  grind [Hu]
 have L:s.w.L=false:=by
  have:=h.j1;rw[f dQ rfl]at this
  grind
 have S:s.w.S=false:=by
  cases e:s.w.S with
  |false=>rfl
  |true=>have:=(h.j3 e).2.2.2;rw[f eH rfl,f tz rfl,f gz rfl]at this;exact absurd this.symm (h.j5 e)
 obtain⟨g,o,j⟩:=h.j2 S;rw[f kB rfl,f eI rfl,f tz rfl]at g;rw[f eH rfl,f eI rfl]at j;have K:s.w.K=false:=am
 refine⟨?_,ac⟩;have N:s.w.N=0:=ac
 cases k:s.w with
 |mk a b c d=>rw[k]at L S K N;subst L;subst S;subst K;subst N;rfl
def lF:Pc->Nat
 |.out=>0
 |.mE=>6
 |.rd l=>if l.aw then 5 else 6
 |.sq _ l=>if l.aw then 5 else 6
 |.sw _ _=>6
 |.qe _ l=>if l.aw then 5 else 6
 |.lx _=>4
 |.tq=>5
 |.up _=>5
 |.add _ _=>5
 |.held=>3
 |.nZ _=>2
 |.Cl=>2
 |.give=>1
 |.bad=>0
def pf(w:Wd):Pc->Nat
 |.out=>0
 |.mE=>16
 |.rd l=>3+3*(4-l.it)
 |.sq old l=>if w=old then 2+3*(4-l.it)else 5+3*(4-l.it)
 |.sw old l=>if w=old then 1 else 4+3*(3-l.it)
 |.qe old l=>if w=old then 1 else 4+3*(4-l.it)
 |.lx _=>18
 |.tq=>17
 |.up _=>16
 |.add _ _=>1
 |.held=>1
 |.nZ old=>if w=old then 1 else 4
 |.Cl=>3
 |.give=>1
 |.bad=>0
def WH  w   p :pf w p<=18:=by cases p<;>simp[pf]<;>(try split)<;>omega
def LP{f c}(h:∀i,f i<=c):∀n,tot n f<=n*c
 |0=>by simp[tot]
 |n+1=>by have:=LP h n;have:=h n;rw[tot,Nat.succ_mul];omega
def phi(n:Nat)(pcs:Nat->Pc)(s:Sh):Nat:=tot n (λi=>lF (pcs i))+s.ms
def meas(n:Nat)(pcs:Nat->Pc)(s:Sh):Nat:=phi n pcs s*(18*n+1)+tot n (λi=>pf s.w (pcs i))
def WJ{p q s s'}(f:loc p)(h:(q,s')∈mv p s):lF q+s'.ms<lF p+s.ms\/(s'.w=s.w/\lF q+s'.ms<=lF p+s.ms/\pf s.w q<pf s.w p):=by
 have g:∀(old:Wd) (l:Lo) (q:Pc),q∈hd old l->lF q=lF (.rd l)/\pf s.w q<(if s.w=old then 2+3*(4-l.it)else 5+3*(4-l.it)):=λold l q b=>by
  unfold hd at b;simp only[E4,sN]at b
  rcases b with b|rfl
  . split at b
    . rename_i a
      simp at a;simp only[sN]at b;subst b;split
      . rename_i i
        simp at i;simp[lF,pf,i.1.1]
        grind
      . refine⟨rfl,?_⟩
        have:=a.2;simp[pf]
        grind
    grind
  . simp[lF,pf]
    grind
 have c:∀(l:Lo),lF (nx s.w l)=lF (.rd l)/\pf s.w (nx s.w l)<3+3*(4-l.it):=λl=>by unfold nx;split<;>simp[lF,pf]<;>omega
 cases p with
 |out=>simp[mv]at h
 |bad=>simp[mv]at h
 |mE=>simp only[mv]at h;split at h<;>simp only[sN,zG]at h<;>obtain⟨rfl,rfl⟩:=h<;>simp[lF,pf]
 |rd l=>simp only[mv,sN,zG]at h;obtain⟨rfl,rfl⟩:=h;obtain⟨d,e⟩:=c l;exact .inr ⟨rfl,ac,e⟩
 |sq old l=>simp only[mv,CR,zG]at h;obtain⟨k,b,rfl,rfl⟩:=h;obtain⟨d,e⟩:=g old l _ b;exact .inr ⟨rfl,by rw[d];exact AK _,e⟩
 | sw old l=>
   have j:=f.1;have m:=f.2.2.2.2.2;simp only[mv]at h;split at h<;>rename_i a<;>simp only[sN,zG]at h<;>obtain⟨rfl,rfl⟩:=h
   . simp[lF,pf]
   . refine .inr ⟨rfl,by simp[lF,j],?_⟩
     simp[pf,a]
 | qe old l=>
   simp only[mv]at h;split at h
   . rename_i a
     simp at a;have:=f.1 a.1
     grind
   split at h<;>rename_i a<;>simp only[sN,zG]at h
   . obtain⟨rfl,rfl⟩:=h
     left;split<;>simp only[lF]<;>split<;>omega
   . obtain⟨rfl,rfl⟩:=h
     exact .inr ⟨rfl,by simp[lF],by simp[pf,a]⟩
 | lx sv=>
   simp only[mv]at h;split at h
   . grind
   . simp only[sN,zG]at h
     obtain⟨rfl,rfl⟩:=h;cases sv<;>exact .inr ⟨rfl,by simp[lF];omega,by simp[pf]⟩
 | tq=>
   simp only[mv,Cv,zG,LY,or_false]at h
   rcases h with⟨rfl,rfl⟩|⟨rfl,rfl⟩<;>exact .inr ⟨rfl,by simp[lF],by simp[pf]⟩
 | up sv=>
   simp only[mv]at h;split at h
   . split at h<;>simp only[sN,zG]at h<;>obtain⟨rfl,rfl⟩:=h<;>exact .inr ⟨rfl,by simp[lF],by simp[pf]⟩
   . simp only[sN,zG]at h
     obtain⟨rfl,rfl⟩:=h;obtain⟨d,e⟩:=c ⟨true,sv,0⟩;refine .inr ⟨rfl,by rw[d];simp[lF],?_⟩
     have n:∀w,pf w (.up sv)=16:=λ_=>rfl
     grind
 |add old sv=>simp only[mv,sN,zG]at h;obtain⟨rfl,rfl⟩:=h;exact .inl (by simp[lF])
 | held=>
   simp only[mv]at h;left;split at h
   . simp only[sN,zG]at h;obtain⟨rfl,rfl⟩:=h;simp[lF]
   . simp only[sN,zG]at h
     obtain⟨rfl,rfl⟩:=h;split
     . simp[lF]
     split
     . simp[lF]
     split<;>simp[lF]
 | nZ old=>
   simp only[mv]at h;split at h<;>rename_i a<;>simp only[sN,zG]at h<;>obtain⟨rfl,rfl⟩:=h
   . simp[lF]
   . exact .inr ⟨rfl,by simp[lF],by simp[pf,a]⟩
 | Cl=>
   simp only[mv,sN,zG]at h;obtain⟨rfl,rfl⟩:=h;split
   . left;simp[lF]
   . exact .inr ⟨rfl,by simp[lF],by simp[pf]⟩
 |give=>simp only[mv,sN,zG]at h;obtain⟨rfl,rfl⟩:=h;exact .inr ⟨rfl,by simp[lF];omega,by simp[pf]⟩
def OU{n pcs s s' i q}(hi:i<n)(b:loc (pcs i))(c:(q,s')∈mv (pcs i) s):meas n (set pcs i q) s'<meas n pcs s/\phi n (set pcs i q) s'<=phi n pcs s:=by
 have C:=kW lF pcs i q hi;rcases WJ b c with h|⟨d,e,g⟩
 . have a:phi n (set pcs i q) s'+1<=phi n pcs s:=by unfold phi;omega
   have k:=LP (f:=λj=>pf s'.w (set pcs i q j))  (λj=>WH _ _) n;have:=IQ (18*n+1) a;rw[Kj]at this;unfold meas;omega
 . have a:phi n (set pcs i q) s'<=phi n pcs s:=by unfold phi;omega
   have R:=kW (pf s.w) pcs i q hi;have:=IQ (18*n+1) a;unfold meas
   grind
def Inv.alive{n pcs s}(h:Inv n pcs s)(c:∀i,i<n->pcs i=.out\/∃sv,pcs i=.lx sv)(a:s.ms=0):∀i,i<n->pcs i=.out:=by
 have z:∀(f:Pc->Nat),f .out=0->(∀sv,f (.lx sv)=0)->tot n (λi=>f (pcs i))=0:=λf p q=>by
  have:∀m,m<=n->tot m (λi=>f (pcs i))=0:=λm=>by
   induction m with
   |zero=>intro _;rfl
   | succ m d=>
     intro a;rw[tot,d ac]
     grind
  grind
 have r:=z dQ rfl λ_=>rfl
 have t:=z kB rfl λ_=>rfl
 have u:=z eI rfl λ_=>rfl
 have v:=z tz rfl λ_=>rfl
 have g:=z gz rfl λ_=>rfl
 have w:=z mF rfl λ_=>rfl
 have j1:=h.j1;have j2:=h.j2;have j3:=h.j3;have j4:=h.j4
 have j:tot n (λi=>eH (pcs i))=0:=by obtain⟨⟨k,l,o,x⟩,ms⟩:=s;simp  at j1 j2 j3 j4 a;cases k<;>cases l<;>cases o<;>simp[g]at j1 j2 j3 j4 ⊢<;>omega
 intro i b
 rcases c i b with e|⟨sv,e⟩
 . exact e
 . have:=Jf j i b
   rw[e]at this;simp[eH]at this
end Go.bu.Mu
namespace Go.bu
section
open Go.Conc
def uI{α}(P:Rg):Sem α->Option α
 |.pure a=>some a
 |.program f=>uI P (f P)
 |_=>none
def abS{α P}  s :∀{a:α},uI P s=some a->∀w es,s.runT P w es=(.ok a w,es):=by
 induction s with
 |pure b=>intro a h w es;simp  [uI]at h;simp_all
 |program f c=>intro a h w es;simp  [uI]at h;simp only[Sem.runT];grind
 |_=>intro a h;simp[uI]at h
def ru{α β P}{f:α->Sem β}  s :∀{a},uI P s=some a->uI P (s.bind f)=uI P (f a):=by
 induction s with
 |pure b=>intro a h;simp  [uI]at h;subst h;rfl
 |program g c=>intro a h;exact c P h
 |_=>intro a h;simp[uI]at h
def enc(L K S:Bool)(N:Int):Int:=8*N+(L.toNat+2*K.toNat+4*S.toNat:Nat)
def Hv{L K S N}(h:0<=N):enc L K S N=((8*N.toNat+(L.toNat+2*K.toNat+4*S.toNat):Nat):Int):=by unfold enc;omega
def aen{N b m}(hb:b<8)(a:m<8):(8*N+b) &&& m=b &&& m:=by
 apply Nat.eq_of_testBit_eq;intro i;by_cases c:i<3
 . have:=MN (i:=3) N (b:=b) ac i
   grind
 . have:m.testBit i=false:=Nat.testBit_lt_two_pow (HL a (by
    have:2 ^ 3<=2 ^ i:=KQ ac ac;omega))
   grind
def WK{N b m}(hb:b<8)(c:m<8):(8*N+b)|||m=8*N+(b|||m):=by
 have e:=Nat.two_pow_add_eq_or_of_lt (i:=3) (b:=b) ac N;have a:b|||m<2 ^ 3:=Nat.or_lt_two_pow ac ac;have d:=Nat.two_pow_add_eq_or_of_lt   a N
 grind
def Nr(N:Int):Prop:=0<=N/\N<=1000000
def WL{L K S N}(h:Nr N){m:Nat}(a:m<8):bits .and .i32 (enc L K S N) (m:Int)=(((L.toNat+2*K.toNat+4*S.toNat) &&& m:Nat):Int):=by
 have hb:L.toNat+2*K.toNat+4*S.toNat<8:=by cases L<;>cases K<;>cases S<;>decide
 rw[Hv h.1,(bits_nat .i32 31 be wraps_i32 _ m (by have:=h.2;omega) ac).1,aen hb a]
def ZI{L K S N}(h:Nr N){m:Nat}(a:m<8):bits .or .i32 (enc L K S N) (m:Int)=((8*N.toNat+((L.toNat+2*K.toNat+4*S.toNat)|||m):Nat):Int):=by
 have hb:L.toNat+2*K.toNat+4*S.toNat<8:=by cases L<;>cases K<;>cases S<;>decide
 rw[Hv h.1,(bits_nat .i32 31 be wraps_i32 _ m (by have:=h.2;omega) ac).2,WK hb a]
def aep{a b c d}(hb:b<8)(hd:d<8):(8*a+b) &&& (8*c+d)=8*(a &&& c)+(b &&& d):=by
 apply Nat.eq_of_testBit_eq;intro i;have e:=MN (i:=3) a (b:=b) ac i;have f:=MN (i:=3) c  ac i;have g:=MN (i:=3) (a &&& c) (b:=b &&& d) (by grind [Nat.and_le_left]) i
 grind
def afq{L K S N}(h:Nr N):bits .andNot .i32 (enc L K S N) 2=enc L false S N:=by
 have hb:L.toNat+2*K.toNat+4*S.toNat<8:=by cases L<;>cases K<;>cases S<;>decide
 have e:((N.toNat:Nat):Int)=N:=Int.toNat_of_nonneg h.1;have f:=h.2
 have a:(BitVec.ofInt 32 (enc L K S N)).toNat=8*N.toNat+(L.toNat+2*K.toNat+4*S.toNat):=by rw[Hv h.1,BitVec.ofInt_natCast,BitVec.toNat_ofNat];omega
 have b:(~~~(BitVec.ofInt 32 2)).toNat=8*536870911+5:=be
 have c:N.toNat &&& 536870911=N.toNat:=by
  have:=Nat.and_two_pow_sub_one_eq_mod N.toNat 29
  grind
 have d:(L.toNat+2*K.toNat+4*S.toNat) &&& 5=L.toNat+4*S.toNat:=by cases L<;>cases K<;>cases S<;>decide
 show IntKind.i32.wrap ((BitVec.ofInt 32 _ &&& ~~~(BitVec.ofInt 32 2)).toNat:Int)=_;rw[BitVec.toNat_and,a,b,aep hb ac,c,d,wraps_i32 _ (Int.natCast_nonneg _) ac]
 unfold enc
 grind
def ju(c:Int)(w:Nat):Int:=c*4294967296+w
inductive SV where
 |eT
 |lit (v:Value)
 |word (L K S:Bool) (δ:Int)
 |cnt
 |ju (w:Nat)
 |ND
 |OV
 |OX
 |now
 |dif
structure Fl where
 n0:Bool
 n1:Bool
 c0:Bool
 c1:Bool
 wz:Bool
 tb:Bool
structure Sy where
 N:Int
 c:Int
 ws:Int
 tn:Int
structure Fl.At(f:Fl)(y:Sy):Prop where
 hN:0<=y.N/\y.N<=1000
 hc:0<=y.c/\y.c<=1000
 n0:f.n0=decide (y.N=0)
 n1:f.n1=decide (y.N=1)
 c0:f.c0=decide (y.c=0)
 c1:f.c1=decide (y.c=1)
 wz:f.wz=decide (y.ws=0)
 tb:f.tb=decide (IntKind.i64.wrap (y.tn-y.ws)>1000000)
def SR(y:Sy):SV->Value->Prop
 |.eT,_=>True
 |.lit v,x=>x=v
 |.word L K S a,x=>x=.int .i32 (enc L K S (y.N+a))/\0<=y.N+a/\a<=2
 |.cnt,x=>x=.int .i32 y.N
 |.ju w,x=>x=.int .u64 (ju y.c w)
 |.ND,x=>x=.int .u64 y.c
 |.OV,x=>x=.int .i32 y.c
 |.OX,x=>x=.int .i64 y.ws
 |.now,x=>x=.int .i64 y.tn
 |.dif,x=>x=.int .i64 (IntKind.i64.wrap (y.tn-y.ws))
def RZ(f:Fl)(op:BinOp)(a b:SV):Option SV:=
 match op,a,b with
 |.and,.word L K S c,.lit (.int .i32 m)=>if 0<=m/\m<8 then some (.lit (.int .i32 (((L.toNat+2*K.toNat+4*S.toNat) &&& m.toNat:Nat):Int)))else none
 |.or,.word L K S c,.lit (.int .i32 m)=>if m=1 then some (.word true K S c)else if m=2 then some (.word L true S c)else if m=4 then some (.word L K true c)else none
 |.andNot,.word L K S c,.lit (.int .i32 m)=>if m=2 then some (.word L false S c)else none
 |.add,.word L K S c,.lit (.int .i32 m)=>if m=8 then(if c<=1 then some (.word L K S (c+1))else none)else if m=1 then(if L=false then some (.word true K S c)else none)else none
 |.sub,.word L K S c,.lit (.int .i32 m)=>if m=8/\c=0/\f.n0=false then some (.word L K S (-1))else none
 |.shr,.word _ _ _ c,.lit (.int .u64 m)=>if m=3/\c=0 then some .cnt else none
 |.eql,.word L K S c,.lit (.int .i32 m)=>if m=0/\c=0 then some (.lit (.bool (!L && !K && !S && f.n0)))else none
 |.neq,.word L K S c,.lit (.int .i32 m)=>if m=0/\c=0 then some (.lit (.bool !(!L && !K && !S && f.n0)))else none
 |.eql,.cnt,.lit (.int .i32 m)=>if m=0 then some (.lit (.bool f.n0))else if m=1 then some (.lit (.bool f.n1))else none
 |.neq,.cnt,.lit (.int .i32 m)=>if m=0 then some (.lit (.bool !f.n0))else if m=1 then some (.lit (.bool !f.n1))else none
 |.and,.ju w,.lit (.int .u64 m)=>if m=2147483648/\w<=1000 then some (.lit (.int .u64 0))else if m=2147483647/\w<=1000 then some (.lit (.int .u64 w))else none
 |.shr,.ju w,.lit (.int .u64 m)=>if m=32/\w<=1000 then some .ND else none
 |.eql,.OV,.lit (.int .i32 m)=>if m=0 then some (.lit (.bool f.c0))else if m=1 then some (.lit (.bool f.c1))else if m=-1 then some (.lit (.bool false))else none
 |.lss,.OV,.lit (.int .i32 m)=>if m=0 then some (.lit (.bool false))else none
 |.gtr,.OV,.lit (.int .i32 m)=>if m=0 then some (.lit (.bool !f.c0))else none
 |.neq,.ju w,.ju d=>if w=d then some (.lit (.bool false))else none
 |.neq,.ju w,.lit (.int .u64 m)=>if m=0 then some (.lit (.bool !(f.c0 && decide (w=0))))else none
 |.add,.ju w,.lit (.int .u64 m)=>if m=1/\w<=1000 then some (.ju (w+1))else none
 |.eql,.OX,.lit (.int .i64 m)=>if m=0 then some (.lit (.bool f.wz))else none
 |.neq,.OX,.lit (.int .i64 m)=>if m=0 then some (.lit (.bool !f.wz))else none
 |.sub,.now,.OX=>some .dif
 |.gtr,.dif,.lit (.int .i64 m)=>if m=1000000 then some (.lit (.bool f.tb))else none
 |_,_,_=>none
def nG{n}(a:-2147483648<=n)(b:n<2147483648):IntKind.i32.wrap n=n:=by grind [IntKind.wrap_i32]
def pP{n}(a:0<=n)(b:n<18446744073709551616):IntKind.u64.wrap n=n:=by simp[IntKind.wrap,IntKind.bits,IntKind.signed];omega
def rv{L K S N}:8*N<=enc L K S N/\enc L K S N<=8*N+7:=by unfold enc;cases L<;>cases K<;>cases S<;>simp <;>omega
def Dq{L K S N}(h:0<=N):enc L K S N=0↔(L=false/\K=false/\S=false/\N=0):=by unfold enc;grind
def Cm(a b:Int):(a==b)=decide (a=b):=am
def tX{a b c p q}[Decidable p][Decidable q](h:q↔(a=false/\b=false/\c=false/\p)):decide q=(!a && !b && !c && decide p):=am
set_option maxHeartbeats 1000000 in
def WM{P f y}(o:f.At y){op t a b r x z}(h:RZ f op a b=some r)(g:SR y a x)(hb:SR y b z):∃v,uI P (binOp op t x z)=some v/\SR y r v:=by
 have hN:=o.hN;have hc:=o.hc;unfold RZ at h;split at h
 ·
  rename_i L K S j m;obtain⟨rfl,l,p⟩:=g;have hb:z=.int .i32 m:=hb;subst hb;split at h
  . rename_i d
    simp only[td]at h;subst h;refine⟨.int .i32 (bits .and .i32 (enc L K S (y.N+j)) m),rfl,?_⟩;have e:m=(m.toNat:Int):=ac
    show Value.int .i32 _=.int .i32 _;congr 1;rw[e];exact WL ⟨l,ac⟩ ac
  . cases h
 ·
  rename_i L K S j m;obtain⟨rfl,l,p⟩:=g;have hb:z=.int .i32 m:=hb;subst hb;have q:∀k:Nat,k<8->bits .or .i32 (enc L K S (y.N+j)) (k:Int)=((8*(y.N+j).toNat+((L.toNat+2*K.toNat+4*S.toNat)|||k):Nat):Int):=λk D=>ZI ⟨l,ac⟩ D
  have I:(((y.N+j).toNat:Nat):Int)=y.N+j:=Int.toNat_of_nonneg l;split at h
  . rename_i d;subst d
    simp only[td]at h;subst h;refine⟨.int .i32 (bits .or .i32 (enc L K S (y.N+j)) 1),rfl,?_,l,p⟩;congr 1;have:=q 1 ac
    rw[show((1:Nat):Int)=1 from rfl]at this
    rw[this];unfold enc;cases L<;>cases K<;>cases S<;>simp[Bool.toNat]<;>omega
  split at h
  . rename_i d;subst d
    simp only[td]at h;subst h;refine⟨.int .i32 (bits .or .i32 (enc L K S (y.N+j)) 2),rfl,?_,l,p⟩;congr 1;have:=q 2 ac
    rw[show((2:Nat):Int)=2 from rfl]at this
    rw[this];unfold enc;cases L<;>cases K<;>cases S<;>simp[Bool.toNat]<;>omega
  split at h
  . rename_i d;subst d
    simp only[td]at h;subst h;refine⟨.int .i32 (bits .or .i32 (enc L K S (y.N+j)) 4),rfl,?_,l,p⟩;congr 1;have:=q 4 ac
    rw[show((4:Nat):Int)=4 from rfl]at this
    rw[this];unfold enc;cases L<;>cases K<;>cases S<;>simp[Bool.toNat]<;>omega
  . cases h
 ·
  rename_i L K S j m;obtain⟨rfl,l,p⟩:=g;have hb:z=.int .i32 m:=hb;subst hb;split at h
  . rename_i d;subst d
    simp only[td]at h;subst h;refine⟨.int .i32 (bits .andNot .i32 (enc L K S (y.N+j)) 2),rfl,?_,l,p⟩;rw[afq ⟨l,ac⟩]
  . cases h
 ·
  rename_i L K S j m;obtain⟨rfl,l,p⟩:=g;have hb:z=.int .i32 m:=hb;subst hb;have s:=rv (L:=L) (K:=K) (S:=S) (N:=y.N+j);split at h
  . rename_i d;subst d
    split at h
    . simp only[td]at h;subst h
      refine⟨.int .i32 (IntKind.i32.wrap (enc L K S (y.N+j)+8)),rfl,?_,ac,ac⟩
      rw[nG ac ac]
      congr 1;unfold enc;omega
    . cases h
  split at h
  . rename_i d;subst d
    split at h
    . rename_i E;subst E
      simp only[td]at h;subst h;refine⟨.int .i32 (IntKind.i32.wrap (enc false K S (y.N+j)+1)),rfl,?_,l,p⟩;rw[nG ac ac]
      congr 1;unfold enc;simp[Bool.toNat];omega
    . cases h
  . cases h
 ·
  rename_i L K S j m;obtain⟨rfl,l,p⟩:=g;have hb:z=.int .i32 m:=hb;subst hb;have s:=rv (L:=L) (K:=K) (S:=S) (N:=y.N+j);split at h
  . rename_i d
    obtain⟨rfl,rfl,A⟩:=d;rw[o.n0]at A;simp at A;simp only[td]at h;subst h;refine⟨.int .i32 (IntKind.i32.wrap (enc L K S (y.N+0)-8)),rfl,?_,ac,ac⟩
    rw[nG ac ac]
    congr 1;unfold enc;omega
  . cases h
 ·
  rename_i L K S j m;obtain⟨rfl,l,p⟩:=g;have hb:z=.int .u64 m:=hb;subst hb;have s:=rv (L:=L) (K:=K) (S:=S) (N:=y.N+j);split at h
  . rename_i d
    obtain⟨rfl,rfl⟩:=d;simp only[td]at h;subst h;refine⟨.int .i32 ((enc L K S (y.N+0)).fdiv (2 ^ 3)),rfl,?_⟩;show Value.int .i32 _=.int .i32 _;congr 1;rw[Int.fdiv_eq_ediv_of_nonneg _ be]
    omega
  . cases h
 ·
  rename_i L K S j m;obtain⟨rfl,l,p⟩:=g;have hb:z=.int .i32 m:=hb;subst hb;split at h
  . rename_i d
    obtain⟨rfl,rfl⟩:=d;simp only[td]at h;subst h;refine⟨.bool (enc L K S (y.N+0)==0),rfl,?_⟩;show Value.bool _=.bool _;congr 1;rw[o.n0,Cm];have:=Dq (L:=L) (K:=K) (S:=S) l;rw[M8]at this ⊢;exact tX this
  . cases h
 ·
  rename_i L K S j m;obtain⟨rfl,l,p⟩:=g;have hb:z=.int .i32 m:=hb;subst hb;split at h
  . rename_i d
    obtain⟨rfl,rfl⟩:=d;simp only[td]at h;subst h;refine⟨.bool (enc L K S (y.N+0)!=0),rfl,?_⟩;show Value.bool _=.bool _;congr 1;rw[o.n0];have:=Dq (L:=L) (K:=K) (S:=S) l;rw[M8]at this ⊢;rw[bne,Cm,tX this]
  . cases h
 ·
  rename_i m;have g:x=.int .i32 y.N:=g;have hb:z=.int .i32 m:=hb;subst g;subst hb;split at h
  . rename_i d;subst d
    simp only[td]at h;subst h;exact⟨.bool (y.N==0),rfl,by show Value.bool _=.bool _;rw[o.n0,Cm]⟩
  split at h
  . rename_i d;subst d
    simp only[td]at h;subst h;exact⟨.bool (y.N==1),rfl,by show Value.bool _=.bool _;rw[o.n1,Cm]⟩
  . cases h
 . rename_i m
   have g:x=.int .i32 y.N:=g;have hb:z=.int .i32 m:=hb;subst g;subst hb;split at h
   . rename_i d;subst d
     simp only[td]at h;subst h;exact⟨.bool (y.N !=0),rfl,by show Value.bool _=.bool _;rw[o.n0,bne,Cm]⟩
   split at h
   . rename_i d;subst d
     simp only[td]at h;subst h;exact⟨.bool (y.N !=1),rfl,by show Value.bool _=.bool _;rw[o.n1,bne,Cm]⟩
   . cases h
 ·
  rename_i w m;have g:x=.int .u64 (ju y.c w):=g;have hb:z=.int .u64 m:=hb;subst g;subst hb
  have F:ju y.c w=((y.c.toNat*4294967296+w:Nat):Int):=by have:((y.c.toNat:Nat):Int)=y.c:=Int.toNat_of_nonneg hc.1;rw[Int.natCast_add,Int.natCast_mul,this];rfl
  split at h
  . rename_i d
    obtain⟨rfl,u⟩:=d;simp only[td]at h;subst h;refine⟨.int .u64 (bits .and .u64 (ju y.c w) 2147483648),rfl,?_⟩;show Value.int .u64 _=.int .u64 _;congr 1
    have G:bits .and .u64 (ju y.c w) 4294967295=(w:Int):=by
     have:=bits_mask .u64 64 be (λn a b=>pP a b) 32 ac (ju y.c w) (by unfold ju;omega) (by unfold ju;omega)
     rw[show((2:Int) ^ 32-1)=4294967295 from rfl]at this
     rw[this];unfold ju;omega
    rw[F,show(2147483648:Int)=((2147483648:Nat):Int)from rfl,(bits_nat .u64 64 be (λn a b=>pP a b) _ _ ac ac).1]
    have e:(y.c.toNat*4294967296+w) &&& 2147483648=0:=by
     apply Nat.eq_of_testBit_eq;intro i;rw[Nat.testBit_and,Nat.zero_testBit]
     have hb:(2147483648:Nat).testBit i=decide (31=i):=by have:=Nat.testBit_two_pow (n:=31) (m:=i);simpa using this
     rw[hb]
     by_cases B:31=i
     . subst B
       have l:=MN (i:=32) y.c.toNat (b:=w) ac 31
       simp only[show 31<32 by omega,ZC]at l
       rw[show y.c.toNat*4294967296+w=2 ^ 32*y.c.toNat+w by omega,l]
       rw[Nat.testBit_lt_two_pow (by omega:w<2 ^ 31)];rfl
     . simp[B]
    rw[e];rfl
  split at h
  . rename_i d
    obtain⟨rfl,u⟩:=d;simp only[td]at h;subst h;refine⟨.int .u64 (bits .and .u64 (ju y.c w) 2147483647),rfl,?_⟩;show Value.int .u64 _=.int .u64 _;congr 1;have:=bits_mask .u64 64 be (λn a b=>pP a b) 31 ac (ju y.c w) (by unfold ju;omega) (by unfold ju;omega)
    rw[show((2:Int) ^ 31-1)=2147483647 from rfl]at this
    rw[this];unfold ju;omega
  . cases h
 ·
  rename_i w m;have g:x=.int .u64 (ju y.c w):=g;have hb:z=.int .u64 m:=hb;subst g;subst hb;split at h
  . rename_i d
    obtain⟨rfl,u⟩:=d;simp only[td]at h;subst h;refine⟨.int .u64 ((ju y.c w).fdiv (2 ^ 32)),rfl,?_⟩;show Value.int .u64 _=.int .u64 _;congr 1;rw[Int.fdiv_eq_ediv_of_nonneg _ be]
    unfold ju;omega
  . cases h
 . rename_i m
   have g:x=.int .i32 y.c:=g;have hb:z=.int .i32 m:=hb;subst g;subst hb;split at h
   . rename_i d;subst d
     simp only[td]at h;subst h;exact⟨.bool (y.c==0),rfl,by show Value.bool _=.bool _;rw[o.c0,Cm]⟩
   split at h
   . rename_i d;subst d
     simp only[td]at h;subst h;exact⟨.bool (y.c==1),rfl,by show Value.bool _=.bool _;rw[o.c1,Cm]⟩
   split at h
   . rename_i d;subst d
     simp only[td]at h;subst h;refine⟨.bool (y.c==-1),rfl,?_⟩;show Value.bool _=.bool _;have:¬y.c=-1:=ac
     rw[Cm];simp[this]
   . cases h
 . rename_i m
   have g:x=.int .i32 y.c:=g;have hb:z=.int .i32 m:=hb;subst g;subst hb;split at h
   . rename_i d;subst d
     simp only[td]at h;subst h;refine⟨.bool (decide (y.c<0)),rfl,?_⟩;show Value.bool _=.bool _;have:¬y.c<0:=ac
     simp[this]
   . cases h
 . rename_i m
   have g:x=.int .i32 y.c:=g;have hb:z=.int .i32 m:=hb;subst g;subst hb;split at h
   . rename_i d;subst d
     simp only[td]at h;subst h;refine⟨.bool (decide (y.c>0)),rfl,?_⟩;show Value.bool _=.bool _;rw[o.c0];congr 1
     by_cases C:y.c=0
     . simp[C]
     . have:y.c>0:=ac
       simp[C,this]
   . cases h
 . rename_i w H
   have g:x=.int .u64 (ju y.c w):=g;have hb:z=.int .u64 (ju y.c H):=hb;subst g;subst hb;split at h
   . rename_i d;subst d
     simp only[td]at h;subst h;exact⟨.bool (ju y.c w !=ju y.c w),rfl,by show Value.bool _=.bool _;simp⟩
   . cases h
 . rename_i w m
   have g:x=.int .u64 (ju y.c w):=g;have hb:z=.int .u64 m:=hb;subst g;subst hb;split at h
   . rename_i d;subst d
     simp only[td]at h;subst h;refine⟨.bool (ju y.c w !=0),rfl,?_⟩;show Value.bool _=.bool _;rw[o.c0];congr 1;have:ju y.c w=0↔(y.c=0/\w=0):=by unfold ju;omega
     rw[bne,Cm]
     have e:decide (ju y.c w=0)=(decide (y.c=0) && decide (w=0)):=by rw[IJ,vc,MI,MI,MI];exact this
     rw[e]
   . cases h
 . rename_i w m
   have g:x=.int .u64 (ju y.c w):=g;have hb:z=.int .u64 m:=hb;subst g;subst hb;split at h
   . rename_i d
     obtain⟨rfl,u⟩:=d;simp only[td]at h;subst h;refine⟨.int .u64 (IntKind.u64.wrap (ju y.c w+1)),rfl,?_⟩;show Value.int .u64 _=.int .u64 _;rw[pP (by unfold ju;omega) (by unfold ju;omega)]
     congr 1;unfold ju;push_cast;omega
   . cases h
 . rename_i m
   have g:x=.int .i64 y.ws:=g;have hb:z=.int .i64 m:=hb;subst g;subst hb;split at h
   . rename_i d;subst d
     simp only[td]at h;subst h;exact⟨.bool (y.ws==0),rfl,by show Value.bool _=.bool _;rw[o.wz,Cm]⟩
   . cases h
 . rename_i m
   have g:x=.int .i64 y.ws:=g;have hb:z=.int .i64 m:=hb;subst g;subst hb;split at h
   . rename_i d;subst d
     simp only[td]at h;subst h;exact⟨.bool (y.ws !=0),rfl,by show Value.bool _=.bool _;rw[o.wz,bne,Cm]⟩
   . cases h
 . have g:x=.int .i64 y.tn:=g
   have hb:z=.int .i64 y.ws:=hb;subst g;subst hb;simp only[td]at h;subst h;exact⟨_,rfl,rfl⟩
 . rename_i m
   have g:x=.int .i64 (IntKind.i64.wrap (y.tn-y.ws)):=g;have hb:z=.int .i64 m:=hb;subst g;subst hb;split at h
   . rename_i d;subst d
     simp only[td]at h;subst h;exact⟨.bool (decide (IntKind.i64.wrap (y.tn-y.ws)>1000000)),rfl,by show Value.bool _=.bool _;rw[o.tb]⟩
   . cases h
 . cases h
inductive Jh where
 |run
 |ret
def Jh.of:Jh->FrameMode
 |.run=>.run
 |.ret=>.returning
structure vS where
 fn:FuncId
 todo:AJ
 env:List SV
 defers:List Deferred
 mode:Jh
 kind:FB
def sv(ε:List SV):I8->SV
 |.tmp t=>ε.getD t .eT
 |.const v=>.lit v
 |.global g=>.lit (.pointer (some ⟨g,0,none⟩))
 |.func f=>.lit (.func (.func f) #[] #[])
def Nn(P:Rg)(f:Fl)(ρ:I8->SV)(o:Op):Option SV:=
 match o with
 |.move x=>some (ρ x)
 |.assign x=>some (ρ x)
 |.pick c a b=>match ρ c with|.lit (.bool x)=>some (if x then ρ a else ρ b)|_=>none
 | .binOp op t x y _=>
   match RZ f op (ρ x) (ρ y)with
   |some r=>some r
   | none=>match ρ x,ρ y with
     |.lit (.int k a),.lit (.int d b)=>(uI P (binOp op t (.int k a) (.int d b))).map .lit
     |_,_=>none
 |.unOp .not _ x=>match ρ x with|.lit (.bool b)=>some (.lit (.bool !b))|_=>none
 |.nilCheck x=>match ρ x with|.lit (.pointer (some a))=>some (.lit (.pointer (some a)))|_=>none
 |.fieldAddr s x e=>match ρ x with|.lit (.pointer (some a))=>(uI P (Instr.fieldAt s (.pointer (some a)) e)).map .lit|_=>none
 | .convert src dst x=>
   match ρ x with
   |.lit v=>(uI P (convert src dst v)).map .lit
   |.ND=>match P.underlying src,P.underlying dst with|some _,some (.int .i32)=>some .OV|_,_=>none
   |_=>none
 |_=>none
def afb{P op t x y k k' a b}:uI P (eqGuard op t x y (.int k a) (.int k' b))=some ():=by unfold eqGuard;split<;>rfl
def SR.int{y a x}(h:SR y a x)(b:∀v,a≠.lit v)(hj:a≠.eT):∃k n,x=.int k n:=by
 cases a with
 |eT=>grind
 |lit v=>grind
 |word _ _ _ _=>exact⟨_,_,h.1⟩
 |_=>exact⟨_,_,h⟩
def acp{f op a b r y x z}(h:RZ f op a b=some r)(d:SR y a x)(hb:SR y b z):∃k n k' c,x=.int k n/\z=.int k' c:=by
 unfold RZ at h
 split at h<;>first
  |(cases h;done)
  | (obtain⟨k,n,g⟩:=d.int (by intro v e;cases e) (by intro e;cases e)
     first
     |exact⟨k,n,_,_,g,hb⟩
     |(obtain⟨k',c,i⟩:=hb.int _ _))
def Hw{α P s}{g:α->SV}{r}(h:(uI P s).map g=some r):∃a,uI P s=some a/\r=g a:=by
 cases q:uI P s with
 |none=>grind
 |some a=>grind
def xl{P s v}(h:uI P s=some v):uI P (do pure (.value (<-s)):Sem Next)=some (.value v):=by
 show uI P (Sem.bind s λa=>(pure _:Sem Next))=_;rw[ru s h];rfl
def ZJ{P f y}(A:f.At y){ρ ρ' o r}(h:Nn P f ρ o.op=some r)(i:∀x,SR y (ρ x) (ρ' x)):∃v,uI P (execOp ρ' o)=some (.value v)/\SR y r v:=by
 unfold Nn at h;split at h
 . rename_i x e
   simp only[td]at h;subst h;exact⟨ρ' x,by simp[execOp,e];rfl,i x⟩
 . rename_i x e
   simp only[td]at h;subst h;exact⟨ρ' x,by simp[execOp,e];rfl,i x⟩
 . rename_i c a b e
   split at h
   . rename_i x j
     simp only[td]at h;subst h;have hc:=i c;rw[j]at hc;have hc:ρ' c=.bool x:=hc;refine⟨if x then ρ' a else ρ' b,?_,?_⟩
     . simp only[execOp,e,hc]
       cases x<;>rfl
     grind
   grind
 . rename_i op t x z nl e
   have key:∀{k n l p},ρ' x=.int k n->ρ' z=.int l p->∀{v},uI P (binOp op t (.int k n) (.int l p))=some v->uI P (execOp ρ' o)=some (.value v):=by
    intro k n l p g q v m;have:execOp ρ' o=(do pure (.value (<-(do eqGuard op t x z (ρ' x) (ρ' z);binOp op t (ρ' x) (ρ' z)))):Sem Next):=by simp only[execOp,e]
    rw[this,g,q];refine xl ?_;show uI P ((eqGuard op t x z (.int k n) (.int l p)).bind λ_=>binOp op t (.int k n) (.int l p))=_
    simp_all [ru,afb]
   split at h
   . rename_i F w
     simp only[td]at h;subst h;obtain⟨k,n,l,p,g,q⟩:=acp w (i x) (i z);obtain⟨v,m,G⟩:=WM (P:=P) A (t:=t) w (i x) (i z)
     grind
   . split at h
     . rename_i k a l b j B
       obtain⟨v,m,rfl⟩:=Hw h;have g:=i x;have q:=i z;rw[j]at g;rw[B]at q;exact⟨v,key g q m,rfl⟩
     grind
 . rename_i t x e
   split at h
   . rename_i b j
     simp only[td]at h;subst h;have g:=i x;rw[j]at g;have g:ρ' x=.bool b:=g;exact⟨.bool !b,by simp only[execOp,e,g];rfl,rfl⟩
   grind
 . rename_i x e
   split at h
   . rename_i a j
     simp only[td]at h;subst h;have g:=i x;rw[j]at g;have g:ρ' x=.pointer (some a):=g;exact⟨_,by simp only[execOp,e,g];rfl,rfl⟩
   grind
 . rename_i s x H e
   split at h
   . rename_i a j
     obtain⟨v,m,rfl⟩:=Hw h;have g:=i x;rw[j]at g;have g:ρ' x=.pointer (some a):=g;refine⟨v,?_,rfl⟩;simp only[execOp,e,g];exact xl m
   grind
 . rename_i src dst x e
   split at h
   . rename_i u j
     obtain⟨v,m,rfl⟩:=Hw h;have g:=i x;rw[j]at g;have g:ρ' x=u:=g;refine⟨v,?_,rfl⟩;simp only[execOp,e,g];exact xl m
   . rename_i j
     split at h
     . rename_i d w hd
       simp only[td]at h;subst h;have g:=i x;rw[j]at g;have g:ρ' x=.int .u64 y.c:=g;refine⟨.int .i32 y.c,?_,rfl⟩;simp only[execOp,e,g];refine xl ?_
       have C:uI P (underlying src)=some d:=by unfold underlying;show uI P (Sem.bind program _)=_;rw[ru program (a:=P) rfl,w];rfl
       have D:uI P (underlying dst)=some (.int .i32):=by unfold underlying;show uI P (Sem.bind program _)=_;rw[ru program (a:=P) rfl,hd];rfl
       unfold convert;show uI P (Sem.bind (underlying src) _)=_;rw[ru _ C];show uI P (Sem.bind (underlying dst) _)=_;rw[ru _ D];have E:IntKind.i32.wrap y.c=y.c:=nG (by have:=A.hc;omega) (by have:=A.hc;omega)
       show some (Value.int .i32 (IntKind.i32.wrap y.c))=_;rw[E]
     grind
   grind
 grind
def F6(ο:Cx)(ε:List SV)(o:Oper):Option Bool:=
 match o.guard with
 |none=>some true
 | some (j,b)=>match (ο[j]?).bind (·.dst)with
   | some d=>match ε.getD d .eT with
     |.lit (.bool x)=>some (x==b)
     |_=>none
   |none=>none
def Dr(fr:vS)(v:SV):Option vS:=
 match fr.todo with
 |.inRegion ο (i::μ)::k=>some {fr with env:=(match (ο[i]?).bind (·.dst)with|some d=>fr.env.set d v|none=>fr.env),todo:=.inRegion ο μ::k}
 |_=>none
def RK(fn:Func)(ε:List SV):Option SV:=
 match fn.results.toList with
 |[]=>some (.lit (.tuple #[]))
 |[.tmp t]=>some (ε.getD t .eT)
 |_=>none
def YF(P:Rg)(ε:List SV)(c:Call):Option vS:=
 match c.callee with
 | .value (.func g)=>match P.funcs[g]? with
   | some fn=>match fn.body with
     |some body=>if fn.name= "runtime.NumGoroutine" then none else some {fn:=g,todo:=[.code body],env:=c.args.toList.map (sv ε)++List.replicate (fn.ntmps-c.args.size) .eT,defers:=[],mode:=.run,kind:=.normal}
     |none=>none
   |none=>none
 |_=>none
def R2(c:Call):Option Deferred:=
 match c.callee with
 |.value (.func g)=>if c.args=#[]then some {target:=.fn (.func g) #[],args:=#[]}else none
 |_=>none
def ss(P : Rg)(f:Fl)(fr:vS)(st:List vS):Option (vS × List vS):=
 match fr.mode with
 | .ret=>match st with
   |[]=>none
   | c ::e=>match fr.defers,fr.kind,P.funcs[fr.fn]? with
     | [],.normal,some fn=>match RK fn fr.env with
       |some v=>(Dr c v).map (·,e)
       |none=>none
     |_,_,_=>none
 | .run => match fr.todo with
   |[]=>some ({fr with mode:=.ret},st)
   |.code .ret::_=>some ({fr with mode:=.ret},st)
   |.code .skip::k=>some ({fr with todo:=k},st)
   |.inBlock _::k=>some ({fr with todo:=k},st)
   |.inScope _::k=>some ({fr with todo:=k},st)
   |.inRegion _ []::k=>some ({fr with todo:=k},st)
   |.code (.seq a b)::k=>some ({fr with todo:=.code a::.code b::k},st)
   |.code (.block id c)::k=>some ({fr with todo:=.code c::.inBlock id::k},st)
   |.code (.scope c)::k=>some ({fr with todo:=.code c::.inScope c::k},st)
   |.code (.loop c)::k=>some ({fr with todo:=.code c::.inLoop c::k},st)
   |.inLoop c::k=>some ({fr with todo:=.code c::.inLoop c::k},st)
   |.code (.exit id)::k=>(exitTo id k).map λg=>({fr with todo:=g},st)
   | .code (.cond c a b)::k=>match sv fr.env c with
     |.lit (.bool x)=>some ({fr with todo:=.code (if x then a else b)::k},st)
     |_=>none
   |.code (.region id ο false)::k=>some ({fr with todo:=.inRegion ο (List.range ο.size)::k},st)
   | .inRegion ο (i::μ)::k=>match ο[i]? with
     |none=>none
     | some o=>match F6 ο fr.env o with
       |none=>none
       |some false=>(Dr fr .eT).map (·,st)
       | some true=>match o.op with
         |.call c=>(YF P fr.env c).map (·,fr::st)
         | .defer c=>match R2 c with
           |some d=>(Dr fr .eT).map λs=>({s with defers:=d::s.defers},st)
           |none=>none
         | op=>match Nn P f (sv fr.env) op with
           |some v=>(Dr fr v).map (·,st)
           |none=>none
   |_=>none
def sgo(P:Rg)(f:Fl):Nat->vS->List vS->vS × List vS
 |0,fr,st=>(fr,st)
 | n+1,fr,st=>match ss P f fr st with
   |some (a,b)=>sgo P f n a b
   |none=>(fr,st)
structure FR  y  (s:vS) (fr:Frame):Prop where
 fn:fr.fn=s.fn
 todo:fr.todo=s.todo
 defers:fr.defers=s.defers
 mode:fr.mode=s.mode.of
 kind:fr.kind=s.kind
 ro:fr.roundOf=none
 size:fr.tmps.size=s.env.length
 env:∀t,SR y (s.env.getD t .eT) (fr.tmps.getD t undef)
def sn(y:Sy):List vS->E8->Prop
 |[],[]=>True
 |s::ss,f::fs=>FR y s f/\sn y ss fs
 |_,_=>False
def zd(P:Rg)(Wd:FD)(g g':YB):Prop:=g.status=.running/\∀γ w,Wd w->stepG P γ g w=.go g' w #[]
def n8(P:Rg)(Wd:FD):Nat->YB->YB->Prop
 |0,g,a=>g=a
 |n+1,g,a=>∃b,zd P Wd g b/\n8 P Wd n b a
def ze(P:Rg)(Wd:FD)(g g':YB):Prop:=∃n,n8 P Wd n g g'
theorem n8.trans{P Wd}:∀{n m a b c},n8 P Wd n a b->n8 P Wd m b c->n8 P Wd (n+m) a c
 |0,m,a,b,c,h,d=>by obtain rfl:=h;grind
 | n+1,m,a,b,c,h,d=>by
   obtain⟨e,f,g⟩:=h;rw[show n+1+m=(n+m)+1 by omega];exact⟨e,f,g.trans d⟩
theorem ze.trans{P Wd a b c}(h:ze P Wd a b)(d:ze P Wd b c):ze P Wd a c:=let ⟨n,h⟩:=h;let ⟨m,d⟩:=d;⟨n+m,h.trans d⟩
theorem zd.F7{P Wd a b}(h:zd P Wd a b):ze P Wd a b:=⟨1,b,h,rfl⟩
def FR.sv{y:Sy}{s:vS}{fr:Frame}(h:FR y s fr)(x:I8):SR y (sv s.env x) (fr.eval x):=by
 cases x with
 |tmp t=>exact h.env t
 |const v=>rfl
 |global g=>rfl
 |func f=>rfl
def FR.fin{y s s' fr v x}(h:FR y s fr)(a:Dr s v=some s')(m:SR y v x):FR y s' (fr.finish x):=by
 obtain⟨fn,τ,todo,ξ,mode,ν,ro⟩:=fr;obtain⟨b,c,f,g,j,l,n,o⟩:=h;subst c;unfold Dr at a;split at a
 . rename_i ο i μ k e
   simp   at a;subst a;simp  [Frame.finish,e];refine⟨b,rfl,f,g,j,l,?_,λt=>?_⟩
   . grind
   . cases q:(ο[i]?).bind _ with
     |none=>grind
     | some d=>
       by_cases p:d=t
       . by_cases hd:d<τ.size
         . simp_all
         grind
       simp_all
 grind
def wu{y s fr ο o b}(h:FR y s fr)(a:F6 ο s.env o=some b):Region.wanted o (yielded ο fr.tmps)=b:=by
 unfold F6 at a;unfold Region.wanted;cases i:o.guard with
 |none=>grind
 | some p=>
   obtain⟨j,c⟩:=p;rw[i]at a;simp only at a ⊢;cases g:ο[j]? with
   |none=>grind
   | some k=>
     rw[g]at a;cases hd:k.dst with
     |none=>grind
     | some d=>
       simp only[Option.bind_some,hd]at a;have f:=h.env d;split at a
       . rename_i x l
         rw[l]at f;have f:fr.tmps.getD d undef=.bool x:=f
         have e:fr.tmps[d]?=some (.bool x):=by
          by_cases e:d<fr.tmps.size
          . simp_all
          . simp[e,undef]at f
         simp   at a;simp[yielded,g,hd,e,a]
       grind
def sn.uS{y fs}(h:sn y [] fs):fs=[]:=by cases fs with|nil=>rfl|cons _ _=>exact h.elim
def sn.cons_inv{y s l fs}(h:sn y (s::l) fs):∃f a,fs=f::a/\FR y s f/\sn y l a:=by
 cases fs with
 |nil=>exact h.elim
 |cons f a=>exact⟨f,a,rfl,h.1,h.2⟩
def pj{P fn}:seen P fn #[]=#[]:=rfl
def apply_pure{P fr cs s n}(h:uI P s=some n)  w :stepG.apply P true fr cs none s w=stepG.apply P true fr cs none (pure n) w:=by have a:=abS s h w #[];have b:(pure n:Sem Next).runT P w #[]=(.ok n w,#[]):=rfl;simp only[stepG.apply,ZC,a,b]
def tY{P γ φ k ο i μ o τ ξ ν cs}(a:ο[i]?=some o)(b:Region.wanted o (yielded ο τ)=true)  w :
 stepG P γ (G ⟨φ,τ,.inRegion ο (i::μ)::k,ξ,.run,ν,none⟩ cs) w=
  stepG.apply P true ⟨φ,τ,.inRegion ο (i::μ)::k,ξ,.run,ν,none⟩ cs none (execOp (Frame.eval ⟨φ,τ,.inRegion ο (i::μ)::k,ξ,.run,ν,none⟩) o) w:=by
 simp  [G,stepG,stepG.exec,stepG.oper,Frame.oper?,a,b,IE]
def acm{P γ φ k ο i μ o τ ξ ν cs}(a:ο[i]?=some o)(b:Region.wanted o (yielded ο τ)=false)  w :
 stepG P γ (G ⟨φ,τ,.inRegion ο (i::μ)::k,ξ,.run,ν,none⟩ cs) w=.go (G (Frame.finish ⟨φ,τ,.inRegion ο (i::μ)::k,ξ,.run,ν,none⟩ undef) cs) w #[]:=by
 have h:((ο[i]?).map (Region.wanted · (yielded ο τ))).getD false=false:=am
 simp only[G,stepG,stepG.exec,h];rfl
def abY{P ρ o c g fn body}(d:o.op=.call c)(e:c.callee=.value (.func g))(f:P.funcs[g]?=some fn)(hb:fn.body=some body)(a:fn.name≠ "runtime.NumGoroutine")(b:ρ (.func g)=.func (.func g) #[] #[]):
 uI P (execOp ρ o)=some (.enter g (c.args.map ρ)):=by
 simp  [execOp,d,resolve,e,b];show uI P (Sem.bind program _)=_;rw[ru program  rfl];simp[f,hb,a];rfl
def YG{P Wd f y}(hf:f.At y){s s' st C fr ψ}(h:ss P f s st=some (s',C))(hr:FR y s fr)(A:sn y st ψ):
 ∃r j,FR y s' r/\sn y C j/\∀cs,zd P Wd (G fr (ψ++cs)) (G r (j++cs)):=by
 have q:=hr;obtain⟨fn,τ,todo,ξ,mode,ν,ro⟩:=fr;obtain⟨S,l,L,I,M,h6,W,T⟩:=hr;simp only at S l L I M h6 W T;subst h6;unfold ss at h;split at h
 ·
  rename_i X;rw[X]at I;have I:mode=.returning:=I;subst I;split at h
  . cases h
  rename_i c a9;split at h
  . rename_i D hd hk E
    obtain⟨fc,j,rfl,hc,Y⟩:=A.cons_inv;split at h
    . rename_i v F
      obtain⟨U,m,e⟩:=Fh.1 h;simp only[zG]at e;obtain⟨rfl,rfl⟩:=e
      have N:∃x,SR y v x/\∀w,(results D τ).runT P w #[]=(.ok x w,#[]):=by
       unfold RK at F;split at F
       . rename_i O
         simp only[td]at F;subst F;have O:D.results=#[]:=am
         exact⟨.tuple #[],rfl,λw=>by simp[results,O]⟩
       . rename_i t O
         simp only[td]at F;subst F;have O:D.results=#[.tmp t]:=am
         exact⟨τ.getD t undef,T t,λw=>by simp[results,O]⟩
       grind
      obtain⟨x,Z,ab⟩:=N;refine⟨fc.finish x,j,hc.fin m Z,Y,λcs=>⟨rfl,λγ w _=>?_⟩⟩;rw[hd]at L;rw[hk]at M;subst L;subst M;subst S;have e1:(results D τ).run P w=.ok x w:=aq
      have e2:(results D τ).events P w #[]=#[]:=aq
      simp[G,stepG,unwind,E,e1,e2,doReturn,GStep.after,pj]
    grind
  grind
 . rename_i X
   rw[X]at I;have I:mode=.run:=I;subst I
   have ctl:∀B:AJ,(∀γ cs w,stepG P γ (G ⟨fn,τ,todo,ξ,.run,ν,none⟩ (ψ++cs)) w=.go (G ⟨fn,τ,B,ξ,.run,ν,none⟩ (ψ++cs)) w #[])->some ({s with todo:=B},st)=some (s',C) ->
    ∃r j,FR y s' r/\sn y C j/\∀cs,zd P Wd (G ⟨fn,τ,todo,ξ,.run,ν,none⟩ (ψ++cs)) (G r (j++cs)):=λB hs e=>by
    simp only[td,zG]at e;obtain⟨rfl,rfl⟩:=e;exact⟨_,ψ,⟨S,rfl,L,am,M,rfl,W,T⟩,A,λcs=>⟨rfl,λγ w _=>hs γ cs w⟩⟩
   have ret:(∀γ cs w,stepG P γ (G ⟨fn,τ,todo,ξ,.run,ν,none⟩ (ψ++cs)) w=.go (G ⟨fn,τ,todo,ξ,.returning,ν,none⟩ (ψ++cs)) w #[])->some ({s with mode:=.ret},st)=some (s',C) ->
    ∃r j,FR y s' r/\sn y C j/\∀cs,zd P Wd (G ⟨fn,τ,todo,ξ,.run,ν,none⟩ (ψ++cs)) (G r (j++cs)):=λhs e=>by
    simp only[td,zG]at e;obtain⟨rfl,rfl⟩:=e;exact⟨_,ψ,⟨S,l,L,rfl,M,rfl,W,T⟩,A,λcs=>⟨rfl,λγ w _=>hs γ cs w⟩⟩
   split at h
   . rename_i n;rw[n]at l;subst l
     exact ret (λ_ _ _=>by simp[G,stepG,stepG.exec]) h
   . rename_i n;rw[n]at l;subst l
     exact ret (λ_ _ _=>by simp[G,stepG,stepG.exec]) h
   . rename_i n;rw[n]at l;subst l
     exact ctl _ (λ_ _ _=>by simp[G,stepG,stepG.exec]) h
   . rename_i n;rw[n]at l;subst l
     exact ctl _ (λ_ _ _=>by simp[G,stepG,stepG.exec]) h
   . rename_i n;rw[n]at l;subst l
     exact ctl _ (λ_ _ _=>by simp[G,stepG,stepG.exec]) h
   . rename_i n;rw[n]at l;subst l
     exact ctl _ (λ_ _ _=>by simp[G,stepG,stepG.exec]) h
   . rename_i n;rw[n]at l;subst l
     exact ctl _ (λ_ _ _=>by simp[G,stepG,stepG.exec]) h
   . rename_i n;rw[n]at l;subst l
     exact ctl _ (λ_ _ _=>by simp[G,stepG,stepG.exec]) h
   . rename_i n;rw[n]at l;subst l
     exact ctl _ (λ_ _ _=>by simp[G,stepG,stepG.exec]) h
   . rename_i n;rw[n]at l;subst l
     exact ctl _ (λ_ _ _=>by simp[G,stepG,stepG.exec]) h
   . rename_i n;rw[n]at l;subst l
     exact ctl _ (λ_ _ _=>by simp[G,stepG,stepG.exec]) h
   . rename_i id k n;rw[n]at l;subst l
     obtain⟨k',he,e⟩:=Fh.1 h;exact ctl k' (λ_ _ _=>by simp[G,stepG,stepG.exec,he]) (by rw[e])
   . rename_i c a b k n;rw[n]at l;subst l
     split at h
     . rename_i x Q
       have F:=q.sv c;rw[Q]at F;have F:Frame.eval ⟨fn,τ,.code (.cond c a b)::k,ξ,.run,ν,none⟩ c=.bool x:=F;exact ctl _ (λ_ _ _=>by simp[G,stepG,stepG.exec,F]) h
     grind
   . rename_i n;rw[n]at l;subst l
     exact ctl _ (λ_ _ _=>by simp[G,stepG,stepG.exec]) h
   . rename_i ο i μ k n;rw[n]at l;subst l
     split at h
     . cases h
     . rename_i o V
       split at h
       . cases h
       . rename_i hw
         obtain⟨U,m,e⟩:=Fh.1 h;simp only[zG]at e;obtain⟨rfl,rfl⟩:=e;exact⟨_,ψ,q.fin m trivial,A,λcs=>⟨rfl,λγ w _=>acm V (wu q hw) w⟩⟩
       . rename_i hw
         have J:=wu q hw;split at h
         . rename_i c K
           obtain⟨U,m,e⟩:=Fh.1 h;simp only[zG]at e;obtain⟨rfl,rfl⟩:=e;unfold YF at m;split at m
           . rename_i g R
             split at m
             . rename_i D E
               split at m
               . rename_i body H
                 split at m
                 . grind
                 rename_i a7;simp only[td]at m;subst m;refine⟨Frame.enter P g (c.args.map (Frame.eval ⟨fn,τ,.inRegion ο (i::μ)::k,ξ,.run,ν,none⟩)) .normal,⟨fn,τ,.inRegion ο (i::μ)::k,ξ,.run,ν,none⟩::ψ,?_,⟨q,A⟩,λcs=>⟨rfl,λγ w _=>?_⟩⟩
                 . refine⟨rfl,by simp[Frame.enter,E,H],rfl,rfl,rfl,rfl,by simp[Frame.enter,E],λt=>?_⟩
                   simp only[Frame.enter,E,IP,IE];rw[Array.getD_eq_getD_getElem?,sg];by_cases n:t<c.args.size
                   . rw[Q4 aq,KX aq]
                     simp only[Kv,Hi,ON];rw[Ie n];exact q.sv _
                   . rw[Mr F2,Fi F2]
                     simp only[zD,Array.length_toList,List.getElem?_replicate];split<;>trivial
                 . rw[tY V J,apply_pure (abY K R E H a7 rfl)]
                   simp only[stepG.apply,ZC,GStep.after];have u:(pure (.enter g (c.args.map (Frame.eval ⟨fn,τ,.inRegion ο (i::μ)::k,ξ,.run,ν,none⟩))):Sem Next).runT P w #[]=(.ok (.enter g (c.args.map (Frame.eval ⟨fn,τ,.inRegion ο (i::μ)::k,ξ,.run,ν,none⟩))) w,#[]):=rfl;simp only[u,ite_self,pj,G,List.cons_append];rfl
               grind
             grind
           grind
         . rename_i c K
           split at h
           . rename_i d hd
             obtain⟨U,m,e⟩:=Fh.1 h;simp only[zG]at e;obtain⟨rfl,rfl⟩:=e
             have Q:uI P (execOp (Frame.eval ⟨fn,τ,.inRegion ο (i::μ)::k,ξ,.run,ν,none⟩) o)=some (.defer d):=by
              unfold R2 at hd;split at hd
              . rename_i g hg
                split at hd
                . rename_i ha
                  simp only[td]at hd;subst hd;have em:(#[]:Array I8).map (Frame.eval ⟨fn,τ,.inRegion ο (i::μ)::k,ξ,.run,ν,none⟩)=#[]:=ap
                  simp only[execOp,K,resolve,hg,ha,em];rfl
                grind
              grind
             have p:=q.fin (x:=undef) m trivial;have e1:Frame.finish ⟨fn,τ,.inRegion ο (i::μ)::k,d::ξ,.run,ν,none⟩ undef={Frame.finish ⟨fn,τ,.inRegion ο (i::μ)::k,ξ,.run,ν,none⟩ undef with defers:=d::(Frame.finish ⟨fn,τ,.inRegion ο (i::μ)::k,ξ,.run,ν,none⟩ undef).defers}:=rfl;refine⟨{Frame.finish ⟨fn,τ,.inRegion ο (i::μ)::k,ξ,.run,ν,none⟩ undef with defers:=d::(Frame.finish ⟨fn,τ,.inRegion ο (i::μ)::k,ξ,.run,ν,none⟩ undef).defers},ψ,⟨p.fn,p.todo,congrArg (List.cons d) p.defers,p.mode,p.kind,p.ro,p.size,p.env⟩,A,λcs=>⟨rfl,λγ w _=>?_⟩⟩;rw[tY V J,apply_pure Q];have u:(pure (.defer d):Sem Next).runT P w #[]=(.ok (.defer d) w,#[]):=rfl;simp only[stepG.apply,ZC,u,ite_self,pj,GStep.after,G]
             grind
           grind
         . rename_i ad al
           split at h
           . rename_i v F
             obtain⟨U,m,e⟩:=Fh.1 h;simp only[zG]at e;obtain⟨rfl,rfl⟩:=e;obtain⟨x,Q,a8⟩:=ZJ hf (ρ':=Frame.eval ⟨fn,τ,.inRegion ο (i::μ)::k,ξ,.run,ν,none⟩) F (λz=>q.sv z);refine⟨_,ψ,q.fin m a8,A,λcs=>⟨rfl,λγ w _=>?_⟩⟩;rw[tY V J,apply_pure Q];have u:(pure (.value x):Sem Next).runT P w #[]=(.ok (.value x) w,#[]):=rfl;simp only[stepG.apply,ZC,u,ite_self,pj,GStep.after,G];rfl
           grind
   grind
def ry{P Wd f y}(i:f.At y):∀  n  {s st fr ψ},FR y s fr->sn y st ψ ->
 ∃m c a,FR y (sgo P f n s st).1 c/\sn y (sgo P f n s st).2 a/\∀cs,n8 P Wd m (G fr (ψ++cs)) (G c (a++cs))
 |0,s,st,fr,ψ,g,b=>⟨0,fr,ψ,g,b,λ_=>rfl⟩
 | n+1,s,st,fr,ψ,g,b=>by
   unfold sgo;cases e:ss P f s st with
   |none=>exact⟨0,fr,ψ,g,b,λ_=>rfl⟩
   |some p=>obtain⟨c,a,j,k,l⟩:=YG i e g b;obtain⟨m,h,d,o,q,r⟩:=ry i n j k;exact⟨m+1,h,d,o,q,λcs=>⟨_,l cs,r cs⟩⟩
end
open Go.Conc
open Go.ConcN (sumTo upd sumTo_upd upd_ne upd_same)
inductive TT(P:Rg)(m:Mo):az->au->YB->Type
 |step {k:az}{O:au}{g:YB}(N:ZD):g.status=.running->(∀k' O' g',N k' O' g'->TT P m k' O' g')->Hb P m.main k O g N->TT P m k O g
 |ghost {k:az}{O:au}{g:YB}(k2:az) (O2:au):qp k O k2 O2->TT P m k2 O2 g->TT P m k O g
 |fY {k:az}{O:au}{g:YB}(N:ZD):g.status=.running->m.fY k O g N->(∀k' O' g',N k' O' g'->TT P m k' O' g')->TT P m k O g
theorem T.tree{P m}(l:m.solo=false){k O g}(h:T P m (λ_ _ _=>False) k O g):Nonempty (TT P m k O g):=by
 induction h with
 |stop h=>grind
 |step N a _ c b=>exact⟨.step N a (λd e f i=>Classical.choice am) c⟩
 |ghost a _ b=>exact⟨.ghost _ _ a (Classical.choice b)⟩
 |phase N a _ _ _=>grind
 |fY N j a _ b=>exact⟨.fY N j a (λd e f i=>Classical.choice am)⟩
def TT.running{P m k O g}(t:TT P m k O g):g.status=.running:=by
 induction t with
 |step _ h _ _=>exact h
 |ghost _ _ _ _ a=>omega
 |fY _ h _ _=>exact h
structure Node  P  where
 m:Mo
 k:az
 O:au
 g:YB
 t:TT P m k O g
inductive vT{P:Rg}:Node P->Node P->Prop
 |step {m:Mo}{k k':az}{O O':au}{g g':YB}(N:ZD) (h1:g.status=.running) (c:∀k' O' g',N k' O' g'->TT P m k' O' g') (h3:Hb P m.main k O g N) (hn:N k' O' g'):vT ⟨m,k',O',g',c k' O' g' hn⟩ ⟨m,k,O,g,.step N h1 c h3⟩
 |ghost {m:Mo}{k:az}{O:au}{g:YB}(k2:az) (O2:au) (h:qp k O k2 O2) (c:TT P m k2 O2 g):vT ⟨m,k2,O2,g,c⟩ ⟨m,k,O,g,.ghost k2 O2 h c⟩
 |fY {m:Mo}{k k':az}{O O':au}{g g':YB}(N:ZD) (h0:g.status=.running) (h1:m.fY k O g N) (c:∀k' O' g',N k' O' g'->TT P m k' O' g') (hn:N k' O' g'):vT ⟨m,k',O',g',c k' O' g' hn⟩ ⟨m,k,O,g,.fY N h0 h1 c⟩
def ack{P m}:∀{k O g}  t ,Acc vT (⟨m,k,O,g,t⟩:Node P):=by
 intro k O g t;induction t with
 |step N d c f b=>exact⟨_,λy a=>by cases a with|step _ _ _ _ e=>grind⟩
 |ghost i j h c b=>exact⟨_,λy a=>by cases a;omega⟩
 |fY N l d c b=>exact⟨_,λy a=>by cases a with|fY _ _ _ _ e=>grind⟩
theorem Jj{P}:∀x:Node P,Acc vT x:=λ⟨_,_,_,_,t⟩=>ack t
def R5{P}(n:Nat)(f' f:Nat->Node P):Prop:=∃i,i<n/\(∀j,j≠i->f' j=f j)/\vT (f' i) (f i)
def F8{P}:∀  n  (f:Nat->Node P),Acc (R5 n) f
 |0,f=>⟨_,λy ⟨i,c,_⟩=>ac⟩
 | n + 1,f=>by
   have key:∀x:Node P,Acc vT x->∀f:Nat->Node P,f n=x->Acc (R5 (n+1)) f:=by
    intro x d;induction d with
    | intro x _ e=>
      intro f l;have g:=F8 n f;induction g with
      | intro f _ a=>
        refine⟨_,λh ⟨i,c,b,j⟩=>?_⟩;by_cases k:i=n
        . grind
        . exact a h ⟨i,ac,b,j⟩ am
   grind [Jj]
def acY{P}  n :WellFounded (R5 (P:=P) n):=⟨F8 n⟩
structure xX  P  where
 S:Type
 r:S->S->Prop
 wf:WellFounded r
 mo:S->Nat->Mo
 main:∀s i,(mo s i).main=(i==0)
 top:Nat
 lk:Nat
 ab0:top<=lk
 Live:S->ZA
 Walk:S->ZA
 At:S->Nat->ZD
 F9:S->ZA
 uT:S->ZA
 LQ:S->Nat->ZD
 deaf:S->Ct
 Wd:FD
 Ex:S->Zz->ZF->ZA->ZA->Nat->World->Trace->Prop
 WN:S->Nat->Node P->Prop
 tie:∀s i x y,vT y x->WN s i x->WN s i y
def blk(g:YB):YB:={g with status:=.blocked}
def R7(P:Rg)(Wd:FD)(F9:Prop)(q:Nat)(g g':YB):Prop:=(F9/\g=blk g'/\q=0)\/n8 P Wd q g g'
structure cZ{P}(A:xX P)(Z:Base)  s  (f:Nat->Node P) (q:Ct)  kk   OO   J M  (gs:Da)  w   t :Prop where
 lk:Z.lk=A.lk
 eU:dX Z kk OO J M w t
 live:∀i,A.Live s i->i<A.top/\gs[i]?=some (f i).g/\(f i).m=A.mo s i/\(f i).k=kk i/\(f i).O=OO i/\(f i).g.status=.running/\Deaf t i=0/\(i=0\/J i)/\A.WN s i (f i)
 walk:∀i,A.Walk s i -> ¬A.Live s i/\i<A.top/\Deaf t i=A.deaf s i/\∃g g',gs[i]?=some g/\A.At s i (kk i) (OO i) g'/\R7 P A.Wd (A.F9 s i) (q i) g g'
 held:∀i,A.uT s i -> ¬A.Live s i/\¬A.Walk s i/\i<A.top/\Deaf t i=0/\∃g,gs[i]?=some g/\g.status=.blocked/\A.LQ s i (kk i) (OO i) g
 rest:∀i g,gs[i]?=some g -> ¬A.Live s i -> ¬A.Walk s i -> ¬A.uT s i->i≠0/\QuitsD P (q i) (Deaf t i) g
 above:∀j,gs.size<=j->Deaf t j=0
 ex:A.Ex s kk OO J M gs.size w t
structure Ga{P}(A:xX P):Prop where
 own:∀{s kk OO J M n w t i k' O' w' es},A.Ex s kk OO J M n w t->A.Live s i->i<n->Eff (kk i) (OO i) w k' O' w' es->∀u ,(∀op∈u,op.g=i)->qg u->(∀op∈u,∃e,nY (kk i) (OO i) w.heap.size e/\op.act=.ofEvent e)->A.Ex s (dz kk i k') (dz OO i O') J M n w' (t++u)
 slip:∀{s kk OO J M n w t i},A.Ex s kk OO J M n w t->∀u ,(∀op∈u,op.g=i)->(∀op∈u,op.act.touch?=none/\∀a,op.act≠.mark (.release a))->A.Ex s kk OO J M n w (t++u)
 draw:∀{s kk OO J M n w t},A.Ex s kk OO J M n w t->∀d,A.Ex s kk OO J M n (w.at d) t
 zf:∀{s kk OO J M n w t j g},A.Ex s kk OO J M n w t->A.uT s j->∀k O,A.LQ s j k O g->g.again w=g
 wd:∀{s kk OO J M n w t},A.Ex s kk OO J M n w t->A.Wd w
 qu:∀{s i k O g},A.At s i k O g->g.status=.running/\g.offers=none
theorem aat{P a a' g w}(h:g.again w=g):woken P a a' w g=g:=by
 unfold Go.Conc.woken
 grind
def Gb{g}(a:g.status=.running)(b:g.offers=none)  w :(blk g).again w=g:=by obtain⟨fr,cs,c,d,off⟩:=g;subst a b;simp[blk,Goroutine.again]
def n8.first{P Wd n g g'}(h:n8 P Wd n g g')(b:g'.status=.running):g.status=.running:=by
 cases n with
 |zero=>rw[show g=g' from h];omega
 |succ n=>obtain⟨c,a,_⟩:=h;exact a.1
def agh{e}(h:e.mute=true)  a :MemAct.ofEvent e≠.mark (.release a):=by
 obtain⟨loc,wr,b⟩:=e;cases loc with
 |mark m=>cases m<;>simp_all [Event.mute,MemAct.ofEvent]
 |_=>simp_all [Event.mute]
def runs(gs:Da):Nat:=sumTo gs.size λj=>if(gs[j]?).any (λg=>g.status==.running)then 1 else 0
section
variable{P:Rg}{A:xX P}{Z:Base}{s:A.S}{f:Nat->Node P}{q:Ct}{kk:Zz}{OO:ZF}{J M:ZA}{gs:Da}{w:World}{t:Trace}
def dX.at(h:dX Z kk OO J M w t)  d :dX Z kk OO J M (w.at d) t:=⟨λi=>⟨(h.sat i).apart,(h.sat i).cell,(h.sat i).sh,(h.sat i).obj,(h.sat i).tail,(h.sat i).part⟩,h.om,h.tW,h.Hr,h.clean,h.seen,h.acc,h.n0,h.Dl,h.rp,h.vH,h.Fo.step (.refl _) rfl (AK _) (λ_ _=>rfl),h.mine⟩
def cZ.awake(B:Ga A)(h:cZ A Z s f q kk OO J M gs w t):∀g∈gs,Go.Conc.awake g:=by
 intro g m;obtain⟨i,n,rfl⟩:=Array.mem_iff_getElem.1 m;have d:=Ie n;by_cases j:A.Live s i
 . obtain⟨_,c,_,_,_,b,_⟩:=h.live i j
   intro x a;grind
 by_cases k:A.Walk s i
 . obtain⟨_,_,_,g,o,c,b,e⟩:=h.walk i k
   have:gs[i]=g:=am
   rw[this];rcases e with⟨_,rfl,_⟩|e
   . intro x a;cases a
   . have:=e.first (B.qu b).1
     intro x a;grind
 by_cases l:A.uT s i
 . obtain⟨_,_,_,_,g,c,b,_⟩:=h.held i l
   intro x a;grind
 . have c:=(h.rest i _ d j k l).2
   intro x a;rcases c.status with b|b<;>rw[b]at a<;>cases a
structure Rest(A:xX P)  s  (f:Nat->Node P) (q:Ct) (kk:Zz) (OO:ZF)  t   i  (gs':Da):Prop where
 live:∀j,j≠i->A.Live s j->gs'[j]?=some (f j).g
 walk:∀j,j≠i->A.Walk s j->∃g g',gs'[j]?=some g/\A.At s j (kk j) (OO j) g'/\R7 P A.Wd (A.F9 s j) (q j) g g'
 held:∀j,j≠i->A.uT s j->∃g,gs'[j]?=some g/\g.status=.blocked/\A.LQ s j (kk j) (OO j) g
 rest:∀j g,j≠i->gs'[j]?=some g -> ¬A.Live s j -> ¬A.Walk s j -> ¬A.uT s j->j≠0/\QuitsD P (q j) (Deaf t j) g
def cZ.WO(B:Ga A)(h:cZ A Z s f q kk OO J M gs w t){i a a' x w'}(D:∀j g,A.uT s j->A.LQ s j (kk j) (OO j) g->g.again w'=g):Rest A s f q kk OO t i ((gs.map (woken P a a' w')).setIfInBounds i x):=by
 have c:∀j,j≠i->((gs.map (woken P a a' w')).setIfInBounds i x)[j]?=(gs[j]?).map (woken P a a' w'):=am;refine⟨λj k l=>?_,λj k m=>?_,λj k n=>?_,λj g k r l m n=>?_⟩
 . obtain⟨_,o,_,_,_,e,_⟩:=h.live j l
   grind [woken_run]
 . obtain⟨_,_,_,g,b,o,e,d⟩:=h.walk j m
   obtain⟨v,E⟩:=B.qu e;rcases d with⟨d,rfl,u⟩|d
   . by_cases p:woken P a a' w' (blk b)=blk b
     . exact⟨blk b,b,am,e,.inl ⟨d,rfl,u⟩⟩
     . have y:woken P a a' w' (blk b)=b:=by
        unfold Go.Conc.woken at p ⊢
        simp_all [Gb]
       exact⟨b,b,am,e,.inr (by rw[u];rfl)⟩
   . exact⟨g,b,by rw[c j k,o,IP,woken_run (d.first v)],e,.inr d⟩
 . obtain⟨_,_,_,_,g,o,e,d⟩:=h.held j n
   grind [aat]
 . rw[c j k]at r
   obtain⟨z,C,rfl⟩:=Fh.1 r;have F:=h.rest j z C l m n
   grind [woken_quitsD]
set_option maxHeartbeats 2000000 in
def acD(B:Ga A)(Fin:ZD)
 (al:∀{s f q kk OO J M gs w t},cZ A Z s f q kk OO J M gs w t->∃(i:Nat) (g:YB),gs[i]?=some g/\g.status=.running)
 (fY:∀ {s f q kk OO J M gs w t}  sl   i  {k O g N}  h0   h   c ,cZ A Z s f q kk OO J M gs w t->A.Live s i->f i=⟨A.mo s i,k,O,g,.fY N h0 h c⟩ ->
   ∃ ο m',runT P (crowd gs w sl) i=(.next m',ο)/\
     ((∃s' f' q' kk' OO' J' M' gs' w' C,m'=crowd gs' w' C/\A.r s' s/\cZ A Z s' f' q' kk' OO' J' M' gs' w' (t++ο))\/
      (∃gs' w' C k' O' g',m'=crowd gs' w' C/\iz P Z.W0 k' O' g' gs' w' (t++ο)/\Fin k' O' g')))
 (stop:∀{s f q kk OO J M gs w t}  sl   i  {g},cZ A Z s f q kk OO J M gs w t->A.Walk s i->gs[i]?=some g->A.At s i (kk i) (OO i) g->q i=0 ->
   ∃ ο m',runT P (crowd gs w sl) i=(.next m',ο)/\
     ((∃s' f' q' kk' OO' J' M' gs' w' C,m'=crowd gs' w' C/\A.r s' s/\cZ A Z s' f' q' kk' OO' J' M' gs' w' (t++ο))\/
      (∃gs' w' C k' O' g',m'=crowd gs' w' C/\iz P Z.W0 k' O' g' gs' w' (t++ο)/\Fin k' O' g')\/
      (A.F9 s i/\m'=crowd (gs.setIfInBounds i (blk g)) w sl/\ο=#[]))):
 ∀  s   n   f   rr   q   kk   OO   J M   gs   w   sl   t ,sumTo gs.size q=n->runs gs=rr->cZ A Z s f q kk OO J M gs w t ->
  ∃N gs' w' C t' k' O' g',runNT P N (crowd gs w sl) t=(.next (crowd gs' w' C),t')/\iz P Z.W0 k' O' g' gs' w' t'/\Fin k' O' g':=by
 intro s
 induction s using A.wf.induction with
 |_ s b5=>
 intro n
 induction n using Nat.strongRecOn with
 |ind n b6=>
 intro f
 induction f using(acY (P:=P) A.top).induction with
 |_ f b7=>
 intro rr
 induction rr using Nat.strongRecOn with
 |ind rr bx=>
 intro q kk OO J M gs w sl t hn bA D;obtain⟨i0,x0,e0,r0⟩:=al D;obtain⟨i,g,d,C,hi,hg,U⟩:=crowd_pick (P:=P) (w:=w) (sl:=sl) (D.awake B) ⟨i0,_,e0,r0⟩;have Q:i<gs.size:=(CS.1 hi).1;have o:cZ A Z s f q kk OO J M gs (w.at d) t:=⟨D.lk,D.eU.at d,D.live,D.walk,D.held,D.rest,D.above,B.draw D.ex d⟩;have b8:∀j,j<A.top->j≠Z.lk:=λj y=>by rw[D.lk];have:=A.ab0;omega
 by_cases hl:A.Live s i
 . obtain ⟨ht,h1,aO,V,h3,h4,h5,h6,h7⟩:=o.live i hl
   rw[hi]at h1;have aW:=KE h1;cases hf:f i with
   | mk mm k O g0 tr=>
     rw[hf]at aO V h3 h4 aW h7;simp only at aO V h3 h4 aW;subst aW;subst aO;cases tr with
     | step N hr c hs=>
       obtain⟨g',w',es,k',O',aC,bB,b0,aE⟩:=hs (w.at d) (by rw[V,h3];exact o.eU.sat i)
       rw[A.main]at aC;have K:=runT_crowd_go (P:=P) (sl:=C) (i:=i) hi aC;have hE:Eff (kk i) (OO i) (w.at d) k' O' w' es.toList:=by rw[<-V,<-h3];exact bB
       have E:qg (MemOp.ofEvents i g.frame.fn g.frame.place es):=Dp (λe he=>hE.evs e he) i _ _
       have G:∀op∈MemOp.ofEvents i g.frame.fn g.frame.place es,op.g=i:=λop z=>by obtain⟨e,_,rfl⟩:=zj z;rfl
       have hP:=o.eU.own (i:=i) (b8 i ht) h6 (fn:=g.frame.fn) (pos:=g.frame.place) hE b0;have X:=B.own o.ex hl Q hE _ G E (λop z=>by obtain⟨e,he,rfl⟩:=zj z;exact⟨e,hE.evs e (by simpa using he),rfl⟩)
       have hR:=o.WO B (i:=i) (a:=g) (a':=g') (x:=g') (w':=w') (λj x hh W=>B.zf X hh _ _ W)
       have H:cZ A Z s (dz f i ⟨A.mo s i,k',O',g',c k' O' g' aE⟩) q (dz kk i k') (dz OO i O') J M ((gs.map (woken P g g' w')).setIfInBounds i g') w' (t++MemOp.ofEvents i g.frame.fn g.frame.place es):=by
        refine⟨D.lk,hP,λj y=>?_,λj y=>?_,λj y=>?_,λj x W n1 n2 n3=>?_,λj y=>?_,by simpa using X⟩
        . obtain⟨I,T,pm,R,Y,p4,p5,p6⟩:=o.live j y
          by_cases l:j=i
          . subst l
            rw[aD,aD,aD,Ik (by simpa using Q),dH E]
            exact⟨I,rfl,rfl,rfl,rfl,(c k' O' g' aE).running,p5,p6.1,A.tie _ _ _ _ (.step N hr c hs aE) h7⟩
          . rw[aK _ _ l,aK _ _ l,aK _ _ l,hR.live j l y,dH E]
            exact⟨I,rfl,pm,R,Y,p4,p5,p6⟩
        . obtain⟨I,T,R,_⟩:=o.walk j y
          have l:j≠i:=λe=>I (e ▸ hl)
          rw[aK _ _ l,aK _ _ l,dH E];exact⟨I,T,R,hR.walk j l y⟩
        . obtain⟨I,T,R,Y,_⟩:=o.held j y
          have l:j≠i:=λe=>I (e ▸ hl)
          rw[aK _ _ l,aK _ _ l,dH E];exact⟨I,T,R,Y,hR.held j l y⟩
        . have l:j≠i:=λe=>n1 (e ▸ hl)
          rw[dH E];exact hR.rest j x l W n1 n2 n3
        . rw[dH E];exact D.above j (by simpa using y)
       obtain⟨N',gs',a7,L,t',a8,a9,ab,e1,e2,e3⟩:=b7 _ ⟨i,ht,λj y=>aK _ _ y,by rw[aD,hf];exact .step N hr c hs aE⟩ _ q _ _ J M _ w' C _ (by simpa using hn) rfl H
       exact⟨N'+1,gs',a7,L,t',a8,a9,ab,by simp only[runNT,U,K];exact e1,e2,e3⟩
     | ghost k2 O2 b1 c=>
       obtain⟨b0,hE⟩:=b1 w (by rw[V,h3];exact D.eU.sat i)
       have b9:Eff (kk i) (OO i) w k2 O2 w (#[]:KP).toList:=by rw[<-V,<-h3];exact hE
       have bC:qg (MemOp.ofEvents i 0  "" #[]):=Dp (k:=kk i) (O:=OO i) (B:=0) (λe he=>by simp at he) i _ _
       have av:t++MemOp.ofEvents i 0  "" #[]=t:=by rw[ofEvents_eq];simp
       have hP:=D.eU.own (i:=i) (b8 i ht) h6 (fn:=0) (pos:=  "") b9 b0
       have X:=B.own D.ex hl Q b9 _ (λop z=>by obtain⟨e,_,rfl⟩:=zj z;rfl) bC (λop z=>by obtain⟨e,he,rfl⟩:=zj z;simp at he)
       rw[av]at hP X
       have H:cZ A Z s (dz f i ⟨A.mo s i,k2,O2,g,c⟩) q (dz kk i k2) (dz OO i O2) J M gs w t:=by
        refine⟨D.lk,hP,λj y=>?_,λj y=>?_,λj y=>?_,D.rest,D.above,X⟩
        . obtain⟨I,T,pm,R,Y,p4,p5,p6⟩:=D.live j y
          by_cases l:j=i
          . subst l
            rw[aD,aD,aD];exact⟨I,hi,rfl,rfl,rfl,h4,p5,p6.1,A.tie _ _ _ _ (.ghost k2 O2 b1 c) h7⟩
          . rw[aK _ _ l,aK _ _ l,aK _ _ l]
            exact⟨I,T,pm,R,Y,p4,p5,p6⟩
        . have l:j≠i:=λe=>(D.walk j y).1 (e ▸ hl)
          rw[aK _ _ l,aK _ _ l];exact D.walk j y
        . have l:j≠i:=λe=>(D.held j y).1 (e ▸ hl)
          rw[aK _ _ l,aK _ _ l];exact D.held j y
       exact b7 _ ⟨i,ht,λj y=>aK _ _ y,by rw[aD,hf];exact .ghost k2 O2 b1 c⟩ _ q _ _ J M gs w sl t hn rfl H
     | fY N h0 h c=>
       obtain⟨ο,m',e1,e2⟩:=fY C i h0 h c o hl hf
       rcases e2 with⟨s',f',q',kk',OO',J',M',gs',w',ad,rfl,hr,H⟩|⟨gs',w',ad,k',O',g',rfl,hS,hF⟩
       . obtain⟨N',b2,w2,b3,t2,k2,O2,g2,e3,e4,e5⟩:=b5 s' hr _ f' _ q' kk' OO' J' M' gs' w' ad _ rfl rfl H
         exact⟨N'+1,b2,w2,b3,t2,k2,O2,g2,by simp only[runNT,U,e1];exact e3,e4,e5⟩
       . exact⟨1,gs',w',ad,_,k',O',g',by simp only[runNT,U,e1],hS,hF⟩
 by_cases hk:A.Walk s i
 . obtain ⟨_,ht,c7,g1,g',h1,V,h3⟩:=o.walk i hk
   obtain rfl:g1=g:=by rw[hi]at h1;exact(KE h1).symm
   rcases h3 with⟨_,hb,_⟩|h3
   . rw[hb]at hg;cases hg
   cases S:q i with
   | zero=>
     rw[S]at h3;obtain rfl:g1=g':=h3;obtain⟨ο,m',e1,e2⟩:=stop C i o hk hi V S
     rcases e2 with⟨s',f',q',kk',OO',J',M',gs',w',ad,rfl,hr,H⟩|⟨gs',w',ad,k',O',g',rfl,hS,hF⟩|⟨bm,rfl,rfl⟩
     . obtain⟨N',b2,w2,b3,t2,k2,O2,g2,e3,e4,e5⟩:=b5 s' hr _ f' _ q' kk' OO' J' M' gs' w' ad _ rfl rfl H
       exact⟨N'+1,b2,w2,b3,t2,k2,O2,g2,by simp only[runNT,U,e1];exact e3,e4,e5⟩
     . exact⟨1,gs',w',ad,_,k',O',g',by simp only[runNT,U,e1],hS,hF⟩
     ·
      have ax:∀j,j≠i->(gs.setIfInBounds i (blk g1))[j]?=gs[j]?:=λj y=>It (vj y)
      have H:cZ A Z s f q kk OO J M (gs.setIfInBounds i (blk g1)) (w.at d) t:=by
       refine⟨D.lk,o.eU,λj y=>?_,λj y=>?_,λj y=>?_,λj x W n1 n2 n3=>?_,λj y=>D.above j (by simpa using y),by simpa using o.ex⟩
       . have l:j≠i:=λe=>hl (e ▸ y)
         rw[ax j l];exact o.live j y
       . obtain⟨I,T,R,Y⟩:=o.walk j y
         refine⟨I,T,R,?_⟩
         by_cases l:j=i
         . subst l
           exact⟨blk g1,g1,by rw[Ik Q],V,.inl ⟨bm,rfl,S⟩⟩
         . rw[ax j l];exact Y
       . have l:j≠i:=λe=>(o.held j y).2.1 (e ▸ hk)
         rw[ax j l];exact o.held j y
       . have l:j≠i:=λe=>n2 (e ▸ hk)
         rw[ax j l]at W;exact o.rest j x W n1 n2 n3
      have b4:runs (gs.setIfInBounds i (blk g1))<rr:=by
       rw[<-bA];unfold runs;rw[KV];obtain⟨F,hF⟩:=S1 (λj=>if(gs[j]?).any (λg=>g.status==.running)then 1 else 0:Ct)
       have hu:(λj=>if((gs.setIfInBounds i (blk g1))[j]?).any (λg=>g.status==.running)then 1 else 0)=upd F i 0:=by
        funext j
        by_cases l:j=i
        . subst l
          rw[upd_same,Ik Q];rfl
        . rw[upd_ne _ _ l,ax j l,hF]
       rw[hu,<-hF];have h1:F i=1:=by rw[hF];simp[hi,hg]
       have V:sumTo gs.size (upd F i 0)+F i=sumTo gs.size F+0:=sumTo_upd F 0 id Q;omega
      obtain⟨N',gs',a7,L,t',a8,a9,ab,e3,e4,e5⟩:=bx _ b4 q kk OO J M _ _ C t (by simpa using hn) rfl H
      refine⟨N'+1,gs',a7,L,t',a8,a9,ab,?_,e4,e5⟩;simp only[runNT,U,e1];rw[show t++(#[]:Array MemOp)=t by simp]
      exact e3
   | succ k=>
     rw[S]at h3;obtain⟨g2,⟨c8,aC⟩,bq⟩:=h3;have ay:=aC (i==0) (w.at d) (B.wd o.ex);have K:=runT_crowd_go (P:=P) (sl:=C) (i:=i) hi ay;have av:t++MemOp.ofEvents i g1.frame.fn g1.frame.place #[]=t:=by rw[ofEvents_eq];simp
     have hR:=o.WO B (i:=i) (a:=g1) (a':=g2) (x:=g2) (w':=w.at d) (λj x hh W=>B.zf o.ex hh _ _ W)
     have br:sumTo gs.size (upd q i k)+(k+1)=sumTo gs.size q+k:=by have:=sumTo_upd q k id Q;simpa[S]using this
     have H:cZ A Z s f (upd q i k) kk OO J M ((gs.map (woken P g1 g2 (w.at d))).setIfInBounds i g2) (w.at d) t:=by
      refine⟨D.lk,o.eU,λj y=>?_,λj y=>?_,λj y=>?_,λj x W n1 n2 n3=>?_,λj y=>D.above j (by simpa using y),by simpa using o.ex⟩
      . have l:j≠i:=λe=>hl (e ▸ y)
        obtain⟨I,T,pp⟩:=o.live j y;exact⟨I,hR.live j l y,pp⟩
      . obtain⟨I,T,R,Y⟩:=o.walk j y
        refine⟨I,T,R,?_⟩
        by_cases l:j=i
        . subst l
          exact⟨g2,g',by rw[Ik (by simpa using Q)],V,.inr (by rw[upd_same];exact bq)⟩
        . rw[upd_ne q k l];exact hR.walk j l y
      . have l:j≠i:=λe=>(o.held j y).2.1 (e ▸ hk)
        obtain⟨I,T,R,Y,_⟩:=o.held j y;exact⟨I,T,R,Y,hR.held j l y⟩
      . have l:j≠i:=λe=>n2 (e ▸ hk)
        rw[upd_ne q k l];exact hR.rest j x l W n1 n2 n3
     obtain⟨N',gs',a7,L,t',a8,a9,ab,e1,e2,e3⟩:=b6 (sumTo gs.size (upd q i k)) ac f _ (upd q i k) kk OO J M _ (w.at d) C _ ap rfl H
     refine⟨N'+1,gs',a7,L,t',a8,a9,ab,?_,e2,e3⟩;simp only[runNT,U,K,av];exact e1
 by_cases hh:A.uT s i
 . obtain⟨_,_,_,_,g1,h1,V,_⟩:=D.held i hh
   rw[hi]at h1;obtain rfl:=KE h1;rw[V]at hg;cases hg
 ·
  obtain⟨aL,hq⟩:=o.rest i g hi hl hk hh;cases S:q i with
  |zero=>rw[S]at hq;rw[hq.1]at hg;cases hg
  | succ k=>
    have c9:=hq;rw[S]at hq
    rcases hq with⟨hf,_⟩|⟨_,g',es,hm,ay,bE⟩
    . rw[hf]at hg;cases hg
    have c5:(i==0)=false:=by simpa using aL
    have K:=runT_crowd_go (P:=P) (sl:=C) (i:=i) hi (by rw[c5];exact ay (w.at d))
    have G:∀op∈MemOp.ofEvents i g.frame.fn g.frame.place es,op.g=i:=λop z=>by obtain⟨e,_,rfl⟩:=zj z;rfl
    have aF:∀op∈MemOp.ofEvents i g.frame.fn g.frame.place es,op.act.touch?=none:=λop z=>by obtain⟨e,he,rfl⟩:=zj z;exact touch_mute (hm e he)
    have c6:∀op∈MemOp.ofEvents i g.frame.fn g.frame.place es,∀a,op.act≠.mark (.release a):=λop z a=>by obtain⟨e,he,rfl⟩:=zj z;have:=hm e he;exact agh this a
    have bw:∀op∈MemOp.ofEvents i g.frame.fn g.frame.place es,op.act.low (w.at d).heap.size:=λop z=>by obtain⟨e,he,rfl⟩:=zj z;exact low_mute (hm e he) _
    have hP:=o.eU.AO (w':=w.at d) (kk':=kk) (OO':=OO) (J':=J) (M':=M) (u:=MemOp.ofEvents i g.frame.fn g.frame.place es) (λa b=>a=b) rfl ⟨⟨.refl _,rfl⟩,λ_ _=>rfl⟩ (λb=>.inl rfl) bw (λa b e n x _ _ _ h=>by subst e;exact h.app _) (λj b n v h=>⟨j,rfl,h⟩) (λj b x h=>⟨j,rfl,h⟩) (λj b x h=>⟨j,rfl,h,λ_ h=>h⟩) o.eU.om
     (λsaid=>noRace_append (o.eU.clean said) (λop z=>G op z) λn a ha op z b hb _=>by rw[aF op z]at hb;cases hb) (λop z a ha=>by rw[aF op z]at ha;cases ha) (λm op a z ha=>by rw[aF op (K9 z)]at ha;cases ha)
     (λn a ha hm h=>h.elim (λ⟨j,h1,V⟩=>.inr (.inl ⟨j,h1,V.app _⟩)) (λ⟨p,h1,V⟩=>.inr (.inr (.inl ⟨p,h1,V.app _⟩))))
    have X:=B.slip (i:=i) o.ex _ G (λop z=>⟨aF op z,c6 op z⟩)
    have hR:=o.WO B (i:=i) (a:=g) (a':=g') (x:=g') (w':=w.at d) (λj x hh W=>B.zf o.ex hh _ _ W)
    have br:sumTo gs.size (upd q i k)+(k+1)=sumTo gs.size q+k:=by have:=sumTo_upd q k id Q;simpa[S]using this
    have H:cZ A Z s f (upd q i k) kk OO J M ((gs.map (woken P g g' (w.at d))).setIfInBounds i g') (w.at d) (t++MemOp.ofEvents i g.frame.fn g.frame.place es):=by
     refine⟨D.lk,hP,λj y=>?_,λj y=>?_,λj y=>?_,λj x W n1 n2 n3=>?_,λj y=>?_,by simpa using X⟩
     . have l:j≠i:=λe=>hl (e ▸ y)
       obtain⟨I,T,pm,R,Y,p4,p5,p6⟩:=o.live j y;rw[Deaf_other t (vj l) _ G];exact⟨I,hR.live j l y,pm,R,Y,p4,p5,p6⟩
     . have l:j≠i:=λe=>hk (e ▸ y)
       obtain⟨I,T,R,Y⟩:=o.walk j y;rw[Deaf_other t (vj l) _ G,upd_ne q k l];exact⟨I,T,R,hR.walk j l y⟩
     . have l:j≠i:=λe=>hh (e ▸ y)
       obtain⟨I,T,R,Y,_⟩:=o.held j y;rw[Deaf_other t (vj l) _ G];exact⟨I,T,R,Y,hR.held j l y⟩
     . by_cases l:j=i
       . subst l
         rw[Ik (by simpa using Q)]at W
         obtain rfl:=KE W;rw[upd_same,Deaf_own];exact⟨aL,bE⟩
       . rw[upd_ne q k l,Deaf_other t (vj l) _ G]
         exact hR.rest j x l W n1 n2 n3
     . rw[Deaf_other t (g':=i) (by simp at y;omega) _ G]
       exact D.above j (by simpa using y)
    obtain⟨N',gs',a7,L,t',a8,a9,ab,e1,e2,e3⟩:=b6 (sumTo gs.size (upd q i k)) ac f _ (upd q i k) kk OO J M _ (w.at d) C _ ap rfl H
    exact⟨N'+1,gs',a7,L,t',a8,a9,ab,by simp only[runNT,U,K];exact e1,e2,e3⟩
end

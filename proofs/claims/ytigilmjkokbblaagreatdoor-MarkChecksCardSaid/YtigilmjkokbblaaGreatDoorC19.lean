/- Part 19 of the proof. -/
import Derived.Conc.CrowdComm
import Derived.Test.YtigilmjkokbblaaGreatDoorC18
set_option linter.all false
namespace Go.bd
open Go.Conc
open Go.ConcN (sumTo upd sumTo_upd upd_ne upd_same)
structure eu where
 b:Nat
 n:Nat
 cF:Nat
 fb:Nat
 fo:Nat
 gb:Nat
 mb:Nat
 GI:jB->Prop
 res:Nat->AV
 nm:Ae
 ng:JE
 hb:0<b
 hn:n<=900
 d1:cF≠fb
 d2:cF≠gb
 d3:cF≠mb
 d4:fb≠gb
 d5:fb≠mb
 d6:gb≠mb
def ja:ah->ai->Goroutine->Prop:=λ_ _ _=>False
def sX:Nat->Option Value:=λ_=>none
def bS(fo:Nat):Nat->Option Value:=λi=>if i=fo then some (.int .i32 0)else if i=fo+1 then some (.int .u32 0)else none
section
variable(P:Program)(A:eu)(Fin:ah->ai->Goroutine->Prop)
def PE(k:ah)(O:ai)(g:Goroutine)(N:ah->ai->Goroutine->Prop):Prop:=
 ∃ kind c rest e,kind≠.early/\g=G (Frame.enter P A.nm.lock #[.pointer (some ⟨A.fb,A.fo,none⟩)] kind) (c::rest)/\O A.fb=none/\k.sh A.fb=some e/\
   ∀b x a,k.Le b->mr b x a->A.GI a->O A.mb=none->N b ((O.set A.mb x).set A.fb (.part sX)) (kR kind c rest (.tuple #[]))
def G2(k:ah)(O:ai)(g:Goroutine)(N:ah->ai->Goroutine->Prop):Prop:=
 ∃ kind c rest f x a,kind≠.early/\g=G (Frame.enter P A.nm.unlock #[.pointer (some ⟨A.fb,A.fo,none⟩)] kind) (c::rest)/\O A.fb=some (.part f)/\O A.mb=some x/\mr k x a/\A.GI a/\
   N k ((O.del A.mb).del A.fb) (kR kind c rest (.tuple #[]))
def qH:Mo:=⟨false,false,λk O g N=>N=ja/\∃a fn tmps todo,P.funcs[a]?=some fn/\fn.results=#[]/\g=G (Frame.enter P A.ng.done #[.pointer (some ⟨A.gb,0,none⟩)] .deferred) [kX P a tmps todo,di P]⟩
def lC(j:Nat):Mo:=⟨false,false,λk O g N=>PE P A k O g N\/G2 P A k O g N\/(N=ja/\O A.fb=none/\∃a z v,(∀w,Sat k O w->stepG P false g w=.comm a #[scase A.cF v z] true .send w #[])/\V k v (A.res j)/\T P (qH P A) ja k O (Go.Conc.served a undef))⟩
def rL:Mo:=⟨false,false,λk O g N=>N=ja/\∃a n,mayWake P g=true/\(∀w s r b,Sat k O w->w.heap[A.cF]?=some (.chan 0 #[] false s r b)->stepG P false g w=.go a {w with heap:=w.heap.setIfInBounds A.cF (.chan 0 #[] true s r b)} #[⟨.obj A.cF,false,true⟩,⟨.obj A.cF,true,true⟩])/\QuitsD P n 0 a⟩
def xH:Mo:=⟨false,false,λk O g N=>N=ja/\∃c rest,g=G (Frame.enter P A.ng.wait #[.pointer (some ⟨A.gb,0,none⟩)] .normal) (c::rest)/\∀a,k.Le a->T P (rL P A) ja a O (kR .normal c rest (.tuple #[]))⟩
def dP(k:ah)(O:ai)(g a:Goroutine)(z:Value):Prop:=∀w,Sat k O w->stepG P true g w=.comm a #[rcase A.cF z] true (.recv true) w #[]
def qV:Nat->List Nat->Mo
 | 0,R=>⟨true,false,λk O g N=>N=ja/\∃b z,dP P A k O g b z/\dP P A k O b b z/\b.status=.running/\(∃e,k.sh A.fb=some e)/\
    ∀c x a,k.Le c->mr c x a->A.GI a->Fin c ((O.set A.mb x).set A.fb (.part (bS A.fo))) (Go.Conc.served b (.tuple #[z,.bool false]))⟩
 | m + 1,R=>⟨true,false,λk O g N=>N=ja/\∃b z,dP P A k O g b z/\dP P A k O b b z/\b.status=.running/\
     ∀j∈R,∀c v,k.Le c->V c v (A.res j)->T P (qV m (R.erase j)) ja c O (Go.Conc.served b (.tuple #[v,.bool true]))⟩
def Ag:Nat->Mo
 |0=>⟨true,false,λk O g N=>N=ja/\∃a child,(∀w,Sat k O w->stepG P true g w=.spawn a child w #[])/\T P (xH P A) ja k ai.bot child/\T P (qV P A Fin A.n (List.range A.n)) ja k O a⟩
 | m + 1=>⟨true,false,λk O g N=>N=ja/\∃c rest,g=G (Frame.enter P A.ng.add #[.pointer (some ⟨A.gb,0,none⟩),.int .i64 1] .normal) (c::rest)/\
     T P ⟨true,false,λk O g N=>N=ja/\∃a child,(∀w,Sat k O w->stepG P true g w=.spawn a child w #[])/\T P (lC P A (A.n-(m+1))) ja k ai.bot child/\T P (Ag m) ja k O a⟩ ja k O (kR .normal c rest (.tuple #[]))⟩
def G3(m:Nat):Mo:=⟨true,false,λk O g N=>N=ja/\∃a child,(∀w,Sat k O w->stepG P true g w=.spawn a child w #[])/\T P (lC P A (A.n-(m+1))) ja k ai.bot child/\T P (Ag P A Fin m) ja k O a⟩
structure xI where
 m:Mo
 k:ah
 O:ai
 g:Goroutine
 N:ah->ai->Goroutine->Prop
 h0:g.status=.running
 ht:m.dC k O g N
 c:∀k' O' g',N k' O' g'->TT P m k' O' g'
variable {P} in
def xI.node(y:xI P):Node P:=⟨y.m,y.k,y.O,y.g,.dC y.N y.h0 y.ht y.c⟩
inductive bt where
 |idle
 |run (h:Bool) (X:Node P)
 |lk (p:sS) (Y:xI P)
 |un (p:sS) (Y:xI P)
 |wait
 |Ah
 |dn (p:vN)
 |gone
inductive jI where
 |none|eU|wt (p:vN)|kF|gone
inductive pq where
 |add (j:Nat)|bD (j:Nat) (p:vN)|spawn (j:Nat)|recv|parked
structure MS where
 ms:pq
 sp:Nat
 w:Nat->bt P
 c:jI
 sh:Mu.Sh
 gc:Nat
 gv:Nat
 gm:Nat
def sS.abs:sS->Mu.Pc
 |.ld=>.out|.ig=>.ig|.rd l=>.rd l|.sq o l=>.sq o l|.sw o l=>.sw o l|.kQ o l=>.kQ o l|.t1 sv=>.gx sv|.gx sv=>.gx sv|.tq=>.tq|.up sv=>.up sv|.add o sv=>.add o sv
 |.le=>.held|.la=>.held|.back=>.held|.GN=>.held|.ur=>.held|.ud=>.held|.held=>.held|.iY o=>.iY o|.vz=>.vz|.give=>.give|.ue=>.out|.Dh=>.out
variable{P}
def bt.pc:bt P->Mu.Pc
 |.run true _=>.held
 |.lk p _=>p.abs
 |.un p _=>p.abs
 |_=>.out
def bt.owns:bt P->Bool
 |.run h _=>h
 |.un .GN _=>true
 |.un .ur _=>true
 |_=>false
def Dj:sS->Bool
 |.ld=>true|.ig=>true|.rd _=>true|.sq ..=>true|.sw ..=>true|.kQ ..=>true|.t1 _=>true|.gx _=>true|.tq=>true|.up _=>true|.add ..=>true|.le=>true|.la=>true
 |_=>false
def yW:sS->Bool
 |.GN=>true|.ur=>true|.ud=>true|.held=>true|.iY _=>true|.vz=>true|.give=>true|.ue=>true
 |_=>false
def bt.deaf:bt P->Nat
 |.lk .ld _=>0|.lk .la _=>0|.lk _ _=>1
 |.un .GN _=>0|.un .ur _=>0|.un .ud _=>0|.un _ _=>1
 |.dn .d1=>0|.dn .d2=>0|.dn _=>1
 |_=>0
def vf:vN->Nat
 |.a0=>0|.a2=>1|.a4=>1|.ae=>1
 |.w0=>0|.w1=>1|.we=>1|.wa=>0|.w2 _=>1|.w3=>1|.w4=>1|.w5=>1
 |_=>0
def bt.cS:bt P->Nat
 |.idle=>0|.run ..=>20|.lk ..=>20|.un ..=>20|.wait=>19|.Ah=>18
 |.dn .d1=>12|.dn .d2=>11|.dn .d4=>10|.dn .d5=>4|.dn .d6=>3|.dn _=>2|.gone=>0
def jI.cS(gc:Nat):jI->Nat
 |.none=>0|.eU=>14
 |.wt .w0=>13|.wt .w1=>10|.wt (.w2 k)=>if gc=k then 9 else 11|.wt .w3=>8|.wt .w4=>7|.wt .w5=>6|.wt .we=>5|.wt _=>4
 |.kF=>3|.gone=>0
def pq.cS:pq->Nat
 |.add j=>40*j+200|.bD j .a0=>40*j+199|.bD j .a2=>40*j+198|.bD j .a4=>40*j+197|.bD j _=>40*j+196
 |.spawn j=>40*j+225|.recv=>100|.parked=>99
def MS.cS(n:Nat)(s:MS P):Nat:=s.ms.cS+sumTo n (λj=>(s.w j).cS)+s.c.cS s.gc
def BD(n:Nat):Nat:=4*(6*(18*n+1)+16)+20
def bt.ex(n:Nat):bt P->Nat
 |.run ..=>2*BD n|.lk .ld _=>BD n|.lk (.t1 _) _=>1|.lk .le _=>2|.lk .la _=>1
 |.un .GN _=>5|.un .ur _=>4|.un .ud _=>3|.un .ue _=>1|_=>0
def MS.inner(n:Nat)(s:MS P):Nat:=4*Mu.meas n (λj=>(s.w j).pc) s.sh+sumTo n (λj=>(s.w j).ex n)
def bt.nd:bt P->Option (Node P)
 |.run _ X=>some X|.lk _ Y=>some Y.node|.un _ Y=>some Y.node|_=>none
end
def Ig{P:Program}(a b:Option (Node P)):Prop:=∃x y,a=some x/\b=some y/\Relation.TransGen po x y
theorem K9{P:Program}:∀a:Option (Node P),Acc Ig a:=by
 have key:∀x:Node P,Acc (Relation.TransGen po) x->Acc Ig (some x):=by
  intro x b;induction b with
  |intro x _ c=>exact⟨_,λy ⟨u,v,d,f,h⟩=>by subst d;cases f;exact c u h⟩
 intro a;cases a with
 |none=>exact⟨_,λy ⟨u,v,_,e,_⟩=>by cases e⟩
 |some x=>exact key x ((WellFounded.intro Db).transGen.apply x)
def La{α:Type}(R:α->α->Prop)(n:Nat)(f' f:Nat->α):Prop:=∃i,i<n/\(∀j,j≠i->f' j=f j)/\R (f' i) (f i)
theorem Dk{α:Type}{R:α->α->Prop}(j:∀a,Acc R a):∀(n:Nat) (f:Nat->α),Acc (La R n) f
 |0,f=>⟨_,λy ⟨i,l,_⟩=>by omega⟩
 | n + 1,f=>by
   have key:∀x:α,Acc R x->∀f:Nat->α,f n=x->Acc (La R (n+1)) f:=by
    intro x m;induction m with
    | intro x _ d=>
      intro f k;have o:=Dk j n f;induction o with
      | intro f _ g=>
        refine⟨_,λf' ⟨i,l,b,h⟩=>?_⟩;by_cases c:i=n
        . subst c
          rw[k]at h;exact d (f' i) h f' rfl
        . exact g f' ⟨i,by omega,b,h⟩ (by rw[b n (λe=>c e.symm)];exact k)
   exact key (f n) (j _) f rfl
def MS.gM{P:Program}(n:Nat)(s' s:MS P):Prop:=s'.cS n<s.cS n\/(s'.cS n=s.cS n/\(La Ig n (λj=>(s'.w j).nd) (λj=>(s.w j).nd)\/((λj=>(s'.w j).nd)=(λj=>(s.w j).nd)/\s'.inner n<s.inner n)))
theorem Oy{P:Program}(n:Nat):WellFounded (MS.gM (P:=P) n):=by
 have c:WellFounded (La (Ig (P:=P)) n):=⟨Dk K9 n⟩;have d:=(Prod.lex ⟨Nat.lt,Nat.lt_wfRel.wf⟩ (Prod.lex ⟨La (Ig (P:=P)) n,c⟩ ⟨Nat.lt,Nat.lt_wfRel.wf⟩)).wf;refine Subrelation.wf (r:=InvImage _ (λs:MS P=>(s.cS n,(λj=>(s.w j).nd),s.inner n))) ?_ (InvImage.wf _ d);intro s' s h;rcases h with h|⟨h,a|⟨a,b⟩⟩
 . exact Prod.Lex.left _ _ h
 . show Prod.Lex _ _ (_,_) (_,_)
   rw[h];exact Prod.Lex.right _ (Prod.Lex.left _ _ a)
 . show Prod.Lex _ _ (_,_) (_,_)
   rw[h,a];exact Prod.Lex.right _ (Prod.Lex.right _ b)
end Go.bd
namespace Go.bd
open Go.Conc
open Go.ConcN (sumTo upd sumTo_upd upd_ne upd_same)
section
variable{P:Program}
def bt.ik:bt P->Bool
 |.Ah=>true|.dn _=>true|.gone=>true|_=>false
def bt.cnt:bt P->Nat
 |.run ..=>1|.lk ..=>1|.un ..=>1|.wait=>1|.Ah=>1|.dn .d1=>1|.dn .d2=>1|.dn .d4=>1|_=>0
def bt.busy:bt P->Bool
 |.run ..=>true|.lk ..=>true|.un ..=>true|.wait=>true|.Ah=>true|.dn .d1=>true|_=>false
def bt.last:bt P->Bool
 |.dn .d5=>true|.dn .d6=>true|.dn .d7=>true|_=>false
def bt.jv:bt P->Bool
 |.idle=>true|_=>false
def bt.ok:bt P->Bool
 |.lk p _=>Dj p
 |.un p _=>yW p
 |.dn p=>(match p with|.d1=>true|.d2=>true|.d4=>true|.d5=>true|.d6=>true|.d7=>true|_=>false)
 |_=>true
def jI.busy:jI->Bool
 |.eU=>true|.wt _=>true|.kF=>true|_=>false
def jI.ok:jI->Bool
 |.wt p=>(match p with|.w0=>true|.w1=>true|.w2 _=>true|.w3=>true|.w4=>true|.w5=>true|.we=>true|.wa=>true|_=>false)
 |_=>true
def jI.waits:jI->Bool
 |.wt .w3=>true|.wt .w4=>true|_=>false
def jI.Lb:jI->Bool
 |.wt .w5=>true|.wt .we=>true|.wt .wa=>true|.kF=>true|.gone=>true|_=>false
def jI.isNone:jI->Bool
 |.none=>true|_=>false
def jI.eD:jI->Bool
 |.gone=>true|_=>false
def pq.pend:pq->Nat
 |.bD _ .a4=>1|.bD _ .ae=>1|.spawn _=>1|_=>0
structure bT(n:Nat)(s:MS P):Prop where
 g1:s.gc=sumTo n (λj=>(s.w j).cnt)+s.ms.pend
 g2:s.gv<=1
 tE:s.gv=1->s.c.waits=true/\s.gm=0
 g3:∀j,j<n->(s.w j=.dn .d5\/s.w j=.dn .d6)->s.gv=1/\s.gc=0
 zw:∀i j,i<n->j<n->(s.w i).last=true->(s.w j).last=true->i=j
 g4:∀j,j<n->s.w j=.dn .d7->s.gv=0/\s.gc=0/\s.gm=0/\s.c.waits=true
 g5:s.gm<=1/\(s.gm=1->s.c.waits=true/\s.gv=0/\s.gc=0/\∀j,j<n->(s.w j).last=false)
 g6:s.c.waits=true->s.gv=0->s.gm=0->∃j,j<n/\s.w j=.dn .d7
 g7:s.gv=1->s.gc=0->∃j,j<n/\(s.w j=.dn .d5\/s.w j=.dn .d6)
 g8:s.c.Lb=true->s.gc=0/\s.gv=0/\s.gm=0/\∀j,j<n->s.w j=.gone
 g9:∀k,s.c=.wt (.w2 k)->k≠0
 ok:∀j,j<n->(s.w j).ok=true
 Qy:s.c.ok=true
 sp:s.sp<=n
 idle:∀j,j<n->((s.w j).jv=true↔s.sp<=j)
 ms:match s.ms with
  |.add j=>s.sp+j=n/\s.c=.none
  |.bD j p=>s.sp+j=n/\s.c=.none/\1<=j/\(p=.a0\/p=.a2\/p=.a4\/p=.ae)
  |.spawn j=>s.sp+j+1=n/\s.c=.none
  |.recv=>s.sp=n/\s.c≠.none
  |.parked=>s.sp=n/\s.c≠.none/\s.c≠.gone/\∀j,j<n->s.w j≠.wait
 early:s.c=.none->∀j,j<n->(s.w j).ik=false
 mu:Mu.Inv n (λj=>(s.w j).pc) s.sh
end
variable(P:Program)(A:eu)(Fin:ah->ai->Goroutine->Prop)
def MS.rem(n:Nat)(s:MS P):List Nat:=(List.range n).filter λj=>!(s.w j).ik
def dH(s:MS P)(i:Nat):Prop:=(i=0/\(match s.ms with|.add _=>True|.spawn _=>True|.recv=>True|_=>False))\/(∃j,j<A.n/\i=A.b+j/\(match s.w j with|.run ..=>True|.Ah=>True|_=>False))\/(i=A.b+A.n/\(match s.c with|.eU=>True|.kF=>True|_=>False))
def fE(s:MS P)(i:Nat):Prop:=(i=0/\(match s.ms with|.bD ..=>True|_=>False))\/(∃j,j<A.n/\i=A.b+j/\(match s.w j with|.lk ..=>True|.un ..=>True|.dn _=>True|_=>False))\/(i=A.b+A.n/\(match s.c with|.wt _=>True|_=>False))
def eM(s:MS P)(i:Nat):Prop:=(i=0/\s.ms=.parked)\/(∃j,j<A.n/\i=A.b+j/\s.w j=.wait)
def bP(s:MS P)(i:Nat):Mo:=
 if i=0 then(match s.ms with|.add j=>Ag P A Fin j|.spawn j=>G3 P A Fin j|_=>qV P A Fin (MS.rem P A.n s).length (MS.rem P A.n s))
 else if i<A.b+A.n then(match s.w (i-A.b)with|.run ..=>lC P A (i-A.b)|_=>qH P A)else(match s.c with|.eU=>xH P A|_=>rL P A)
theorem Fw(s:MS P)(i:Nat):(bP P A Fin s i).main=(i==0):=by
 have b:∀m R,(qV P A Fin m R).main=true:=λm R=>by cases m<;>rfl
 have c:∀m,(Ag P A Fin m).main=true:=λm=>by cases m<;>rfl
 unfold bP
 by_cases a:i=0
 . subst a
   simp only[if_true,beq_self_eq_true];split
   . exact c _
   . rfl
   . exact b _ _
 . have:(i==0)=false:=by simpa using a
   rw[if_neg a,this];split
   . split<;>rfl
   . split<;>rfl
def Ih(j:Nat)(x:bt P)(k:ah)(O:ai)(g:Goroutine):Prop:=
 match x with
 |.lk p Y=>∃kind c rest e,kind≠.early/\nY P A.nm A.fb A.fo kind p (c::rest) g/\Y.m=lC P A j/\O A.fb=none/\k.sh A.fb=some e/\∀b x a,k.Le b->mr b x a->A.GI a->O A.mb=none->Y.N b ((O.set A.mb x).set A.fb (.part sX)) (kR kind c rest (.tuple #[]))
 | .un p Y=>∃kind c rest,kind≠.early/\nY P A.nm A.fb A.fo kind p (c::rest) g/\Y.m=lC P A j/\
    ((p=.GN\/p=.ur)->∃f x a,O A.fb=some (.part f)/\O A.mb=some x/\mr k x a/\A.GI a/\Y.N k ((O.del A.mb).del A.fb) (kR kind c rest (.tuple #[])))/\
    (¬(p=.GN\/p=.ur)->Y.N k O (kR kind c rest (.tuple #[])))
 |.dn p=>∃d fn tmps todo,P.funcs[d]?=some fn/\fn.results=#[]/\qT P A.ng A.gb .deferred p [kX P d tmps todo,di P] g
 |_=>False
def Tq(x:jI)(k:ah)(O:ai)(g:Goroutine):Prop:=
 match x with
 |.wt p=>∃c rest,qT P A.ng A.gb .normal p (c::rest) g/\∀a,k.Le a->T P (rL P A) ja a O (kR .normal c rest (.tuple #[]))
 |_=>False
def Uu(x:pq)(k:ah)(O:ai)(g:Goroutine):Prop:=
 match x with
 |.bD j p=>∃c rest,qT P A.ng A.gb .normal p (c::rest) g/\T P (G3 P A Fin (j-1)) ja k O (kR .normal c rest (.tuple #[]))
 |_=>False
def Tr(s:MS P)(i:Nat)(k:ah)(O:ai)(g:Goroutine):Prop:=(i=0/\Uu P A Fin s.ms k O g)\/(∃j,j<A.n/\i=A.b+j/\Ih P A j (s.w j) k O g)\/(i=A.b+A.n/\Tq P A s.c k O g)
def Qz(s:MS P)(i:Nat):Prop:=(∃j sv Y,j<A.n/\i=A.b+j/\s.w j=.lk (.gx sv) Y/\s.sh.ms=0)\/(i=A.b+A.n/\s.c=.wt .w4/\s.gm=0)
def VF(s:MS P)(i:Nat)(k:ah)(O:ai)(g:Goroutine):Prop:=
 (i=0/\∃a z,g=parked a #[rcase A.cF z] (.recv true)/\dP P A k O a a z/\a.status=.running/\(qV P A Fin (MS.rem P A.n s).length (MS.rem P A.n s)).dC k O a ja)\/
 (∃j,j<A.n/\i=A.b+j/\∃a z v,g=parked a #[scase A.cF v z] .send/\V k v (A.res j)/\O A.fb=none/\T P (qH P A) ja k O (Go.Conc.served a undef))
def dc(s:MS P)(i:Nat):Nat:=
 if i=0 then(match s.ms with|.bD _ p=>vf p|_=>0)
 else if i<A.b+A.n then(s.w (i-A.b)).deaf else(match s.c with|.wt p=>vf p|_=>0)
def lN(w:World):Prop:=(∃v,w.cell? ⟨A.gb,0,none⟩=some v)/\(∃v,w.cell? ⟨A.gb,1,none⟩=some v)/\∃v,w.cell? ⟨A.fb,A.fo,none⟩=some v
def Lc(A:eu):Loc->Prop
 |.cell a=>a.spot=none/\((a.block=A.fb/\(a.off=A.fo\/a.off=A.fo+1))\/(a.block=A.gb/\(a.off=0\/a.off=1)))
 |.obj r=>r=A.cF
 |_=>False
def fF(s:MS P)(i:Nat):Prop:=(∃j,j<A.n/\i=A.b+j/\(s.w j).busy=true)\/(i=A.b+A.n/\s.c.busy=true)
def bU(s:MS P)(i:Nat):Prop:=i=0\/(∃j,j<s.sp/\i=A.b+j)\/(i=A.b+A.n/\s.c≠.none)
structure dt(Z:Base)(s:MS P)(kk:Nat->ah)(OO:Nat->ai)(J M:Nat->Prop)(gsz:Nat)(w:World)(t:Trace):Prop where
 I:bT A.n s
 size:gsz=A.b+s.sp+(if s.c.isNone then 0 else 1)
 yE:∃x tm,w.heap[A.cF]?=some (.chan 0 #[] s.c.eD x x tm)
 mu:ShM A.fb A.fo w s.sh
 gr:qS A.gb w s.gc s.gv s.gm
 vg:∃c e,w.heap[A.fb]?=some (.cells c e (0,0))
 yX:∃c e,w.heap[A.gb]?=some (.cells c e (0,0))
 fV:∀i,OO i A.cF=none/\OO i A.gb=none
 dZ:∀i,(kk i).cell A.fb A.fo=none/\(kk i).cell A.fb (A.fo+1)=none/\(kk i).cell A.gb 0=none/\(kk i).cell A.gb 1=none
 tok:∀i x,OO i A.fb=some x->∃j f,j<A.n/\i=A.b+j/\(s.w j).owns=true/\x=.part f/\∀l,f l=none
 xJ:∀j,j<A.n->(s.w j).owns=true->OO (A.b+j) A.fb≠none
 Lf:(∀j,j<A.n->(s.w j).owns=false)->∃x a,OO Z.lk A.mb=some x/\mr (kk Z.lk) x a/\A.GI a
 JF:∀c,OO Z.lk c≠none->c=A.mb/\∀j,j<A.n->(s.w j).owns=false
 hJ:∀i,J i↔fF P A s i
 hM:∀p,M p->t.heard p/\Z.N0<=p/\((t.act? p=some (.mark (.releaseMerge ⟨A.gb,0,none⟩))/\(s.c=.none\/s.c=.eU\/∃q,s.c=.wt q))\/(s.c=.gone/\t.act? p=some (.close A.cF)))
 shut:s.c=.gone->∃p,M p/\t.act? p=some (.close A.cF)/\t.heard p
 quiet:∀m a,touchAt t m=some a->Lc A a.loc->a.kind=.plain->∀i,bU P A s i->Knows t i m
 said:∀m a,touchAt t m=some a->Lc A a.loc->a.kind=.said->Knows t (if s.c.isNone then 0 else A.b+A.n) m
 old:∀i,bU P A s i->∀m a,m<Z.N0->touchAt t m=some a->a.loc.isMemory=true -> ¬Z.Shun a.loc->Knows t i m
 norel:∀m a,Z.N0<=m->t.act? m≠some (.mark (.release a))
 Dl:∀i,i≠Z.lk -> ¬bU P A s i->kk i=ah.bot/\OO i=ai.bot
 rE:∀a,Lc A a->(∃c,a=.cell c/\c.block=A.gb)->Z.Shun a
 jV:∀c:Addr,c.block=A.fb/\(c.off=A.fo\/c.off=A.fo+1) -> ¬Z.Shun (.cell c)
 eN:Z.W0.heap.size<=A.cF/\Z.W0.heap.size<=A.fb/\Z.W0.heap.size<=A.gb
 la:Z.la=⟨A.fb,A.fo,none⟩
 n0:Z.N0<=t.size
def Node.QA{P:Program}:Node P->Prop
 |⟨_,_,_,_,.dC ..⟩=>True
 |_=>False
def vh{P:Program}(x X:Node P):Prop:=∀y,(y=x\/Relation.TransGen po y x)->y.QA->(y=X\/Relation.TransGen po y X)
theorem vh.sub{P:Program}{x y X:Node P}(h:vh x X)(a:po y x):vh y X:=λz b c=>h z (b.elim (λe=>.inr (by rw[e];exact .single a)) (λe=>.inr (e.tail a))) c
theorem vh.refl{P:Program}(X:Node P):vh X X:=λy a _=>a
def Oz(s:MS P)(i:Nat)(x:Node P):Prop:=∀j h X,j<A.n->i=A.b+j->s.w j=.run h X->vh x X
def cB(Z:Base)(a:A.b+A.n+1<=Z.lk):qQ P where
 S:=MS P
 r:=MS.gM A.n
 wf:=Oy A.n
 mo:=bP P A Fin
 main:=Fw P A Fin
 top:=A.b+A.n+1
 lk:=Z.lk
 SX:=a
 Live:=dH P A
 Walk:=fE P A
 At:=Tr P A Fin
 Aa:=Qz P A
 oD:=eM P A
 Fi:=VF P A Fin
 deaf:=dc P A
 Wd:=lN A
 Ex:=dt P A Z
 Oj:=Oz P A
 tie:=λs i x y hs h j b X c d e=>(h j b X c d e).sub hs
end Go.bd
namespace Go.bd
open Go.Conc
open Go.ConcN (sumTo upd sumTo_upd upd_ne upd_same)
theorem xK{t:Trace}(u:Trace){p:Nat}{x:MemAct}(h:t.act? p=some x)(b:t.heard p):(t++u).act? p=some x/\(t++u).heard p:=by have a:=lt_of_act? h;exact⟨by rw[act?_old a];exact h,(heard_old a).2 b⟩
structure Dm(b:Nat)(w w':World):Prop where
 cell:∀l,w'.cell? ⟨b,l,none⟩=w.cell? ⟨b,l,none⟩
 fz:∀l,w'.frozen? ⟨b,l,none⟩=w.frozen? ⟨b,l,none⟩
theorem Dm.of_heap{b:Nat}{w w':World}(h:w'.heap[b]?=w.heap[b]?):Dm b w w':=⟨λl=>by simp only[World.cell?,h],λl=>by simp only[World.frozen?,h]⟩
theorem ShM.same{b o:Nat}{w w':World}{s:Mu.Sh}(h:ShM b o w s)(e:Dm b w w'):ShM b o w' s:=⟨by rw[e.cell];exact h.cw,by rw[e.cell];exact h.cs,λi=>by rw[e.fz];exact h.fz i⟩
theorem qS.same{b:Nat}{w w':World}{c v m:Nat}(h:qS b w c v m)(e:Dm b w w'):qS b w' c v m:=⟨by rw[e.cell];exact h.cw,by rw[e.cell];exact h.cs,λi=>by rw[e.fz];exact h.fz i⟩
theorem mQ{t u:Trace}{m:Nat}{a:Touch}(h:touchAt (t++u) m=some a):(touchAt t m=some a/\m<t.size)\/∃op∈u,op.act.touch?=some a:=by
 obtain⟨x,e,b⟩:=touch_of h;rcases getElem?_append_cases e with⟨f,c⟩|⟨_,d⟩
 . exact .inl ⟨by rw[touchAt_of c];exact b,f⟩
 . exact .inr ⟨x,d,b⟩
theorem uo{t u:Trace}{m:Nat}{x:MemAct}(h:(t++u).act? m=some x):(t.act? m=some x/\m<t.size)\/∃op∈u,op.act=x:=by
 unfold Trace.act? at h;obtain⟨y,c,rfl⟩:=Option.map_eq_some_iff.1 h;rcases getElem?_append_cases c with⟨d,a⟩|⟨_,b⟩
 . exact .inl ⟨by simp[Trace.act?,a],d⟩
 . exact .inr ⟨y,b,rfl⟩
section
variable{P:Program}{A:eu}{Fin:ah->ai->Goroutine->Prop}{Z:Base}{s:MS P}{kk kk':Nat->ah}{OO OO':Nat->ai}{J M:Nat->Prop}{gsz:Nat}{w w':World}{t:Trace}
theorem dt.jw(h:dt P A Z s kk OO J M gsz w t)(u:Trace)(f:∀op∈u,∀a,op.act.touch?=some a->Lc A a.loc->a.kind≠.plain):∀m a,touchAt (t++u) m=some a->Lc A a.loc->a.kind=.plain->∀i,bU P A s i->Knows (t++u) i m:=λm a g d e i j=>by
 rcases mQ g with⟨b,_⟩|⟨op,c,b⟩
 . exact(h.quiet m a b d e i j).app u
 . exact absurd e (f op c a b d)
theorem dt.mR(h:dt P A Z s kk OO J M gsz w t)(u:Trace)(i:∀op∈u,∀a,op.act.touch?=some a->Lc A a.loc->a.kind≠.said):∀m a,touchAt (t++u) m=some a->Lc A a.loc->a.kind=.said->Knows (t++u) (if s.c.isNone then 0 else A.b+A.n) m:=λm a j f g=>by
 rcases mQ j with⟨d,_⟩|⟨op,e,d⟩
 . exact(h.said m a d f g).app u
 . exact absurd g (i op e a d f)
theorem dt.oJ(h:dt P A Z s kk OO J M gsz w t)(u:Trace):∀i,bU P A s i->∀m a,m<Z.N0->touchAt (t++u) m=some a->a.loc.isMemory=true -> ¬Z.Shun a.loc->Knows (t++u) i m:=λi g m a e j b k=>by
 have c:m<t.size:=Nat.lt_of_lt_of_le e h.n0
 have l:touchAt t m=some a:=by obtain⟨x,f,d⟩:=touch_of j;rw[Array.getElem?_append_left c]at f;rw[touchAt_of f];exact d
 exact(h.old i g m a e l b k).app u
theorem dt.iy(h:dt P A Z s kk OO J M gsz w t)(u:Trace)(d:∀op∈u,∀a,op.act≠.mark (.release a)):∀m a,Z.N0<=m->(t++u).act? m≠some (.mark (.release a)):=λm a f e=>by
 rcases uo e with⟨b,_⟩|⟨op,c,b⟩
 . exact h.norel m a f b
 . exact d op c a b
theorem dt.sY(h:dt P A Z s kk OO J M gsz w t)(u:Trace):∀p,M p->(t++u).heard p/\Z.N0<=p/\(((t++u).act? p=some (.mark (.releaseMerge ⟨A.gb,0,none⟩))/\(s.c=.none\/s.c=.eU\/∃q,s.c=.wt q))\/(s.c=.gone/\(t++u).act? p=some (.close A.cF))):=λp i=>by
 obtain⟨f,g,a⟩:=h.hM p i;rcases a with⟨a,b⟩|⟨a,b⟩
 . obtain⟨d,e⟩:=xK u a f
   exact⟨e,g,.inl ⟨d,b⟩⟩
 . obtain⟨d,e⟩:=xK u b f
   exact⟨e,g,.inr ⟨a,d⟩⟩
theorem dt.lD(h:dt P A Z s kk OO J M gsz w t)(u:Trace):s.c=.gone->∃p,M p/\(t++u).act? p=some (.close A.cF)/\(t++u).heard p:=λa=>by obtain⟨p,b,d,e⟩:=h.shut a;obtain⟨f,g⟩:=xK u d e;exact⟨p,b,f,g⟩
theorem Fx(I:bT A.n s){i:Nat}(f:dH P A s i):bU P A s i:=by
 rcases f with⟨h,_⟩|⟨j,c,b,d⟩|⟨c,b⟩
 . exact .inl h
 . refine .inr (.inl ⟨j,?_,b⟩)
   have a:=I.idle j c;cases e:s.w j with
   |idle=>rw[e]at d;exact d.elim
   |_=>rw[e]at a;simp[bt.jv]at a;omega
 . refine .inr (.inr ⟨c,λe=>?_⟩)
   rw[e]at b;exact b
theorem Lg{i:Nat}(a:dH P A s i):i<A.b+A.n+1:=by
 have:=A.hb;rcases a with⟨h,_⟩|⟨j,c,d,e⟩|⟨c,d⟩<;>omega
theorem yY(h:dt P A Z s kk OO J M gsz w t){i:Nat}{e:Event}(B:jc (kk i) (OO i) w.heap.size e){a:Touch}(C:(MemAct.ofEvent e).touch?=some a):¬Lc A a.loc:=λk=>by
 have K:A.fb<w.heap.size:=by obtain⟨c,e,b⟩:=h.vg;exact(Array.getElem?_eq_some_iff.1 b).1
 have L:A.gb<w.heap.size:=by obtain⟨c,e,b⟩:=h.yX;exact(Array.getElem?_eq_some_iff.1 b).1
 have n:∀l,¬aY (OO i) A.fb l:=λl hc=>by
  obtain⟨x,y⟩:=hc.own;obtain⟨j,f,_,_,_,rfl,D⟩:=h.tok i x y
  rcases hc with⟨o,q⟩|⟨m,q,_⟩|⟨g,q,E⟩
  . rw[y]at q;cases q
  . rw[y]at q;cases q
  . rw[y]at q;cases q;exact E (D l)
 have p:∀l,¬aY (OO i) A.gb l:=λl=>dY (h.fV i).2
 obtain⟨F,G,H,I⟩:=h.dZ i;have N:A.cF<w.heap.size:=by obtain⟨x,O,b⟩:=h.yE;exact(Array.getElem?_eq_some_iff.1 b).1
 rcases m9 B C with⟨Q,z,hc⟩|⟨r,z,u⟩
 . rw [z]at k
   obtain⟨_,k⟩:=k
   rcases k with⟨b,d⟩|⟨b,d⟩
   . rw[b]at hc
     rcases hc with hc|hc|⟨_,v,hc⟩
     . exact n _ hc
     . omega
     . rcases d with d|d<;>rw[d]at hc
       . rw[F]at hc;cases hc
       . rw[G]at hc;cases hc
   . rw[b]at hc
     rcases hc with hc|hc|⟨_,v,hc⟩
     . exact p _ hc
     . omega
     . rcases d with d|d<;>rw[d]at hc
       . rw[H]at hc;cases hc
       . rw[I]at hc;cases hc
 . rw[z]at k
   have k:r=A.cF:=k;subst k
   rcases u with⟨o,u⟩|u
   . rw[(h.fV i).1]at u;cases u
   . omega
theorem yZ{k:ah}{O:ai}{B:Nat}{e:Event}(b:jc k O B e)(a:Addr):MemAct.ofEvent e≠.mark (.release a):=by
 obtain⟨loc,wr,c⟩:=e;cases loc with
 |mark m=>simp only[jc]at b;cases m<;>simp_all [jX,mY,MemAct.ofEvent]
 |cell d=>simp[MemAct.ofEvent]
 |obj r=>cases wr<;>cases c<;>simp[MemAct.ofEvent]
 |_=>simp[jc]at b
theorem dt.own(h:dt P A Z s kk OO J M gsz w t)(hZ:A.b+A.n+1<=Z.lk){i:Nat}(hl:dH P A s i){k':ah}{O':ai}{es:List Event}(C:Eff (kk i) (OO i) w k' O' w' es)(u:Trace)
 (N:∀op∈u,∃e,jc (kk i) (OO i) w.heap.size e/\op.act=.ofEvent e):dt P A Z s (bR kk i k') (bR OO i O') J M gsz w' (t++u):=by
 have D:i≠Z.lk:=by have:=Lg hl;omega
 have O:=Fx h.I hl;have T:A.fb<w.heap.size:=by obtain⟨c,e,d⟩:=h.vg;exact(Array.getElem?_eq_some_iff.1 d).1
 have U:A.gb<w.heap.size:=by obtain⟨c,e,d⟩:=h.yX;exact(Array.getElem?_eq_some_iff.1 d).1
 have hC:A.cF<w.heap.size:=by obtain⟨x,tm,d⟩:=h.yE;exact(Array.getElem?_eq_some_iff.1 d).1
 have V:=C.keep A.cF hC (h.fV i).1;have Q:=C.keep A.gb U (h.fV i).2
 have R:Dm A.fb w w'/\∃c e,w'.heap[A.fb]?=some (.cells c e (0,0)):=by
  cases q:OO i A.fb with
  |none=>have:=C.keep A.fb T q;exact⟨.of_heap this,by rw[this];exact h.vg⟩
  | some x=>
    obtain⟨j,f,_,_,_,rfl,W⟩:=h.tok i x q;obtain⟨c,e,d⟩:=h.vg;obtain⟨c',E,h3,X⟩:=C.part A.fb f T q c e d;refine⟨⟨λl=>?_,λl=>?_⟩,c',e,E⟩
    . simp only[World.cell?,d,E];rw[X l (W l)]
    . simp only[World.frozen?,d,E]
 have p:∀c,c<w.heap.size->OO i c=none->O' c=none:=λc F Y=>by
  cases q:O' c with
  |none=>rfl
  | some x=>
    rcases C.own c x q with⟨y,K,_⟩|K
    . rw[Y]at K;cases K
    . omega
 have r:∀l,¬aY (OO i) A.fb l:=λl F=>by
  obtain⟨x,z⟩:=F.own;obtain⟨j,f,_,_,_,rfl,W⟩:=h.tok i x z
  rcases F with⟨o,q⟩|⟨m,q,_⟩|⟨g,q,hg⟩
  . rw[z]at q;cases q
  . rw[z]at q;cases q
  . rw[z]at q;cases q;exact hg (W l)
 have B:∀c l,c<w.heap.size -> ¬aY (OO i) c l->(kk i).cell c l=none->k'.cell c l=none:=λc l F a7 Y=>by
  cases q:k'.cell c l with
  |none=>rfl
  | some v=>
    rcases C.cell c l v q with d|d|d
    . rw[Y]at d;cases d
    . exact absurd d a7
    . omega
 obtain⟨a8,a9,ad,al⟩:=h.dZ i
 have S:∀op∈u,∀a,op.act.touch?=some a -> ¬Lc A a.loc:=λop k a L=>by obtain⟨e,G,H⟩:=N op k;rw[H]at L;exact yY h G L
 refine⟨h.I,h.size,by rw[V];exact h.yE,h.mu.same R.1,h.gr.same (.of_heap Q),R.2,by rw[Q];exact h.yX,λj=>?_,λj=>?_,λj x z=>?_,λj hj ho=>?_,λho=>?_,λc F=>?_,h.hJ,h.sY u,h.lD u,
  h.jw u (λop k a L hs=>absurd hs (S op k a L)),h.mR u (λop k a L hs=>absurd hs (S op k a L)),h.oJ u,h.iy u (λop k a=>by obtain⟨e,G,H⟩:=N op k;rw[H];exact yZ G a),λj hj hb=>?_,h.rE,h.jV,h.eN,h.la,by simp;exact Nat.le_trans h.n0 (Nat.le_add_right _ _)⟩
 . by_cases e:j=i
   . subst e;rw[au];exact⟨p _ hC (h.fV j).1,p _ U (h.fV j).2⟩
   . rw[az _ _ e];exact h.fV j
 . by_cases e:j=i
   . subst e;rw[au]
     exact⟨B _ _ T (r _) a8,B _ _ T (r _) a9,B _ _ U (dY (h.fV j).2) ad,B _ _ U (dY (h.fV j).2) al⟩
   . rw[az _ _ e];exact h.dZ j
 . by_cases e:j=i
   . subst e;rw[au]at z
     rcases C.own _ x z with⟨y,K,hb⟩|K
     . obtain⟨l,f,d,E,h3,rfl,X⟩:=h.tok j y K
       cases x with
       |obj o=>exact hb.elim
       |tail m=>exact hb.elim
       |part g=>exact⟨l,g,d,E,h3,rfl,λa=>Classical.byContradiction λq=>hb a q (X a)⟩
     . omega
   . rw[az _ _ e]at z;exact h.tok j x z
 . have d:=h.xJ j hj ho
   by_cases e:A.b+j=i
   . rw[e,au]
     rw[e]at d;cases q:OO i A.fb with
     |none=>exact absurd q d
     |some x=>obtain⟨_,f,_,_,_,rfl,_⟩:=h.tok i x q;obtain⟨f',E⟩:=C.tok _ f q;rw[E];simp
   . rw[az _ _ e];exact d
 . rw[az _ _ (Ne.symm D),az _ _ (Ne.symm D)];exact h.Lf ho
 . rw[az _ _ (Ne.symm D)]at F;exact h.JF c F
 . have e:j≠i:=λe=>hb (e ▸ O)
   rw[az _ _ e,az _ _ e];exact h.Dl j hj hb
theorem dt.still(h:dt P A Z s kk OO J M gsz w t)(u:Trace)(d:∀op∈u,op.act.touch?=none/\∀a,op.act≠.mark (.release a)):dt P A Z s kk OO J M gsz w (t++u):=
 ⟨h.I,h.size,h.yE,h.mu,h.gr,h.vg,h.yX,h.fV,h.dZ,h.tok,h.xJ,h.Lf,h.JF,h.hJ,h.sY u,h.lD u,h.jw u (λop b a c=>by rw[(d op b).1]at c;cases c),h.mR u (λop b a c=>by rw[(d op b).1]at c;cases c),
   h.oJ u,h.iy u (λop b=>(d op b).2),h.Dl,h.rE,h.jV,h.eN,h.la,by simp;exact Nat.le_trans h.n0 (Nat.le_add_right _ _)⟩
theorem bm(B:A.b+A.n+1<=Z.lk):Ab (cB P A Fin Z B) where
 own:=λa o _ he u _ _ q=>dt.own a B o he u q
 slip:=λa u _ hu=>dt.still a u hu
 draw:=λ{s kk OO J M n w t} a d=>by have a:dt P A Z s kk OO J M n w t:=a;exact⟨a.I,a.size,a.yE,a.mu.heap rfl,a.gr.same (.of_heap rfl),a.vg,a.yX,a.fV,a.dZ,a.tok,a.xJ,a.Lf,a.JF,a.hJ,a.hM,a.shut,a.quiet,a.said,a.old,a.norel,a.Dl,a.rE,a.jV,a.eN,a.la,a.n0⟩
 ub := λ{s kk OO J M n w t j g} a C k O f=>by
  have a:dt P A Z s kk OO J M n w t:=a;obtain⟨x,D,r⟩:=a.yE
  have y:s.c.eD=false:=by
   rcases C with⟨_,hm⟩|⟨l,o,_,hw⟩
   . have:=a.I.ms
     rw[hm]at this;have:=this.2.2.1;cases e:s.c<;>simp_all [jI.eD]
   . cases e:s.c with
     | gone=>
       have:=(a.I.g8 (by rw[e];rfl)).2.2.2 l o;rw[hw]at this;cases this
     |_=>rfl
  rw[y]at r;rcases f with⟨_,m,z,rfl,_⟩|⟨l,_,_,m,z,v,rfl,_⟩
  . exact again_recv_open r
  . exact again_send_open r
 wd:=λ{s kk OO J M n w t} a=>by have a:dt P A Z s kk OO J M n w t:=a;exact⟨⟨_,a.gr.cw⟩,⟨_,a.gr.cs⟩,⟨_,a.mu.cw⟩⟩
 me:=λ{s i k O g} f=>by
  rcases f with⟨_,f⟩|⟨j,_,_,f⟩|⟨_,f⟩
  . cases e:s.ms with
    |bD j p=>rw[e]at f;obtain⟨c,rest,h,_⟩:=f;exact h.running
    |_=>rw[e]at f;exact f.elim
  . cases e:s.w j with
    |lk p Y=>rw[e]at f;obtain⟨kind,c,rest,_,_,h,_⟩:=f;exact h.running
    |un p Y=>rw[e]at f;obtain⟨kind,c,rest,_,h,_⟩:=f;exact h.running
    |dn p=>rw[e]at f;obtain⟨E,fn,tmps,todo,_,_,h⟩:=f;exact h.running
    |_=>rw[e]at f;exact f.elim
  . cases e:s.c with
    |wt p=>rw[e]at f;obtain⟨c,rest,h,_⟩:=f;exact h.running
    |_=>rw[e]at f;exact f.elim
end
end Go.bd
namespace Go.bd
open Go.Conc
open Go.ConcN (sumTo upd sumTo_upd upd_ne upd_same)
variable{P:Program}
def MS.aO(s:MS P)(j:Nat)(x:bt P)(sh:Mu.Sh):MS P:={s with w:=λi=>if i=j then x else s.w i,sh:=sh}
section
variable{s:MS P}{j n:Nat}{x:bt P}{sh:Mu.Sh}
theorem aN:(s.aO j x sh).w j=x:=by simp[MS.aO]
theorem bu{i:Nat}(h:i≠j):(s.aO j x sh).w i=s.w i:=by simp[MS.aO,h]
theorem BE:(λi=>((s.aO j x sh).w i).pc)=Mu.set (λi=>(s.w i).pc) j x.pc:=by
 funext i;by_cases h:i=j
 . subst h;rw[aN,Mu.ak]
 . rw[bu h,Mu.ag _ _ h]
theorem pV(F:bt P->Nat)(a:j<n):sumTo n (λi=>F ((s.aO j x sh).w i))+F (s.w j)=sumTo n (λi=>F (s.w i))+F x:=by
 have e:(λi=>F ((s.aO j x sh).w i))=upd (λi=>F (s.w i)) j (F x):=by
  funext i;by_cases h:i=j
  . subst h;rw[aN,upd_same]
  . rw[bu h,upd_ne _ _ h]
 rw[e];have:=sumTo_upd (λi=>F (s.w i)) (F x) id a;simpa using this
def bt.work:bt P->Bool
 |.run ..=>true|.lk ..=>true|.un ..=>true|_=>false
theorem bn{x:bt P}(h:x.work=true):x.cnt=1/\x.cS=20/\x.ik=false/\x.last=false/\x.jv=false/\x.busy=true/\x≠.gone/\x≠.wait/\∀p,x≠.dn p:=by cases x<;>simp_all [bt.work,bt.cnt,bt.cS,bt.ik,bt.last,bt.jv,bt.busy]
theorem bT.work(I:bT n s)(v:j<n)(A:(s.w j).work=true)(B:x.work=true)(C:x.ok=true)(D:Mu.Inv n (Mu.set (λi=>(s.w i).pc) j x.pc) sh):bT n (s.aO j x sh):=by
 obtain⟨M,a2,N,a4,E,O,F,Q,g⟩:=bn A;obtain⟨R,S,G,H,J,T,U,K,k⟩:=bn B;have z:=pV (s:=s) (x:=x) (sh:=sh) bt.cnt v
 have look:∀{i:Nat}{y:bt P},(s.aO j x sh).w i=y->x≠y->i≠j/\s.w i=y:=λ{i y} h m=>by
  by_cases e:i=j
  . subst e;rw[aN]at h;exact absurd h m
  . rw[bu e]at h;exact⟨e,h⟩
 have back:∀{i:Nat}{y:bt P},s.w i=y->(s.w j)≠y->(s.aO j x sh).w i=y:=λ{i y} h m=>by
  by_cases e:i=j
  . subst e;exact absurd h m
  . rw[bu e];exact h
 have b:∀{i:Nat},((s.aO j x sh).w i).last=(s.w i).last:=λ{i}=>by
  by_cases e:i=j
  . subst e;rw[aN,a4,H]
  . rw[bu e]
 refine⟨?_,I.g2,I.tE,λi a h=>?_,λi l a L h d=>?_,λi a h=>?_,⟨I.g5.1,λh=>?_⟩,λh d o=>?_,λh d=>?_,λh=>?_,I.g9,λi a=>?_,I.Qy,I.sp,λi a=>?_,?_,λh i a=>?_,by rw[BE];exact D⟩
 . have:=I.g1
   show s.gc=sumTo n (λi=>((s.aO j x sh).w i).cnt)+s.ms.pend;omega
 . exact I.g3 i a (h.imp (λh=>(look h (k _)).2) (λh=>(look h (k _)).2))
 . rw[b]at h d;exact I.zw i l a L h d
 . exact I.g4 i a (look h (k _)).2
 . obtain⟨q,r,t,f⟩:=I.g5.2 h
   exact⟨q,r,t,λi a=>by rw[b];exact f i a⟩
 . obtain⟨i,a,u⟩:=I.g6 h d o
   exact⟨i,a,back u (g _)⟩
 . obtain⟨i,a,u⟩:=I.g7 h d
   exact⟨i,a,u.imp (λh=>back h (g _)) (λh=>back h (g _))⟩
 . obtain⟨_,_,_,f⟩:=I.g8 h
   exact absurd (f j v) F
 . by_cases e:i=j
   . subst e;rw[aN];exact C
   . rw[bu e];exact I.ok i a
 . by_cases e:i=j
   . subst e
     rw[aN,J];have:=I.idle i a;rw[E]at this;exact this
   . rw[bu e];exact I.idle i a
 . have:=I.ms
   show match s.ms with
   |.add l=>s.sp+l=n/\s.c=.none
   |.bD l p=>s.sp+l=n/\s.c=.none/\1<=l/\(p=.a0\/p=.a2\/p=.a4\/p=.ae)
   |.spawn l=>s.sp+l+1=n/\s.c=.none
   |.recv=>s.sp=n/\s.c≠.none
   |.parked=>s.sp=n/\s.c≠.none/\s.c≠.gone/\∀i,i<n->(s.aO j x sh).w i≠.wait
   cases e:s.ms with
   |parked=>rw[e]at this;obtain⟨q,r,t,f⟩:=this;exact⟨q,r,t,λi a h=>f i a (look h K).2⟩
   |_=>rw[e]at this;exact this
 . by_cases e:i=j
   . subst e;rw[aN];exact G
   . rw[bu e];exact I.early h i a
theorem QB(F:bt P->Nat)(a:j<n)(h:F x=F (s.w j)):sumTo n (λi=>F ((s.aO j x sh).w i))=sumTo n (λi=>F (s.w i)):=by have:=pV (s:=s) (x:=x) (sh:=sh) F a;omega
theorem Dn(a:j<n)(b:(s.w j).work=true)(d:x.work=true):(s.aO j x sh).cS n=s.cS n:=by
 have:=QB (s:=s) (x:=x) (sh:=sh) bt.cS a (by rw[(bn b).2.1,(bn d).2.1]);show s.ms.cS+sumTo n (λi=>((s.aO j x sh).w i).cS)+s.c.cS s.gc=_;rw[this];rfl
theorem BF(a:j<n)(b:(s.w j).work=true)(c:x.work=true)(h:Ig x.nd (s.w j).nd):MS.gM n (s.aO j x sh) s:=.inr ⟨Dn a b c,.inl ⟨j,a,λi d=>by show((s.aO j x sh).w i).nd=_;rw[bu d],by simp only[aN];exact h⟩⟩
theorem vO(a:j<n)(b:(s.w j).work=true)(c:x.work=true)(h:x.nd=(s.w j).nd)(d:4*Mu.meas n (Mu.set (λi=>(s.w i).pc) j x.pc) sh+x.ex n<4*Mu.meas n (λi=>(s.w i).pc) s.sh+(s.w j).ex n):MS.gM n (s.aO j x sh) s:=by
 refine .inr ⟨Dn a b c,.inr ⟨?_,?_⟩⟩
 . funext i
   by_cases e:i=j
   . subst e;rw[aN];exact h
   . rw[bu e]
 . have:=pV (s:=s) (x:=x) (sh:=sh) (bt.ex n) a
   show 4*Mu.meas n (λi=>((s.aO j x sh).w i).pc) sh+sumTo n (λi=>((s.aO j x sh).w i).ex n)<4*Mu.meas n (λi=>(s.w i).pc) s.sh+sumTo n (λi=>(s.w i).ex n);rw[BE];omega
theorem G4(I:bT n s)(a:j<n)(b:(s.w j).work=true)(c:x.work=true)(h:x.nd=(s.w j).nd)(d:(x.pc,sh)∈Mu.mv (s.w j).pc s.sh)(e:x.ex n<=3):MS.gM n (s.aO j x sh) s:=by
 have:=(Mu.H2 (pcs:=λi=>(s.w i).pc) a (I.mu.j0 j a) d).1;exact vO a b c h (by omega)
theorem bT.mv(I:bT n s)(a:j<n)(b:(s.w j).work=true)(c:x.work=true)(d:x.ok=true)(e:(x.pc,sh)∈Mu.mv (s.w j).pc s.sh):bT n (s.aO j x sh):=I.work a b c d (I.mu.step a e)
theorem mg(pcs:Nat->Mu.Pc)(i:Nat):Mu.set pcs i (pcs i)=pcs:=by
 funext l;by_cases e:l=i
 . subst e;exact Mu.ak _ _ _
 . exact Mu.ag _ _ e
theorem mh(a:j<n)(b:(s.w j).work=true)(c:x.work=true)(h:x.nd=(s.w j).nd)(d:x.pc=(s.w j).pc)(e:x.ex n<(s.w j).ex n):MS.gM n (s.aO j x s.sh) s:=by
 refine vO a b c h ?_;rw[d,mg (λi=>(s.w i).pc)];omega
theorem bT.still(I:bT n s)(a:j<n)(b:(s.w j).work=true)(c:x.work=true)(d:x.ok=true)(e:x.pc=(s.w j).pc):bT n (s.aO j x s.sh):=I.work a b c d (by rw[e,mg (λi=>(s.w i).pc)];exact I.mu)
theorem fW(F:Mu.Pc->Nat){pcs:Nat->Mu.Pc}{i:Nat}(a:pcs i=.out)(h:F .ig=F .out):(λl=>F (Mu.set pcs i .ig l))=λl=>F (pcs l):=by
 funext l;by_cases e:l=i
 . subst e;rw[Mu.ak,a,h]
 . rw[Mu.ag _ _ e]
theorem OA{n:Nat}{pcs:Nat->Mu.Pc}{s:Mu.Sh}{i:Nat}(h:Mu.Inv n pcs s)(a:pcs i=.out):Mu.Inv n (Mu.set pcs i .ig) s:=by
 obtain⟨⟨d,f,g,j,k⟩,m,o⟩:=h;refine⟨⟨λl c=>?_,?_,?_,?_,?_⟩,m,λl c old sv b=>?_⟩
 . by_cases e:l=i
   . subst e;rw[Mu.ak];trivial
   . rw[Mu.ag _ _ e];exact d l c
 . rw[fW Mu.cr a rfl];exact f
 . rw[fW Mu.fK a rfl,fW Mu.cJ a rfl,fW Mu.na a rfl,fW Mu.dh a rfl,fW Mu.cI a rfl];exact g
 . rw[fW Mu.fK a rfl,fW Mu.cJ a rfl,fW Mu.na a rfl,fW Mu.dh a rfl,fW Mu.cI a rfl];exact j
 . rw[fW Mu.ij a rfl];exact k
 . by_cases e:l=i
   . subst e;rw[Mu.ak]at b;cases b
   . rw[Mu.ag _ _ e]at b;exact o l c old sv b
theorem Dp{n:Nat}{pcs:Nat->Mu.Pc}{s:Mu.Sh}{i:Nat}(a:i<n)(b:pcs i=.out):Mu.meas n (Mu.set pcs i .ig) s=Mu.meas n pcs s+(6*(18*n+1)+16):=by
 have C:=Mu.gu Mu.gy pcs i .ig a;have R:=Mu.gu (Mu.jE s.w) pcs i .ig a;rw[b]at C R;have c:Mu.gy .out=0:=rfl;have d:Mu.gy .ig=6:=rfl;have e:Mu.jE s.w .out=0:=rfl;have f:Mu.jE s.w .ig=16:=rfl;rw[c,d]at C;rw[e,f]at R;have g:Mu.phi n (Mu.set pcs i .ig) s=Mu.phi n pcs s+6:=by unfold Mu.phi;omega
 unfold Mu.meas;rw[g,Nat.add_mul];omega
theorem Lh(a:j<n)(b:(s.w j).work=true)(c:x.work=true)(h:x.nd=(s.w j).nd)(d:(s.w j).pc=.out)(e:x.pc=.ig)(f:(s.w j).ex n=BD n)(g:x.ex n=0):MS.gM n (s.aO j x s.sh) s:=by refine vO a b c h ?_;rw[e,Dp a d,f,g];unfold BD;omega
theorem bT.Wx(I:bT n s)(a:j<n)(b:(s.w j).work=true)(c:x.work=true)(d:x.ok=true)(e:(s.w j).pc=.out)(f:x.pc=.ig):bT n (s.aO j x s.sh):=I.work a b c d (by rw[f];exact OA I.mu e)
end
end Go.bd
namespace Go.bd
open Go.Conc
open Go.ConcN (sumTo upd sumTo_upd upd_ne upd_same)
section
variable{P:Program}{A:qQ P}{Z:Base}{s s':A.S}{f f':Nat->Node P}{q q':Nat->Nat}{kk kk':Nat->ah}{OO OO':Nat->ai}{J J' M M':Nat->Prop}{gs:Array Goroutine}{w w':World}{t u:Trace}{i:Nat}{g g1:Goroutine}
structure Beside(A:qQ P)(s s':A.S)(f f':Nat->Node P)(q q':Nat->Nat)(kk kk':Nat->ah)(OO OO':Nat->ai)(J J':Nat->Prop)(w':World)(i:Nat)(g g1:Goroutine):Prop where
 ef:∀j,j≠i->f' j=f j
 eq:∀j,j≠i->q' j=q j
 ek:∀j,j≠i->j<A.top->kk' j=kk j
 eO:∀j,j≠i->j<A.top->OO' j=OO j
 eJ:∀j,j≠i->A.Live s j->J j->J' j
 live:∀j,j≠i->(A.Live s' j↔A.Live s j)
 walk:∀j,j≠i->(A.Walk s' j↔A.Walk s j)
 held:∀j,j≠i->(A.oD s' j↔A.oD s j)
 mo:∀j,j≠i->A.Live s j->A.mo s' j=A.mo s j
 at':∀j k O x,j≠i->A.Walk s j->A.At s j k O x->A.At s' j k O x
 deaf:∀j,j≠i->A.Walk s j->A.deaf s' j=A.deaf s j
 Aa:∀j,j≠i->A.Walk s j->A.Aa s j->A.Aa s' j\/∀x,A.At s j (kk j) (OO j) x->woken P g g1 w' (blk x)=x
 QC:∀j k O x,j≠i->A.oD s j->A.Fi s j k O x->A.Fi s' j k O x
 tie:∀j x,j≠i->A.Live s j->A.Oj s j x->A.Oj s' j x
structure Self(P:Program)(A:qQ P)(s':A.S)(f':Nat->Node P)(q':Nat->Nat)(kk':Nat->ah)(OO':Nat->ai)(J':Nat->Prop)(t':Trace)(i:Nat)(g1:Goroutine):Prop where
 live:A.Live s' i->i<A.top/\g1=(f' i).g/\(f' i).m=A.mo s' i/\(f' i).k=kk' i/\(f' i).O=OO' i/\(f' i).g.status=.running/\Deaf t' i=0/\(i=0\/J' i)/\A.Oj s' i (f' i)
 walk:A.Walk s' i -> ¬A.Live s' i/\i<A.top/\Deaf t' i=A.deaf s' i/\∃g',A.At s' i (kk' i) (OO' i) g'/\KP P A.Wd (A.Aa s' i) (q' i) g1 g'
 held:A.oD s' i -> ¬A.Live s' i/\¬A.Walk s' i/\i<A.top/\Deaf t' i=0/\g1.status=.blocked/\A.Fi s' i (kk' i) (OO' i) g1
 rest:¬A.Live s' i -> ¬A.Walk s' i -> ¬A.oD s' i->i≠0/\QuitsD P (q' i) (Deaf t' i) g1
theorem bJ.step(B:Ab A)(C:bJ A Z s f q kk OO J M gs w t)(X:gs[i]?=some g)(D:∀op∈u,op.g=i)(Y:cA Z kk' OO' J' M' w' (t++u))(K:A.Ex s' kk' OO' J' M' gs.size w' (t++u))
 (hw:∀j x,A.oD s j->A.Fi s j (kk j) (OO j) x->x.again w'=x) (hb:Beside A s s' f f' q q' kk kk' OO OO' J J' w' i g g1) (G:Self P A s' f' q' kk' OO' J' (t++u) i g1):
 bJ A Z s' f' q' kk' OO' J' M' ((gs.map (woken P g g1 w')).setIfInBounds i g1) w' (t++u):=by
 have L:i<gs.size:=(Array.getElem?_eq_some_iff.1 X).1;have H:=C.Ok B (i:=i) (a:=g) (a':=g1) (x:=g1) (w':=w') hw;have c:((gs.map (woken P g g1 w')).setIfInBounds i g1)[i]?=some g1:=Array.getElem?_setIfInBounds_self_of_lt (by simpa using L)
 have E:∀j,j≠i->Deaf (t++u) j=Deaf t j:=λj n=>Deaf_other t (Ne.symm n) _ D
 refine⟨C.lk,Y,λj n=>?_,λj n=>?_,λj n=>?_,λj x N S T U=>?_,λj n=>?_,by simpa using K⟩
 . by_cases e:j=i
   . subst e
     obtain⟨l,o,m⟩:=G.live n;exact⟨l,by rw[c,o],m⟩
   . have b:=(hb.live j e).1 n
     obtain⟨l,o,pm,m,p,r,v,V⟩:=C.live j b;rw[hb.ef j e,hb.ek j e l,hb.eO j e l,E j e,hb.mo j e b];exact⟨l,H.live j e b,pm,m,p,r,v,V.1.imp id (hb.eJ j e b),hb.tie j _ e b V.2⟩
 . by_cases e:j=i
   . subst e
     obtain⟨l,o,m,g',p,r⟩:=G.walk n;exact⟨l,o,m,g1,g',c,p,r⟩
   . have b:=(hb.walk j e).1 n
     obtain⟨l,o,m,x,x',p,r,v⟩:=C.walk j b;refine⟨λh=>l ((hb.live j e).1 h),o,by rw[E j e,hb.deaf j e b];exact m,?_⟩
     rw[hb.ek j e o,hb.eO j e o,hb.eq j e];obtain⟨y,W,z,I,r3⟩:=H.walk j e b
     by_cases hd:∃x,A.Aa s j/\y=blk x/\A.At s j (kk j) (OO j) x/\q j=0
     . obtain⟨x0,O,F,d3,d4⟩:=hd
       rcases hb.Aa j e b O with h|h
       . exact⟨y,x0,z,hb.at' j _ _ _ e b d3,.inl ⟨h,F,d4⟩⟩
       ·
        have k:((gs.map (woken P g g1 w')).setIfInBounds i g1)[j]?=some (woken P g g1 w' x):=by rw[Array.getElem?_setIfInBounds_ne (Ne.symm e),Array.getElem?_map,p];rfl
        obtain⟨Q,a2⟩:=B.me r
        rcases v with⟨_,rfl,_⟩|v
        . rw[h _ r]at k
          rw[k]at z;have:=Option.some.inj z;rw[F]at this;have d:x'.status=.blocked:=by rw[this];rfl
          rw[Q]at d;cases d
        . rw[woken_run (v.first Q)]at k
          rw[k]at z;have hh:=Option.some.inj z;have d:x.status=.blocked:=by rw[hh,F];rfl
          rw[v.first Q]at d;cases d
     . rcases r3 with⟨O,rfl,F⟩|r3
       . exact absurd ⟨W,O,rfl,I,F⟩ hd
       . exact⟨y,W,z,hb.at' j _ _ _ e b I,.inr r3⟩
 . by_cases e:j=i
   . subst e
     obtain⟨l,o,m,p,r,v⟩:=G.held n;exact⟨l,o,m,p,g1,c,r,v⟩
   . have b:=(hb.held j e).1 n
     obtain⟨l,o,m,p,_⟩:=C.held j b;obtain⟨x,z,I,r3⟩:=H.held j e b;refine⟨λh=>l ((hb.live j e).1 h),λh=>o ((hb.walk j e).1 h),m,by rw[E j e];exact p,x,z,I,?_⟩
     rw[hb.ek j e m,hb.eO j e m];exact hb.QC j _ _ _ e b r3
 . by_cases e:j=i
   . subst e
     rw[c]at N;obtain rfl:=Option.some.inj N;exact G.rest S T U
   . rw[hb.eq j e,E j e]
     exact H.rest j x e N (λh=>S ((hb.live j e).2 h)) (λh=>T ((hb.walk j e).2 h)) (λh=>U ((hb.held j e).2 h))
 . have R:gs.size<=j:=by simpa using n
   rw[E j (by omega)];exact C.above j R
end
theorem knows_own{t u:Trace}{i m:Nat}{op:MemOp}(h:u[m]?=some op)(a:op.g=i):Knows (t++u) i (t.size+m):=⟨t.size+m,op,dw h,a,.inl rfl⟩
section
variable{Z:Base}{kk:Nat->ah}{OO:Nat->ai}{J M:Nat->Prop}{w w':World}{t u:Trace}{i:Nat}
def BG(kk:Nat->ah)(OO:Nat->ai)(B:Nat)(t:Trace)(i:Nat)(u:Trace):Prop:=∀op∈u,∀a,op.act.touch?=some a->a.kind=.atomic/\(a.loc.isMemory=true->KA kk OO B a.loc)/\∀n b,touchAt t n=some b->b.loc=a.loc->b.kind=.plain->Knows t i n
theorem cA.PF(h:cA Z kk OO J M w t)(f:∀op∈u,op.g=i)(y:w'.heap.size=w.heap.size)(z:Calm Z w w')(hb:∀b,Kept kk OO w w' b)(A:∀op∈u,op.act.low w.heap.size)(q:BG kk OO w.heap.size t i u)
 (o:∀m op a,u[m]?=some op->op.act.touch?=some a->a.loc.isMemory=true->Told Z J M (t++u) (t.size+m) a):cA Z kk OO J M w' (t++u):=
 h.tY (λa b=>a=b) y z hb A (λa b e n x _ _ _ B=>by subst e;exact B.app u) (λj b n v h=>⟨j,rfl,h⟩) (λj b s h=>⟨j,rfl,h⟩) (λj b x h=>⟨j,rfl,h,λ_ h=>h⟩) h.ju
  (fun said=>noRace_append (h.clean said) f λn a k op c b hb C=>by
    obtain⟨d,l,D⟩:=q op c b hb;obtain⟨E,_,_,c4⟩:=C;rcases c4 with c4|c4|⟨_,_,c4⟩
    . exact D n a k E c4
    . rw[d]at c4;cases c4
    . rw[d]at c4;cases c4)
  (λop c a k r=>(q op c a k).2.1 r) o
  (λn a k r h=>h.elim (λ⟨j,d,l⟩=>.inr (.inl ⟨j,d,l.app _⟩)) (λ⟨p,d,l⟩=>.inr (.inr (.inl ⟨p,d,l.app _⟩))))
theorem cA.sync(h:cA Z kk OO J M w t)(hJ:i=0\/J i)(c:∀op∈u,op.g=i)(f:w'.heap.size=w.heap.size)(j:Calm Z w w')(hb:∀b,Kept kk OO w w' b)(k:∀op∈u,op.act.low w.heap.size)(l:BG kk OO w.heap.size t i u):cA Z kk OO J M w' (t++u):=
 h.PF c f j hb k l λm op a d n o=>by
  have e:Knows (t++u) i (t.size+m):=knows_own d (c op (Array.mem_of_getElem? d));rcases hJ with rfl|hJ
  . exact .inl e
  . exact .inr (.inl ⟨i,hJ,e⟩)
end
section
variable{P:Program}{A:eu}{Z:Base}{s:MS P}{kk:Nat->ah}{OO:Nat->ai}{J M:Nat->Prop}{gsz:Nat}{w w':World}{t u:Trace}{j:Nat}{x:bt P}{sh:Mu.Sh}
theorem mi(a:j<A.n)(h:x.busy=(s.w j).busy)(i:Nat):fF P A (s.aO j x sh) i↔fF P A s i:=by
 have:∀l,((s.aO j x sh).w l).busy=(s.w l).busy:=λl=>by
  by_cases e:l=j
  . subst e;rw[aN,h]
  . rw[bu e]
 unfold fF;simp only[this];rfl
theorem dt.work(h:dt P A Z s kk OO J M gsz w t)(E:j<A.n)(F:(s.w j).work=true)(G:x.work=true)(H:x.owns=(s.w j).owns)(I:bT A.n (s.aO j x sh))(r:ShM A.fb A.fo w' sh)
 (d:∀b,b≠A.fb->w'.heap[b]?=w.heap[b]?) (v:∃c e,w'.heap[A.fb]?=some (.cells c e (0,0))) (z:∀op∈u,(∀a,op.act.touch?=some a->a.kind=.atomic)/\∀a,op.act≠.mark (.release a)):
 dt P A Z (s.aO j x sh) kk OO J M gsz w' (t++u):=by
 have g:∀l,((s.aO j x sh).w l).owns=(s.w l).owns:=λl=>by
  by_cases e:l=j
  . subst e;rw[aN,H]
  . rw[bu e]
 have m:x.busy=(s.w j).busy:=by rw[(bn F).2.2.2.2.2.1,(bn G).2.2.2.2.2.1]
 refine⟨I,h.size,by rw[d _ A.d1];exact h.yE,r,h.gr.same (.of_heap (d _ (Ne.symm A.d4))),v,by rw[d _ (Ne.symm A.d4)];exact h.yX,h.fV,h.dZ,λi y K=>?_,λl p o=>h.xJ l p (by rw[<-g l];exact o),λo=>h.Lf λl p=>by rw[<-g l];exact o l p,λc L=>?_,
  λi=>by rw[h.hJ i];exact(mi E m i).symm,h.sY u,h.lD u,h.jw u (λop k a B _ q=>?_),h.mR u (λop k a B _ q=>?_),h.oJ u,h.iy u (λop k=>(z op k).2),h.Dl,h.rE,h.jV,h.eN,h.la,by simp;exact Nat.le_trans h.n0 (Nat.le_add_right _ _)⟩
 . obtain⟨l,f,C,D,N,O⟩:=h.tok i y K
   exact⟨l,f,C,D,by rw[g];exact N,O⟩
 . obtain⟨C,D⟩:=h.JF c L
   exact⟨C,λl p=>by rw[g];exact D l p⟩
 . rw[(z op k).1 a B]at q;cases q
 . rw[(z op k).1 a B]at q;cases q
end
section
variable{P:Program}
theorem BH {y:Sy} {s:jG} {fr:Frame} {f:FuncId} {l:List SV} {e:Array Value->Sem Value} {cs:List Frame} (b:FR y s fr) (h:bb s=some (f,l)) (c:Ext P f e):mayWake P (G fr cs)=true:=by
 obtain⟨ops,i,rest,kk,o,as,d,g,q,j,r,a,t⟩:=dq b h;obtain⟨fn,k,u,m,v,w⟩:=c.ex;have n:fr.mode = .run:=by rw[a];rfl
 have p:fr.todo = .inRegion ops (i :: rest) :: kk:=by rw[a];rfl
 unfold mayWake;simp only[G,n,p,g,Option.map_some,j,Frame.eval,k,Option.any_some];simpa using m
theorem Ii{n:Ae}{b o:Nat}{kind:CallKind}{cs:List Frame}{g:Goroutine}(C:iT P n)(X:iU P n)(h:nY P n b o kind .give cs g):mayWake P g=true:=by
 obtain⟨c,y,fr,d,e,i,a,f,rfl⟩:=h;rcases e with rfl|rfl
 . exact BH a (C.Vk b o kind) X.oH
 . exact BH a (C.Vl b o kind) X.oH
theorem mS{b o:Nat}{w w':World}(h:MW b o w w')(a:∃c e,w.heap[b]?=some (.cells c e (0,0))):
 w'.heap.size=w.heap.size/\(∀r,r≠b->w'.heap[r]?=w.heap[r]?)/\∃c e c',w.heap[b]?=some (.cells c e (0,0))/\w'.heap[b]?=some (.cells c' e (0,0))/\c'.size=c.size/\∀n,n≠o->n≠o+1->c'[n]?=c[n]?:=by
 obtain⟨c,e,a⟩:=a;rcases h.2 with h|⟨i,v,d,g,h⟩
 . exact⟨by rw[h],λr _=>by rw[h],c,e,c,a,by rw[h];exact a,rfl,λ_ _ _=>rfl⟩
 . refine⟨by rw[h];simp[World.setCell],λr f=>?_,c,e,c.setIfInBounds i v,a,?_,by simp,λn j k=>?_⟩
   . rw[h];simp only[World.setCell,Array.getElem?_modify,if_neg (Ne.symm f)]
   . rw[h];simp[World.setCell,Array.getElem?_modify,a]
   . exact Array.getElem?_setIfInBounds_ne (by rcases d with rfl|rfl<;>omega)
end
section
variable{P:Program}{A:eu}{Z:Base}{s:MS P}{kk:Nat->ah}{OO:Nat->ai}{J M:Nat->Prop}{gsz:Nat}{w w':World}{t:Trace}{j:Nat}{x:bt P}{sh:Mu.Sh}
theorem dt.calm(h:dt P A Z s kk OO J M gsz w t)(a:MW A.fb A.fo w w'):Calm Z w w':=by obtain⟨d,c,_⟩:=mS a h.vg;have:=h.eN.2.1;exact⟨a.1,λb hb=>c b (by omega)⟩
theorem dt.kept(h:dt P A Z s kk OO J M gsz w t)(f:MW A.fb A.fo w w'):∀b,Kept kk OO w w' b:=λb=>by
 obtain⟨v,j,c,e,k,l,m,o,p⟩:=mS f h.vg;by_cases hb:b=A.fb
 . subst hb
   refine .inr (.inr ⟨c,k,e,l,m,o,λi x q=>by obtain⟨_,g,_,_,_,rfl,r⟩:=h.tok i x q;exact⟨g,rfl,λn u=>absurd (r n) u⟩,λn=>?_⟩);by_cases a:n=A.fo
   . subst a;exact .inr λi=>(h.dZ i).1
   . by_cases d:n=A.fo+1
     . subst d;exact .inr λi=>(h.dZ i).2.1
     . exact .inl (p n a d)
 . exact .inl (j b hb)
theorem dt.Ts(h:dt P A Z s kk OO J M gsz w t){n:Nat}(d:n=A.fo\/n=A.fo+1):KA kk OO w.heap.size (.cell ⟨A.fb,n,none⟩):=by
 have k:A.fb<w.heap.size:=by obtain⟨c,e,l⟩:=h.vg;exact(Array.getElem?_eq_some_iff.1 l).1
 refine⟨k,λi=>⟨λb=>?_,?_⟩⟩
 . obtain⟨x,a⟩:=b.own
   obtain⟨j,f,_,_,_,rfl,p⟩:=h.tok i x a
   rcases b with⟨o,q⟩|⟨m,q,_⟩|⟨g,q,r⟩
   . rw[a]at q;cases q
   . rw[a]at q;cases q
   . rw[a]at q;cases q;exact r (p _)
 . rcases d with rfl|rfl
   . exact(h.dZ i).1
   . exact(h.dZ i).2.1
theorem nQ{b o:Nat}{e:Event}(f:(e.loc=.mark .disable\/e.loc=.mark .enable)\/∃i,(i=o\/i=o+1)/\e.loc=.cell ⟨b,i,none⟩/\e.sync=true):
 (∀a,(MemAct.ofEvent e).touch?=some a->a.kind=.atomic/\∃i,(i=o\/i=o+1)/\a.loc=.cell ⟨b,i,none⟩)/\(∀a,MemAct.ofEvent e≠.mark (.release a))/\∀B,b<B->(MemAct.ofEvent e).low B:=by
 obtain⟨loc,wr,k⟩:=e;rcases f with(h|h)|⟨i,g,h,c⟩
 . simp only at h;subst h
   simp[MemAct.ofEvent,MemAct.touch?,MemAct.low]
 . simp only at h;subst h
   simp[MemAct.ofEvent,MemAct.touch?,MemAct.low]
 . simp only at h c;subst h;subst c
   refine⟨λa d=>?_,by simp[MemAct.ofEvent],λB j=>by simpa[MemAct.ofEvent,MemAct.low,Loc.low]using j⟩;simp only[MemAct.ofEvent,MemAct.touch?,Option.some.injEq]at d;subst d;exact⟨rfl,i,g,rfl⟩
theorem dt.Li(h:dt P A Z s kk OO J M gsz w t){es:Array Event}(p:EvM A.fb A.fo es){i:Nat}(q:bU P A s i)(fn:FuncId)(pos:String):
 BG kk OO w.heap.size t i (MemOp.ofEvents i fn pos es)/\(∀op∈MemOp.ofEvents i fn pos es,op.act.low w.heap.size)/\∀op∈MemOp.ofEvents i fn pos es,(∀a,op.act.touch?=some a->a.kind=.atomic)/\∀a,op.act≠.mark (.release a):=by
 have r:A.fb<w.heap.size:=by obtain⟨c,e,f⟩:=h.vg;exact(Array.getElem?_eq_some_iff.1 f).1
 refine⟨λop d a g=>?_,λop d=>?_,λop d=>?_⟩<;>obtain⟨e,j,rfl⟩:=Go.Conc.mem_ofEvents d<;>obtain⟨k,u,v⟩:=nQ (p e j)
 . obtain⟨f,n,l,o⟩:=k a g
   refine⟨f,λ_=>by rw[o];exact h.Ts l,λm b hb x y=>h.quiet m b hb ?_ y i q⟩
   rw[x,o];exact⟨rfl,.inl ⟨rfl,l⟩⟩
 . exact v _ r
 . exact⟨λa g=>(k a g).1,u⟩
end
section
variable{P:Program}{A:eu}{Fin:ah->ai->Goroutine->Prop}{Z:Base}{s:MS P}{f f':Nat->Node P}{q q':Nat->Nat}{kk kk':Nat->ah}{OO OO':Nat->ai}{J J' M:Nat->Prop}{gs:Array Goroutine}{w w':World}{t:Trace}{j:Nat}{x:bt P}{sh:Mu.Sh}{g g1:Goroutine}
theorem Dq{n:Nat}(h:x.ik=(s.w j).ik):MS.rem P n (s.aO j x sh)=MS.rem P n s:=by
 unfold MS.rem;congr 1;funext l;by_cases e:l=j
 . subst e;rw[aN,h]
 . rw[bu e]
theorem kG(D:A.b+A.n+1<=Z.lk)(V:j<A.n)(o:(s.w j).work=true)(d:x.work=true)(E:∀i,i≠A.b+j->f' i=f i)(F:∀i,i≠A.b+j->q' i=q i)(G:∀i,i≠A.b+j->i<A.b+A.n+1->kk' i=kk i)(H:∀i,i≠A.b+j->i<A.b+A.n+1->OO' i=OO i)(I:∀i,J i->J' i)
 (m:(s.sh.ms=0->sh.ms=0)\/(mayWake P g=true/\g1.status=.running)) (K:∀{i k O y},Tr P A Fin s i k O y->y.status=.running/\y.offers=none):
 Beside (cB P A Fin Z D) s (s.aO j x sh) f f' q q' kk kk' OO OO' J J' w' (A.b+j) g g1:=by
 have hb:=A.hb;have wl:∀{i l:Nat},i≠A.b+j->i=A.b+l->(s.aO j x sh).w l=s.w l:=λ{i l} h e=>bu (by omega)
 have u:MS.rem P A.n (s.aO j x sh)=MS.rem P A.n s:=Dq (by rw[(bn d).2.2.1,(bn o).2.2.1])
 have live:∀i,i≠A.b+j->(dH P A (s.aO j x sh) i↔dH P A s i):=λi c=>by
  constructor<;>rintro(h|⟨l,o,d,a⟩|h)
  . exact .inl h
  . exact .inr (.inl ⟨l,o,d,by rw[<-wl c d];exact a⟩)
  . exact .inr (.inr h)
  . exact .inl h
  . exact .inr (.inl ⟨l,o,d,by rw[wl c d];exact a⟩)
  . exact .inr (.inr h)
 have walk:∀i,i≠A.b+j->(fE P A (s.aO j x sh) i↔fE P A s i):=λi c=>by
  constructor<;>rintro(h|⟨l,o,d,a⟩|h)
  . exact .inl h
  . exact .inr (.inl ⟨l,o,d,by rw[<-wl c d];exact a⟩)
  . exact .inr (.inr h)
  . exact .inl h
  . exact .inr (.inl ⟨l,o,d,by rw[wl c d];exact a⟩)
  . exact .inr (.inr h)
 have held:∀i,i≠A.b+j->(eM P A (s.aO j x sh) i↔eM P A s i):=λi c=>by
  constructor<;>rintro(h|⟨l,o,d,a⟩)
  . exact .inl h
  . exact .inr ⟨l,o,d,by rw[<-wl c d];exact a⟩
  . exact .inl h
  . exact .inr ⟨l,o,d,by rw[wl c d];exact a⟩
 refine⟨E,F,G,H,λi _ _ h=>I i h,live,walk,held,λi c L=>?_,λi k O y c _ v=>?_,λi c C=>?_,λi c C hd=>?_,λi k O y c _ v=>?_,λi y c _ M=>?_⟩
 . show bP P A Fin (s.aO j x sh) i=bP P A Fin s i
   unfold bP;rw[u]
   rcases L with⟨rfl,_⟩|⟨l,a,rfl,_⟩|⟨rfl,_⟩
   . rfl
   . have e:A.b+l-A.b=l:=by omega
     rw[e,bu (by omega)]
     rfl
   . rw[if_neg (by omega),if_neg (by omega),if_neg (by omega),if_neg (by omega)]
     rfl
 . rcases v with h|⟨l,a,p,r⟩|h
   . exact .inl h
   . exact .inr (.inl ⟨l,a,p,by rw[wl c p];exact r⟩)
   . exact .inr (.inr h)
 . show dc P A (s.aO j x sh) i=dc P A s i
   unfold dc
   rcases C with⟨rfl,_⟩|⟨l,a,rfl,_⟩|⟨rfl,_⟩
   . rfl
   . have e:A.b+l-A.b=l:=by omega
     rw[e,bu (by omega)]
     rfl
   . rw[if_neg (by omega),if_neg (by omega),if_neg (by omega),if_neg (by omega)]
     rfl
 . rcases m with m|⟨N,u⟩
   . refine .inl ?_
     rcases hd with⟨l,sv,Y,a,p,r,B⟩|h
     . exact .inl ⟨l,sv,Y,a,p,by rw[wl c p];exact r,m B⟩
     . exact .inr h
   . refine .inr λy Q=>?_
     obtain⟨R,S⟩:=K Q;have T:(mayWake P g && g1.status !=.blocked && g1.status !=.waiting)=true:=by rw[N,u];rfl
     unfold Go.Conc.woken;rw[if_pos T,qx R S]
 . rcases v with⟨U,t,z,a,p,r,B⟩|h
   . exact .inl ⟨U,t,z,a,p,r,by rw[u];exact B⟩
   . exact .inr h
 . exact λl b X a p r=>M l b X a p (by rw[<-r];exact(wl c p).symm)
end
end Go.bd

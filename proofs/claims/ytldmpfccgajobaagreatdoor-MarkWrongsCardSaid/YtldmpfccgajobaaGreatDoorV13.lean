import Derived.Conc.CrowdComm
import Derived.Test.YtldmpfccgajobaaGreatDoorV12
set_option linter.all false
namespace Go.bG
open Go.Conc
open Go.ConcN (sumTo upd sumTo_upd upd_ne upd_same)
structure dk where
 b:Nat
 n:Nat
 cF:Nat
 fb:Nat
 fo:Nat
 gb:Nat
 mb:Nat
 GI:ji->Prop
 res:Nat->AV
 nm:wp
 ng:FJ
 hb:0<b
 hn:n<=900
 d1:cF≠fb
 d2:cF≠gb
 d3:cF≠mb
 d4:fb≠gb
 d5:fb≠mb
 d6:gb≠mb
def gM:ag->ah->Goroutine->Prop:=λ_ _ _=>False
def pN:Nat->Option Value:=λ_=>none
def br(fo:Nat):Nat->Option Value:=λi=>if i=fo then some (.int .i32 0)else if i=fo+1 then some (.int .u32 0)else none
section
variable(P:Program)(A:dk)(Fin:ag->ah->Goroutine->Prop)
def Lb(k:ag)(O:ah)(g:Goroutine)(N:ag->ah->Goroutine->Prop):Prop:=
 ∃ kind c rest e,kind≠.early/\g=G (Frame.enter P A.nm.lock #[.pointer (some ⟨A.fb,A.fo,none⟩)] kind) (c::rest)/\O A.fb=none/\k.sh A.fb=some e/\
   ∀b x a,k.Le b->kf b x a->A.GI a->O A.mb=none->N b ((O.set A.mb x).set A.fb (.part pN)) (jj kind c rest (.tuple #[]))
def CY(k:ag)(O:ah)(g:Goroutine)(N:ag->ah->Goroutine->Prop):Prop:=
 ∃ kind c rest f x a,kind≠.early/\g=G (Frame.enter P A.nm.unlock #[.pointer (some ⟨A.fb,A.fo,none⟩)] kind) (c::rest)/\O A.fb=some (.part f)/\O A.mb=some x/\kf k x a/\A.GI a/\
   N k ((O.del A.mb).del A.fb) (jj kind c rest (.tuple #[]))
def oc:Mo:=⟨false,false,λk O g N=>N=gM/\∃a fn tmps todo,P.funcs[a]?=some fn/\fn.results=#[]/\g=G (Frame.enter P A.ng.done #[.pointer (some ⟨A.gb,0,none⟩)] .deferred) [jq P a tmps todo,ck P]⟩
def jx(j:Nat):Mo:=⟨false,false,λk O g N=>Lb P A k O g N\/CY P A k O g N\/(N=gM/\O A.fb=none/\∃a z v,(∀w,Sat k O w->stepG P false g w=.comm a #[scase A.cF v z] true .send w #[])/\V k v (A.res j)/\T P (oc P A) gM k O (Go.Conc.served a undef))⟩
def oU:Mo:=⟨false,false,λk O g N=>N=gM/\∃a n,mayWake P g=true/\(∀w s r b,Sat k O w->w.heap[A.cF]?=some (.chan 0 #[] false s r b)->stepG P false g w=.go a {w with heap:=w.heap.setIfInBounds A.cF (.chan 0 #[] true s r b)} #[⟨.obj A.cF,false,true⟩,⟨.obj A.cF,true,true⟩])/\QuitsD P n 0 a⟩
def uc:Mo:=⟨false,false,λk O g N=>N=gM/\∃c rest,g=G (Frame.enter P A.ng.wait #[.pointer (some ⟨A.gb,0,none⟩)] .normal) (c::rest)/\∀a,k.Le a->T P (oU P A) gM a O (jj .normal c rest (.tuple #[]))⟩
def cU(k:ag)(O:ah)(g a:Goroutine)(z:Value):Prop:=∀w,Sat k O w->stepG P true g w=.comm a #[rcase A.cF z] true (.recv true) w #[]
def ov:Nat->List Nat->Mo
 | 0,R=>⟨true,false,λk O g N=>N=gM/\∃b z,cU P A k O g b z/\cU P A k O b b z/\b.status=.running/\(∃e,k.sh A.fb=some e)/\
    ∀c x a,k.Le c->kf c x a->A.GI a->Fin c ((O.set A.mb x).set A.fb (.part (br A.fo))) (Go.Conc.served b (.tuple #[z,.bool false]))⟩
 | m + 1,R=>⟨true,false,λk O g N=>N=gM/\∃b z,cU P A k O g b z/\cU P A k O b b z/\b.status=.running/\
     ∀j∈R,∀c v,k.Le c->V c v (A.res j)->T P (ov m (R.erase j)) gM c O (Go.Conc.served b (.tuple #[v,.bool true]))⟩
def wu:Nat->Mo
 |0=>⟨true,false,λk O g N=>N=gM/\∃a child,(∀w,Sat k O w->stepG P true g w=.spawn a child w #[])/\T P (uc P A) gM k ah.bot child/\T P (ov P A Fin A.n (List.range A.n)) gM k O a⟩
 | m + 1=>⟨true,false,λk O g N=>N=gM/\∃c rest,g=G (Frame.enter P A.ng.add #[.pointer (some ⟨A.gb,0,none⟩),.int .i64 1] .normal) (c::rest)/\
     T P ⟨true,false,λk O g N=>N=gM/\∃a child,(∀w,Sat k O w->stepG P true g w=.spawn a child w #[])/\T P (jx P A (A.n-(m+1))) gM k ah.bot child/\T P (wu m) gM k O a⟩ gM k O (jj .normal c rest (.tuple #[]))⟩
def CZ(m:Nat):Mo:=⟨true,false,λk O g N=>N=gM/\∃a child,(∀w,Sat k O w->stepG P true g w=.spawn a child w #[])/\T P (jx P A (A.n-(m+1))) gM k ah.bot child/\T P (wu P A Fin m) gM k O a⟩
structure uf where
 m:Mo
 k:ag
 O:ah
 g:Goroutine
 N:ag->ah->Goroutine->Prop
 h0:g.status=.running
 ht:m.cJ k O g N
 c:∀k' O' g',N k' O' g'->TT P m k' O' g'
variable {P} in
def uf.node(y:uf P):Node P:=⟨y.m,y.k,y.O,y.g,.cJ y.N y.h0 y.ht y.c⟩
inductive aW where
 |idle
 |run (h:Bool) (X:Node P)
 |lk (p:pI) (Y:uf P)
 |un (p:pI) (Y:uf P)
 |wait
 |wv
 |dn (p:sP)
 |gone
inductive iv where
 |none|dH|wt (p:sP)|iX|gone
inductive mP where
 |add (j:Nat)|bb (j:Nat) (p:sP)|spawn (j:Nat)|recv|parked
structure MS where
 ms:mP
 sp:Nat
 w:Nat->aW P
 c:iv
 sh:Mu.Sh
 gc:Nat
 gv:Nat
 gm:Nat
def pI.abs:pI->Mu.Pc
 |.ld=>.out|.fF=>.fF|.rd l=>.rd l|.sq o l=>.sq o l|.sw o l=>.sw o l|.jh o l=>.jh o l|.t1 sv=>.eY sv|.eY sv=>.eY sv|.tq=>.tq|.up sv=>.up sv|.add o sv=>.add o sv
 |.le=>.held|.la=>.held|.back=>.held|.CK=>.held|.ur=>.held|.ud=>.held|.held=>.held|.gJ o=>.gJ o|.sB=>.sB|.give=>.give|.ue=>.out|.zp=>.out
variable{P}
def aW.pc:aW P->Mu.Pc
 |.run true _=>.held
 |.lk p _=>p.abs
 |.un p _=>p.abs
 |_=>.out
def aW.owns:aW P->Bool
 |.run h _=>h
 |.un .CK _=>true
 |.un .ur _=>true
 |_=>false
def zr:pI->Bool
 |.ld=>true|.fF=>true|.rd _=>true|.sq ..=>true|.sw ..=>true|.jh ..=>true|.t1 _=>true|.eY _=>true|.tq=>true|.up _=>true|.add ..=>true|.le=>true|.la=>true
 |_=>false
def vG:pI->Bool
 |.CK=>true|.ur=>true|.ud=>true|.held=>true|.gJ _=>true|.sB=>true|.give=>true|.ue=>true
 |_=>false
def aW.deaf:aW P->Nat
 |.lk .ld _=>0|.lk .la _=>0|.lk _ _=>1
 |.un .CK _=>0|.un .ur _=>0|.un .ud _=>0|.un _ _=>1
 |.dn .d1=>0|.dn .d2=>0|.dn _=>1
 |_=>0
def rQ:sP->Nat
 |.a0=>0|.a2=>1|.a4=>1|.ae=>1
 |.w0=>0|.w1=>1|.we=>1|.wa=>0|.w2 _=>1|.w3=>1|.w4=>1|.w5=>1
 |_=>0
def aW.bU:aW P->Nat
 |.idle=>0|.run ..=>20|.lk ..=>20|.un ..=>20|.wait=>19|.wv=>18
 |.dn .d1=>12|.dn .d2=>11|.dn .d4=>10|.dn .d5=>4|.dn .d6=>3|.dn _=>2|.gone=>0
def iv.bU(gc:Nat):iv->Nat
 |.none=>0|.dH=>14
 |.wt .w0=>13|.wt .w1=>10|.wt (.w2 k)=>if gc=k then 9 else 11|.wt .w3=>8|.wt .w4=>7|.wt .w5=>6|.wt .we=>5|.wt _=>4
 |.iX=>3|.gone=>0
def mP.bU:mP->Nat
 |.add j=>40*j+200|.bb j .a0=>40*j+199|.bb j .a2=>40*j+198|.bb j .a4=>40*j+197|.bb j _=>40*j+196
 |.spawn j=>40*j+225|.recv=>100|.parked=>99
def MS.bU(n:Nat)(s:MS P):Nat:=s.ms.bU+sumTo n (λj=>(s.w j).bU)+s.c.bU s.gc
def x5(n:Nat):Nat:=4*(6*(18*n+1)+16)+20
def aW.ex(n:Nat):aW P->Nat
 |.run ..=>2*x5 n|.lk .ld _=>x5 n|.lk (.t1 _) _=>1|.lk .le _=>2|.lk .la _=>1
 |.un .CK _=>5|.un .ur _=>4|.un .ud _=>3|.un .ue _=>1|_=>0
def MS.inner(n:Nat)(s:MS P):Nat:=4*Mu.meas n (λj=>(s.w j).pc) s.sh+sumTo n (λj=>(s.w j).ex n)
def aW.nd:aW P->Option (Node P)
 |.run _ X=>some X|.lk _ Y=>some Y.node|.un _ Y=>some Y.node|_=>none
end
def DT{P:Program}(a b:Option (Node P)):Prop:=∃x y,a=some x/\b=some y/\Relation.TransGen mO x y
theorem GJ{P:Program}:∀a:Option (Node P),Acc DT a:=by
 have key:∀x:Node P,Acc (Relation.TransGen mO) x->Acc DT (some x):=by
  intro x b;induction b with
  |intro x _ c=>exact⟨_,λy ⟨u,v,d,f,h⟩=>by subst d;cases f;exact c u h⟩
 intro a;cases a with
 |none=>exact⟨_,λy ⟨u,v,_,e,_⟩=>by cases e⟩
 |some x=>exact key x ((WellFounded.intro zc).transGen.apply x)
def GK{α:Type}(R:α->α->Prop)(n:Nat)(f' f:Nat->α):Prop:=∃i,i<n/\(∀j,j≠i->f' j=f j)/\R (f' i) (f i)
theorem zs{α:Type}{R:α->α->Prop}(j:∀a,Acc R a):∀(n:Nat) (f:Nat->α),Acc (GK R n) f
 |0,f=>⟨_,λy ⟨i,l,_⟩=>by omega⟩
 | n + 1,f=>by
   have key:∀x:α,Acc R x->∀f:Nat->α,f n=x->Acc (GK R (n+1)) f:=by
    intro x m;induction m with
    | intro x _ d=>
      intro f k;have o:=zs j n f;induction o with
      | intro f _ g=>
        refine⟨_,λf' ⟨i,l,b,h⟩=>?_⟩;by_cases c:i=n
        . subst c
          rw[k]at h;exact d (f' i) h f' rfl
        . exact g f' ⟨i,by omega,b,h⟩ (by rw[b n (λe=>c e.symm)];exact k)
   exact key (f n) (j _) f rfl
def MS.fh{P:Program}(n:Nat)(s' s:MS P):Prop:=s'.bU n<s.bU n\/(s'.bU n=s.bU n/\(GK DT n (λj=>(s'.w j).nd) (λj=>(s.w j).nd)\/((λj=>(s'.w j).nd)=(λj=>(s.w j).nd)/\s'.inner n<s.inner n)))
theorem JK{P:Program}(n:Nat):WellFounded (MS.fh (P:=P) n):=by
 have c:WellFounded (GK (DT (P:=P)) n):=⟨zs GJ n⟩;have d:=(Prod.lex ⟨Nat.lt,Nat.lt_wfRel.wf⟩ (Prod.lex ⟨GK (DT (P:=P)) n,c⟩ ⟨Nat.lt,Nat.lt_wfRel.wf⟩)).wf;refine Subrelation.wf (r:=InvImage _ (λs:MS P=>(s.bU n,(λj=>(s.w j).nd),s.inner n))) ?_ (InvImage.wf _ d);intro s' s h;rcases h with h|⟨h,a|⟨a,b⟩⟩
 . exact Prod.Lex.left _ _ h
 . show Prod.Lex _ _ (_,_) (_,_)
   rw[h];exact Prod.Lex.right _ (Prod.Lex.left _ _ a)
 . show Prod.Lex _ _ (_,_) (_,_)
   rw[h,a];exact Prod.Lex.right _ (Prod.Lex.right _ b)
end Go.bG
namespace Go.bG
open Go.Conc
open Go.ConcN (sumTo upd sumTo_upd upd_ne upd_same)
section
variable{P:Program}
def aW.fH:aW P->Bool
 |.wv=>true|.dn _=>true|.gone=>true|_=>false
def aW.cnt:aW P->Nat
 |.run ..=>1|.lk ..=>1|.un ..=>1|.wait=>1|.wv=>1|.dn .d1=>1|.dn .d2=>1|.dn .d4=>1|_=>0
def aW.busy:aW P->Bool
 |.run ..=>true|.lk ..=>true|.un ..=>true|.wait=>true|.wv=>true|.dn .d1=>true|_=>false
def aW.last:aW P->Bool
 |.dn .d5=>true|.dn .d6=>true|.dn .d7=>true|_=>false
def aW.gZ:aW P->Bool
 |.idle=>true|_=>false
def aW.ok:aW P->Bool
 |.lk p _=>zr p
 |.un p _=>vG p
 |.dn p=>(match p with|.d1=>true|.d2=>true|.d4=>true|.d5=>true|.d6=>true|.d7=>true|_=>false)
 |_=>true
def iv.busy:iv->Bool
 |.dH=>true|.wt _=>true|.iX=>true|_=>false
def iv.ok:iv->Bool
 |.wt p=>(match p with|.w0=>true|.w1=>true|.w2 _=>true|.w3=>true|.w4=>true|.w5=>true|.we=>true|.wa=>true|_=>false)
 |_=>true
def iv.waits:iv->Bool
 |.wt .w3=>true|.wt .w4=>true|_=>false
def iv.GL:iv->Bool
 |.wt .w5=>true|.wt .we=>true|.wt .wa=>true|.iX=>true|.gone=>true|_=>false
def iv.isNone:iv->Bool
 |.none=>true|_=>false
def iv.dp:iv->Bool
 |.gone=>true|_=>false
def mP.pend:mP->Nat
 |.bb _ .a4=>1|.bb _ .ae=>1|.spawn _=>1|_=>0
structure bs(n:Nat)(s:MS P):Prop where
 g1:s.gc=sumTo n (λj=>(s.w j).cnt)+s.ms.pend
 g2:s.gv<=1
 pP:s.gv=1->s.c.waits=true/\s.gm=0
 g3:∀j,j<n->(s.w j=.dn .d5\/s.w j=.dn .d6)->s.gv=1/\s.gc=0
 pf:∀i j,i<n->j<n->(s.w i).last=true->(s.w j).last=true->i=j
 g4:∀j,j<n->s.w j=.dn .d7->s.gv=0/\s.gc=0/\s.gm=0/\s.c.waits=true
 g5:s.gm<=1/\(s.gm=1->s.c.waits=true/\s.gv=0/\s.gc=0/\∀j,j<n->(s.w j).last=false)
 g6:s.c.waits=true->s.gv=0->s.gm=0->∃j,j<n/\s.w j=.dn .d7
 g7:s.gv=1->s.gc=0->∃j,j<n/\(s.w j=.dn .d5\/s.w j=.dn .d6)
 g8:s.c.GL=true->s.gc=0/\s.gv=0/\s.gm=0/\∀j,j<n->s.w j=.gone
 g9:∀k,s.c=.wt (.w2 k)->k≠0
 ok:∀j,j<n->(s.w j).ok=true
 LO:s.c.ok=true
 sp:s.sp<=n
 idle:∀j,j<n->((s.w j).gZ=true↔s.sp<=j)
 ms:match s.ms with
  |.add j=>s.sp+j=n/\s.c=.none
  |.bb j p=>s.sp+j=n/\s.c=.none/\1<=j/\(p=.a0\/p=.a2\/p=.a4\/p=.ae)
  |.spawn j=>s.sp+j+1=n/\s.c=.none
  |.recv=>s.sp=n/\s.c≠.none
  |.parked=>s.sp=n/\s.c≠.none/\s.c≠.gone/\∀j,j<n->s.w j≠.wait
 early:s.c=.none->∀j,j<n->(s.w j).fH=false
 mu:Mu.Inv n (λj=>(s.w j).pc) s.sh
end
variable(P:Program)(A:dk)(Fin:ag->ah->Goroutine->Prop)
def MS.rem(n:Nat)(s:MS P):List Nat:=(List.range n).filter λj=>!(s.w j).fH
def cL(s:MS P)(i:Nat):Prop:=(i=0/\(match s.ms with|.add _=>True|.spawn _=>True|.recv=>True|_=>False))\/(∃j,j<A.n/\i=A.b+j/\(match s.w j with|.run ..=>True|.wv=>True|_=>False))\/(i=A.b+A.n/\(match s.c with|.dH=>True|.iX=>True|_=>False))
def dV(s:MS P)(i:Nat):Prop:=(i=0/\(match s.ms with|.bb ..=>True|_=>False))\/(∃j,j<A.n/\i=A.b+j/\(match s.w j with|.lk ..=>True|.un ..=>True|.dn _=>True|_=>False))\/(i=A.b+A.n/\(match s.c with|.wt _=>True|_=>False))
def dz(s:MS P)(i:Nat):Prop:=(i=0/\s.ms=.parked)\/(∃j,j<A.n/\i=A.b+j/\s.w j=.wait)
def bm(s:MS P)(i:Nat):Mo:=
 if i=0 then(match s.ms with|.add j=>wu P A Fin j|.spawn j=>CZ P A Fin j|_=>ov P A Fin (MS.rem P A.n s).length (MS.rem P A.n s))
 else if i<A.b+A.n then(match s.w (i-A.b)with|.run ..=>jx P A (i-A.b)|_=>oc P A)else(match s.c with|.dH=>uc P A|_=>oU P A)
theorem Bx(s:MS P)(i:Nat):(bm P A Fin s i).main=(i==0):=by
 have b:∀m R,(ov P A Fin m R).main=true:=λm R=>by cases m<;>rfl
 have c:∀m,(wu P A Fin m).main=true:=λm=>by cases m<;>rfl
 unfold bm
 by_cases a:i=0
 . subst a
   simp only[if_true,beq_self_eq_true];split
   . exact c _
   . rfl
   . exact b _ _
 . have:(i==0)=false:=by simpa using a
   rw[if_neg a,this];split
   . split<;>rfl
   . split<;>rfl
def DU(j:Nat)(x:aW P)(k:ag)(O:ah)(g:Goroutine):Prop:=
 match x with
 |.lk p Y=>∃kind c rest e,kind≠.early/\lV P A.nm A.fb A.fo kind p (c::rest) g/\Y.m=jx P A j/\O A.fb=none/\k.sh A.fb=some e/\∀b x a,k.Le b->kf b x a->A.GI a->O A.mb=none->Y.N b ((O.set A.mb x).set A.fb (.part pN)) (jj kind c rest (.tuple #[]))
 | .un p Y=>∃kind c rest,kind≠.early/\lV P A.nm A.fb A.fo kind p (c::rest) g/\Y.m=jx P A j/\
    ((p=.CK\/p=.ur)->∃f x a,O A.fb=some (.part f)/\O A.mb=some x/\kf k x a/\A.GI a/\Y.N k ((O.del A.mb).del A.fb) (jj kind c rest (.tuple #[])))/\
    (¬(p=.CK\/p=.ur)->Y.N k O (jj kind c rest (.tuple #[])))
 |.dn p=>∃d fn tmps todo,P.funcs[d]?=some fn/\fn.results=#[]/\ot P A.ng A.gb .deferred p [jq P d tmps todo,ck P] g
 |_=>False
def Oa(x:iv)(k:ag)(O:ah)(g:Goroutine):Prop:=
 match x with
 |.wt p=>∃c rest,ot P A.ng A.gb .normal p (c::rest) g/\∀a,k.Le a->T P (oU P A) gM a O (jj .normal c rest (.tuple #[]))
 |_=>False
def Pk(x:mP)(k:ag)(O:ah)(g:Goroutine):Prop:=
 match x with
 |.bb j p=>∃c rest,ot P A.ng A.gb .normal p (c::rest) g/\T P (CZ P A Fin (j-1)) gM k O (jj .normal c rest (.tuple #[]))
 |_=>False
def Ob(s:MS P)(i:Nat)(k:ag)(O:ah)(g:Goroutine):Prop:=(i=0/\Pk P A Fin s.ms k O g)\/(∃j,j<A.n/\i=A.b+j/\DU P A j (s.w j) k O g)\/(i=A.b+A.n/\Oa P A s.c k O g)
def LP(s:MS P)(i:Nat):Prop:=(∃j sv Y,j<A.n/\i=A.b+j/\s.w j=.lk (.eY sv) Y/\s.sh.ms=0)\/(i=A.b+A.n/\s.c=.wt .w4/\s.gm=0)
def P6(s:MS P)(i:Nat)(k:ag)(O:ah)(g:Goroutine):Prop:=
 (i=0/\∃a z,g=parked a #[rcase A.cF z] (.recv true)/\cU P A k O a a z/\a.status=.running/\(ov P A Fin (MS.rem P A.n s).length (MS.rem P A.n s)).cJ k O a gM)\/
 (∃j,j<A.n/\i=A.b+j/\∃a z v,g=parked a #[scase A.cF v z] .send/\V k v (A.res j)/\O A.fb=none/\T P (oc P A) gM k O (Go.Conc.served a undef))
def cd(s:MS P)(i:Nat):Nat:=
 if i=0 then(match s.ms with|.bb _ p=>rQ p|_=>0)
 else if i<A.b+A.n then(s.w (i-A.b)).deaf else(match s.c with|.wt p=>rQ p|_=>0)
def jJ(w:World):Prop:=(∃v,w.cell? ⟨A.gb,0,none⟩=some v)/\(∃v,w.cell? ⟨A.gb,1,none⟩=some v)/\∃v,w.cell? ⟨A.fb,A.fo,none⟩=some v
def GM(A:dk):Loc->Prop
 |.cell a=>a.spot=none/\((a.block=A.fb/\(a.off=A.fo\/a.off=A.fo+1))\/(a.block=A.gb/\(a.off=0\/a.off=1)))
 |.obj r=>r=A.cF
 |_=>False
def dW(s:MS P)(i:Nat):Prop:=(∃j,j<A.n/\i=A.b+j/\(s.w j).busy=true)\/(i=A.b+A.n/\s.c.busy=true)
def bt(s:MS P)(i:Nat):Prop:=i=0\/(∃j,j<s.sp/\i=A.b+j)\/(i=A.b+A.n/\s.c≠.none)
structure cz(Z:Base)(s:MS P)(kk:Nat->ag)(OO:Nat->ah)(J M:Nat->Prop)(gsz:Nat)(w:World)(t:Trace):Prop where
 I:bs A.n s
 size:gsz=A.b+s.sp+(if s.c.isNone then 0 else 1)
 vq:∃x tm,w.heap[A.cF]?=some (.chan 0 #[] s.c.dp x x tm)
 mu:ShM A.fb A.fo w s.sh
 gr:oq A.gb w s.gc s.gv s.gm
 rR:∃c e,w.heap[A.fb]?=some (.cells c e (0,0))
 vH:∃c e,w.heap[A.gb]?=some (.cells c e (0,0))
 ew:∀i,OO i A.cF=none/\OO i A.gb=none
 dg:∀i,(kk i).cell A.fb A.fo=none/\(kk i).cell A.fb (A.fo+1)=none/\(kk i).cell A.gb 0=none/\(kk i).cell A.gb 1=none
 tok:∀i x,OO i A.fb=some x->∃j f,j<A.n/\i=A.b+j/\(s.w j).owns=true/\x=.part f/\∀l,f l=none
 ug:∀j,j<A.n->(s.w j).owns=true->OO (A.b+j) A.fb≠none
 GN:(∀j,j<A.n->(s.w j).owns=false)->∃x a,OO Z.lk A.mb=some x/\kf (kk Z.lk) x a/\A.GI a
 FK:∀c,OO Z.lk c≠none->c=A.mb/\∀j,j<A.n->(s.w j).owns=false
 hJ:∀i,J i↔dW P A s i
 hM:∀p,M p->t.heard p/\Z.N0<=p/\((t.act? p=some (.mark (.releaseMerge ⟨A.gb,0,none⟩))/\(s.c=.none\/s.c=.dH\/∃q,s.c=.wt q))\/(s.c=.gone/\t.act? p=some (.close A.cF)))
 shut:s.c=.gone->∃p,M p/\t.act? p=some (.close A.cF)/\t.heard p
 quiet:∀m a,touchAt t m=some a->GM A a.loc->a.kind=.plain->∀i,bt P A s i->Knows t i m
 said:∀m a,touchAt t m=some a->GM A a.loc->a.kind=.said->Knows t (if s.c.isNone then 0 else A.b+A.n) m
 old:∀i,bt P A s i->∀m a,m<Z.N0->touchAt t m=some a->a.loc.isMemory=true -> ¬Z.Shun a.loc->Knows t i m
 norel:∀m a,Z.N0<=m->t.act? m≠some (.mark (.release a))
 zt:∀i,i≠Z.lk -> ¬bt P A s i->kk i=ag.bot/\OO i=ah.bot
 oO:∀a,GM A a->(∃c,a=.cell c/\c.block=A.gb)->Z.Shun a
 iB:∀c:Addr,c.block=A.fb/\(c.off=A.fo\/c.off=A.fo+1) -> ¬Z.Shun (.cell c)
 dA:Z.W0.heap.size<=A.cF/\Z.W0.heap.size<=A.fb/\Z.W0.heap.size<=A.gb
 la:Z.la=⟨A.fb,A.fo,none⟩
 n0:Z.N0<=t.size
def Node.LQ{P:Program}:Node P->Prop
 |⟨_,_,_,_,.cJ ..⟩=>True
 |_=>False
def rS{P:Program}(x X:Node P):Prop:=∀y,(y=x\/Relation.TransGen mO y x)->y.LQ->(y=X\/Relation.TransGen mO y X)
theorem rS.sub{P:Program}{x y X:Node P}(h:rS x X)(a:mO y x):rS y X:=λz b c=>h z (b.elim (λe=>.inr (by rw[e];exact .single a)) (λe=>.inr (e.tail a))) c
theorem rS.refl{P:Program}(X:Node P):rS X X:=λy a _=>a
def JL(s:MS P)(i:Nat)(x:Node P):Prop:=∀j h X,j<A.n->i=A.b+j->s.w j=.run h X->rS x X
def bM(Z:Base)(a:A.b+A.n+1<=Z.lk):om P where
 S:=MS P
 r:=MS.fh A.n
 wf:=JK A.n
 mo:=bm P A Fin
 main:=Bx P A Fin
 top:=A.b+A.n+1
 lk:=Z.lk
 NK:=a
 Live:=cL P A
 Walk:=dV P A
 At:=Ob P A Fin
 wi:=LP P A
 ma:=dz P A
 Bk:=P6 P A Fin
 deaf:=cd P A
 Wd:=jJ A
 Ex:=cz P A Z
 Jw:=JL P A
 tie:=λs i x y hs h j b X c d e=>(h j b X c d e).sub hs
end Go.bG
namespace Go.bG
open Go.Conc
open Go.ConcN (sumTo upd sumTo_upd upd_ne upd_same)
theorem uh{t:Trace}(u:Trace){p:Nat}{x:MemAct}(h:t.act? p=some x)(b:t.heard p):(t++u).act? p=some x/\(t++u).heard p:=by have a:=lt_of_act? h;exact⟨by rw[act?_old a];exact h,(heard_old a).2 b⟩
structure zu(b:Nat)(w w':World):Prop where
 cell:∀l,w'.cell? ⟨b,l,none⟩=w.cell? ⟨b,l,none⟩
 fz:∀l,w'.frozen? ⟨b,l,none⟩=w.frozen? ⟨b,l,none⟩
theorem zu.of_heap{b:Nat}{w w':World}(h:w'.heap[b]?=w.heap[b]?):zu b w w':=⟨λl=>by simp only[World.cell?,h],λl=>by simp only[World.frozen?,h]⟩
theorem ShM.same{b o:Nat}{w w':World}{s:Mu.Sh}(h:ShM b o w s)(e:zu b w w'):ShM b o w' s:=⟨by rw[e.cell];exact h.cw,by rw[e.cell];exact h.cs,λi=>by rw[e.fz];exact h.fz i⟩
theorem oq.same{b:Nat}{w w':World}{c v m:Nat}(h:oq b w c v m)(e:zu b w w'):oq b w' c v m:=⟨by rw[e.cell];exact h.cw,by rw[e.cell];exact h.cs,λi=>by rw[e.fz];exact h.fz i⟩
theorem kz{t u:Trace}{m:Nat}{a:Touch}(h:touchAt (t++u) m=some a):(touchAt t m=some a/\m<t.size)\/∃op∈u,op.act.touch?=some a:=by
 obtain⟨x,e,b⟩:=touch_of h;rcases getElem?_append_cases e with⟨f,c⟩|⟨_,d⟩
 . exact .inl ⟨by rw[touchAt_of c];exact b,f⟩
 . exact .inr ⟨x,d,b⟩
theorem qR{t u:Trace}{m:Nat}{x:MemAct}(h:(t++u).act? m=some x):(t.act? m=some x/\m<t.size)\/∃op∈u,op.act=x:=by
 unfold Trace.act? at h;obtain⟨y,c,rfl⟩:=Option.map_eq_some_iff.1 h;rcases getElem?_append_cases c with⟨d,a⟩|⟨_,b⟩
 . exact .inl ⟨by simp[Trace.act?,a],d⟩
 . exact .inr ⟨y,b,rfl⟩
section
variable{P:Program}{A:dk}{Fin:ag->ah->Goroutine->Prop}{Z:Base}{s:MS P}{kk kk':Nat->ag}{OO OO':Nat->ah}{J M:Nat->Prop}{gsz:Nat}{w w':World}{t:Trace}
theorem cz.hQ(h:cz P A Z s kk OO J M gsz w t)(u:Trace)(f:∀op∈u,∀a,op.act.touch?=some a->GM A a.loc->a.kind≠.plain):∀m a,touchAt (t++u) m=some a->GM A a.loc->a.kind=.plain->∀i,bt P A s i->Knows (t++u) i m:=λm a g d e i j=>by
 rcases kz g with⟨b,_⟩|⟨op,c,b⟩
 . exact(h.quiet m a b d e i j).app u
 . exact absurd e (f op c a b d)
theorem cz.kA(h:cz P A Z s kk OO J M gsz w t)(u:Trace)(i:∀op∈u,∀a,op.act.touch?=some a->GM A a.loc->a.kind≠.said):∀m a,touchAt (t++u) m=some a->GM A a.loc->a.kind=.said->Knows (t++u) (if s.c.isNone then 0 else A.b+A.n) m:=λm a j f g=>by
 rcases kz j with⟨d,_⟩|⟨op,e,d⟩
 . exact(h.said m a d f g).app u
 . exact absurd g (i op e a d f)
theorem cz.mh(h:cz P A Z s kk OO J M gsz w t)(u:Trace):∀i,bt P A s i->∀m a,m<Z.N0->touchAt (t++u) m=some a->a.loc.isMemory=true -> ¬Z.Shun a.loc->Knows (t++u) i m:=λi g m a e j b k=>by
 have c:m<t.size:=Nat.lt_of_lt_of_le e h.n0
 have l:touchAt t m=some a:=by obtain⟨x,f,d⟩:=touch_of j;rw[Array.getElem?_append_left c]at f;rw[touchAt_of f];exact d
 exact(h.old i g m a e l b k).app u
theorem cz.fQ(h:cz P A Z s kk OO J M gsz w t)(u:Trace)(d:∀op∈u,∀a,op.act≠.mark (.release a)):∀m a,Z.N0<=m->(t++u).act? m≠some (.mark (.release a)):=λm a f e=>by
 rcases qR e with⟨b,_⟩|⟨op,c,b⟩
 . exact h.norel m a f b
 . exact d op c a b
theorem cz.pQ(h:cz P A Z s kk OO J M gsz w t)(u:Trace):∀p,M p->(t++u).heard p/\Z.N0<=p/\(((t++u).act? p=some (.mark (.releaseMerge ⟨A.gb,0,none⟩))/\(s.c=.none\/s.c=.dH\/∃q,s.c=.wt q))\/(s.c=.gone/\(t++u).act? p=some (.close A.cF))):=λp i=>by
 obtain⟨f,g,a⟩:=h.hM p i;rcases a with⟨a,b⟩|⟨a,b⟩
 . obtain⟨d,e⟩:=uh u a f
   exact⟨e,g,.inl ⟨d,b⟩⟩
 . obtain⟨d,e⟩:=uh u b f
   exact⟨e,g,.inr ⟨a,d⟩⟩
theorem cz.jy(h:cz P A Z s kk OO J M gsz w t)(u:Trace):s.c=.gone->∃p,M p/\(t++u).act? p=some (.close A.cF)/\(t++u).heard p:=λa=>by obtain⟨p,b,d,e⟩:=h.shut a;obtain⟨f,g⟩:=uh u d e;exact⟨p,b,f,g⟩
theorem By(I:bs A.n s){i:Nat}(f:cL P A s i):bt P A s i:=by
 rcases f with⟨h,_⟩|⟨j,c,b,d⟩|⟨c,b⟩
 . exact .inl h
 . refine .inr (.inl ⟨j,?_,b⟩)
   have a:=I.idle j c;cases e:s.w j with
   |idle=>rw[e]at d;exact d.elim
   |_=>rw[e]at a;simp[aW.gZ]at a;omega
 . refine .inr (.inr ⟨c,λe=>?_⟩)
   rw[e]at b;exact b
theorem GO{i:Nat}(a:cL P A s i):i<A.b+A.n+1:=by
 have:=A.hb;rcases a with⟨h,_⟩|⟨j,c,d,e⟩|⟨c,d⟩<;>omega
theorem vI(h:cz P A Z s kk OO J M gsz w t){i:Nat}{e:Event}(B:gO (kk i) (OO i) w.heap.size e){a:Touch}(C:(MemAct.ofEvent e).touch?=some a):¬GM A a.loc:=λk=>by
 have K:A.fb<w.heap.size:=by obtain⟨c,e,b⟩:=h.rR;exact(Array.getElem?_eq_some_iff.1 b).1
 have L:A.gb<w.heap.size:=by obtain⟨c,e,b⟩:=h.vH;exact(Array.getElem?_eq_some_iff.1 b).1
 have n:∀l,¬aK (OO i) A.fb l:=λl hc=>by
  obtain⟨x,y⟩:=hc.own;obtain⟨j,f,_,_,_,rfl,D⟩:=h.tok i x y
  rcases hc with⟨o,q⟩|⟨m,q,_⟩|⟨g,q,E⟩
  . rw[y]at q;cases q
  . rw[y]at q;cases q
  . rw[y]at q;cases q;exact E (D l)
 have p:∀l,¬aK (OO i) A.gb l:=λl=>de (h.ew i).2
 obtain⟨F,G,H,I⟩:=h.dg i;have N:A.cF<w.heap.size:=by obtain⟨x,O,b⟩:=h.vq;exact(Array.getElem?_eq_some_iff.1 b).1
 rcases kO B C with⟨Q,z,hc⟩|⟨r,z,u⟩
 . rw [z]at k
   obtain⟨_,k⟩:=k
   rcases k with⟨b,d⟩|⟨b,d⟩
   . rw[b]at hc
     rcases hc with hc|hc|⟨_,v,hc⟩
     . exact n _ hc
     . omega
     . rcases d with d|d<;>rw[d]at hc
       . rw[F]at hc;cases hc
       . rw[G]at hc;cases hc
   . rw[b]at hc
     rcases hc with hc|hc|⟨_,v,hc⟩
     . exact p _ hc
     . omega
     . rcases d with d|d<;>rw[d]at hc
       . rw[H]at hc;cases hc
       . rw[I]at hc;cases hc
 . rw[z]at k
   have k:r=A.cF:=k;subst k
   rcases u with⟨o,u⟩|u
   . rw[(h.ew i).1]at u;cases u
   . omega
theorem vJ{k:ag}{O:ah}{B:Nat}{e:Event}(b:gO k O B e)(a:Addr):MemAct.ofEvent e≠.mark (.release a):=by
 obtain⟨loc,wr,c⟩:=e;cases loc with
 |mark m=>simp only[gO]at b;cases m<;>simp_all [iI,kK,MemAct.ofEvent]
 |cell d=>simp[MemAct.ofEvent]
 |obj r=>cases wr<;>cases c<;>simp[MemAct.ofEvent]
 |_=>simp[gO]at b
theorem cz.own(h:cz P A Z s kk OO J M gsz w t)(hZ:A.b+A.n+1<=Z.lk){i:Nat}(hl:cL P A s i){k':ag}{O':ah}{es:List Event}(C:Eff (kk i) (OO i) w k' O' w' es)(u:Trace)
 (N:∀op∈u,∃e,gO (kk i) (OO i) w.heap.size e/\op.act=.ofEvent e):cz P A Z s (bo kk i k') (bo OO i O') J M gsz w' (t++u):=by
 have D:i≠Z.lk:=by have:=GO hl;omega
 have O:=By h.I hl;have T:A.fb<w.heap.size:=by obtain⟨c,e,d⟩:=h.rR;exact(Array.getElem?_eq_some_iff.1 d).1
 have U:A.gb<w.heap.size:=by obtain⟨c,e,d⟩:=h.vH;exact(Array.getElem?_eq_some_iff.1 d).1
 have hC:A.cF<w.heap.size:=by obtain⟨x,tm,d⟩:=h.vq;exact(Array.getElem?_eq_some_iff.1 d).1
 have V:=C.keep A.cF hC (h.ew i).1;have Q:=C.keep A.gb U (h.ew i).2
 have R:zu A.fb w w'/\∃c e,w'.heap[A.fb]?=some (.cells c e (0,0)):=by
  cases q:OO i A.fb with
  |none=>have:=C.keep A.fb T q;exact⟨.of_heap this,by rw[this];exact h.rR⟩
  | some x=>
    obtain⟨j,f,_,_,_,rfl,W⟩:=h.tok i x q;obtain⟨c,e,d⟩:=h.rR;obtain⟨c',E,h3,X⟩:=C.part A.fb f T q c e d;refine⟨⟨λl=>?_,λl=>?_⟩,c',e,E⟩
    . simp only[World.cell?,d,E];rw[X l (W l)]
    . simp only[World.frozen?,d,E]
 have p:∀c,c<w.heap.size->OO i c=none->O' c=none:=λc F Y=>by
  cases q:O' c with
  |none=>rfl
  | some x=>
    rcases C.own c x q with⟨y,K,_⟩|K
    . rw[Y]at K;cases K
    . omega
 have r:∀l,¬aK (OO i) A.fb l:=λl F=>by
  obtain⟨x,z⟩:=F.own;obtain⟨j,f,_,_,_,rfl,W⟩:=h.tok i x z
  rcases F with⟨o,q⟩|⟨m,q,_⟩|⟨g,q,hg⟩
  . rw[z]at q;cases q
  . rw[z]at q;cases q
  . rw[z]at q;cases q;exact hg (W l)
 have B:∀c l,c<w.heap.size -> ¬aK (OO i) c l->(kk i).cell c l=none->k'.cell c l=none:=λc l F a7 Y=>by
  cases q:k'.cell c l with
  |none=>rfl
  | some v=>
    rcases C.cell c l v q with d|d|d
    . rw[Y]at d;cases d
    . exact absurd d a7
    . omega
 obtain⟨a8,a9,ad,al⟩:=h.dg i
 have S:∀op∈u,∀a,op.act.touch?=some a -> ¬GM A a.loc:=λop k a L=>by obtain⟨e,G,H⟩:=N op k;rw[H]at L;exact vI h G L
 refine⟨h.I,h.size,by rw[V];exact h.vq,h.mu.same R.1,h.gr.same (.of_heap Q),R.2,by rw[Q];exact h.vH,λj=>?_,λj=>?_,λj x z=>?_,λj hj ho=>?_,λho=>?_,λc F=>?_,h.hJ,h.pQ u,h.jy u,
  h.hQ u (λop k a L hs=>absurd hs (S op k a L)),h.kA u (λop k a L hs=>absurd hs (S op k a L)),h.mh u,h.fQ u (λop k a=>by obtain⟨e,G,H⟩:=N op k;rw[H];exact vJ G a),λj hj hb=>?_,h.oO,h.iB,h.dA,h.la,by simp;exact Nat.le_trans h.n0 (Nat.le_add_right _ _)⟩
 . by_cases e:j=i
   . subst e;rw[ak];exact⟨p _ hC (h.ew j).1,p _ U (h.ew j).2⟩
   . rw[ap _ _ e];exact h.ew j
 . by_cases e:j=i
   . subst e;rw[ak]
     exact⟨B _ _ T (r _) a8,B _ _ T (r _) a9,B _ _ U (de (h.ew j).2) ad,B _ _ U (de (h.ew j).2) al⟩
   . rw[ap _ _ e];exact h.dg j
 . by_cases e:j=i
   . subst e;rw[ak]at z
     rcases C.own _ x z with⟨y,K,hb⟩|K
     . obtain⟨l,f,d,E,h3,rfl,X⟩:=h.tok j y K
       cases x with
       |obj o=>exact hb.elim
       |tail m=>exact hb.elim
       |part g=>exact⟨l,g,d,E,h3,rfl,λa=>Classical.byContradiction λq=>hb a q (X a)⟩
     . omega
   . rw[ap _ _ e]at z;exact h.tok j x z
 . have d:=h.ug j hj ho
   by_cases e:A.b+j=i
   . rw[e,ak]
     rw[e]at d;cases q:OO i A.fb with
     |none=>exact absurd q d
     |some x=>obtain⟨_,f,_,_,_,rfl,_⟩:=h.tok i x q;obtain⟨f',E⟩:=C.tok _ f q;rw[E];simp
   . rw[ap _ _ e];exact d
 . rw[ap _ _ (Ne.symm D),ap _ _ (Ne.symm D)];exact h.GN ho
 . rw[ap _ _ (Ne.symm D)]at F;exact h.FK c F
 . have e:j≠i:=λe=>hb (e ▸ O)
   rw[ap _ _ e,ap _ _ e];exact h.zt j hj hb
theorem cz.still(h:cz P A Z s kk OO J M gsz w t)(u:Trace)(d:∀op∈u,op.act.touch?=none/\∀a,op.act≠.mark (.release a)):cz P A Z s kk OO J M gsz w (t++u):=
 ⟨h.I,h.size,h.vq,h.mu,h.gr,h.rR,h.vH,h.ew,h.dg,h.tok,h.ug,h.GN,h.FK,h.hJ,h.pQ u,h.jy u,h.hQ u (λop b a c=>by rw[(d op b).1]at c;cases c),h.kA u (λop b a c=>by rw[(d op b).1]at c;cases c),
   h.mh u,h.fQ u (λop b=>(d op b).2),h.zt,h.oO,h.iB,h.dA,h.la,by simp;exact Nat.le_trans h.n0 (Nat.le_add_right _ _)⟩
theorem aR(B:A.b+A.n+1<=Z.lk):wj (bM P A Fin Z B) where
 own:=λa o _ he u _ _ q=>cz.own a B o he u q
 slip:=λa u _ hu=>cz.still a u hu
 draw:=λ{s kk OO J M n w t} a d=>by have a:cz P A Z s kk OO J M n w t:=a;exact⟨a.I,a.size,a.vq,a.mu.heap rfl,a.gr.same (.of_heap rfl),a.rR,a.vH,a.ew,a.dg,a.tok,a.ug,a.GN,a.FK,a.hJ,a.hM,a.shut,a.quiet,a.said,a.old,a.norel,a.zt,a.oO,a.iB,a.dA,a.la,a.n0⟩
 qI := λ{s kk OO J M n w t j g} a C k O f=>by
  have a:cz P A Z s kk OO J M n w t:=a;obtain⟨x,D,r⟩:=a.vq
  have y:s.c.dp=false:=by
   rcases C with⟨_,hm⟩|⟨l,o,_,hw⟩
   . have:=a.I.ms
     rw[hm]at this;have:=this.2.2.1;cases e:s.c<;>simp_all [iv.dp]
   . cases e:s.c with
     | gone=>
       have:=(a.I.g8 (by rw[e];rfl)).2.2.2 l o;rw[hw]at this;cases this
     |_=>rfl
  rw[y]at r;rcases f with⟨_,m,z,rfl,_⟩|⟨l,_,_,m,z,v,rfl,_⟩
  . exact again_recv_open r
  . exact again_send_open r
 wd:=λ{s kk OO J M n w t} a=>by have a:cz P A Z s kk OO J M n w t:=a;exact⟨⟨_,a.gr.cw⟩,⟨_,a.gr.cs⟩,⟨_,a.mu.cw⟩⟩
 jX:=λ{s i k O g} f=>by
  rcases f with⟨_,f⟩|⟨j,_,_,f⟩|⟨_,f⟩
  . cases e:s.ms with
    |bb j p=>rw[e]at f;obtain⟨c,rest,h,_⟩:=f;exact h.running
    |_=>rw[e]at f;exact f.elim
  . cases e:s.w j with
    |lk p Y=>rw[e]at f;obtain⟨kind,c,rest,_,_,h,_⟩:=f;exact h.running
    |un p Y=>rw[e]at f;obtain⟨kind,c,rest,_,h,_⟩:=f;exact h.running
    |dn p=>rw[e]at f;obtain⟨E,fn,tmps,todo,_,_,h⟩:=f;exact h.running
    |_=>rw[e]at f;exact f.elim
  . cases e:s.c with
    |wt p=>rw[e]at f;obtain⟨c,rest,h,_⟩:=f;exact h.running
    |_=>rw[e]at f;exact f.elim
end
end Go.bG
namespace Go.bG
open Go.Conc
open Go.ConcN (sumTo upd sumTo_upd upd_ne upd_same)
variable{P:Program}
def MS.aD(s:MS P)(j:Nat)(x:aW P)(sh:Mu.Sh):MS P:={s with w:=λi=>if i=j then x else s.w i,sh:=sh}
section
variable{s:MS P}{j n:Nat}{x:aW P}{sh:Mu.Sh}
theorem aC:(s.aD j x sh).w j=x:=by simp[MS.aD]
theorem aX{i:Nat}(h:i≠j):(s.aD j x sh).w i=s.w i:=by simp[MS.aD,h]
theorem x6:(λi=>((s.aD j x sh).w i).pc)=Mu.set (λi=>(s.w i).pc) j x.pc:=by
 funext i;by_cases h:i=j
 . subst h;rw[aC,Mu.an]
 . rw[aX h,Mu.aj _ _ h]
theorem nf(F:aW P->Nat)(a:j<n):sumTo n (λi=>F ((s.aD j x sh).w i))+F (s.w j)=sumTo n (λi=>F (s.w i))+F x:=by
 have e:(λi=>F ((s.aD j x sh).w i))=upd (λi=>F (s.w i)) j (F x):=by
  funext i;by_cases h:i=j
  . subst h;rw[aC,upd_same]
  . rw[aX h,upd_ne _ _ h]
 rw[e];have:=sumTo_upd (λi=>F (s.w i)) (F x) id a;simpa using this
def aW.work:aW P->Bool
 |.run ..=>true|.lk ..=>true|.un ..=>true|_=>false
theorem aS{x:aW P}(h:x.work=true):x.cnt=1/\x.bU=20/\x.fH=false/\x.last=false/\x.gZ=false/\x.busy=true/\x≠.gone/\x≠.wait/\∀p,x≠.dn p:=by cases x<;>simp_all [aW.work,aW.cnt,aW.bU,aW.fH,aW.last,aW.gZ,aW.busy]
theorem bs.work(I:bs n s)(v:j<n)(A:(s.w j).work=true)(B:x.work=true)(C:x.ok=true)(D:Mu.Inv n (Mu.set (λi=>(s.w i).pc) j x.pc) sh):bs n (s.aD j x sh):=by
 obtain⟨M,a2,N,a4,E,O,F,Q,g⟩:=aS A;obtain⟨R,S,G,H,J,T,U,K,k⟩:=aS B;have z:=nf (s:=s) (x:=x) (sh:=sh) aW.cnt v
 have look:∀{i:Nat}{y:aW P},(s.aD j x sh).w i=y->x≠y->i≠j/\s.w i=y:=λ{i y} h m=>by
  by_cases e:i=j
  . subst e;rw[aC]at h;exact absurd h m
  . rw[aX e]at h;exact⟨e,h⟩
 have back:∀{i:Nat}{y:aW P},s.w i=y->(s.w j)≠y->(s.aD j x sh).w i=y:=λ{i y} h m=>by
  by_cases e:i=j
  . subst e;exact absurd h m
  . rw[aX e];exact h
 have b:∀{i:Nat},((s.aD j x sh).w i).last=(s.w i).last:=λ{i}=>by
  by_cases e:i=j
  . subst e;rw[aC,a4,H]
  . rw[aX e]
 refine⟨?_,I.g2,I.pP,λi a h=>?_,λi l a L h d=>?_,λi a h=>?_,⟨I.g5.1,λh=>?_⟩,λh d o=>?_,λh d=>?_,λh=>?_,I.g9,λi a=>?_,I.LO,I.sp,λi a=>?_,?_,λh i a=>?_,by rw[x6];exact D⟩
 . have:=I.g1
   show s.gc=sumTo n (λi=>((s.aD j x sh).w i).cnt)+s.ms.pend;omega
 . exact I.g3 i a (h.imp (λh=>(look h (k _)).2) (λh=>(look h (k _)).2))
 . rw[b]at h d;exact I.pf i l a L h d
 . exact I.g4 i a (look h (k _)).2
 . obtain⟨q,r,t,f⟩:=I.g5.2 h
   exact⟨q,r,t,λi a=>by rw[b];exact f i a⟩
 . obtain⟨i,a,u⟩:=I.g6 h d o
   exact⟨i,a,back u (g _)⟩
 . obtain⟨i,a,u⟩:=I.g7 h d
   exact⟨i,a,u.imp (λh=>back h (g _)) (λh=>back h (g _))⟩
 . obtain⟨_,_,_,f⟩:=I.g8 h
   exact absurd (f j v) F
 . by_cases e:i=j
   . subst e;rw[aC];exact C
   . rw[aX e];exact I.ok i a
 . by_cases e:i=j
   . subst e
     rw[aC,J];have:=I.idle i a;rw[E]at this;exact this
   . rw[aX e];exact I.idle i a
 . have:=I.ms
   show match s.ms with
   |.add l=>s.sp+l=n/\s.c=.none
   |.bb l p=>s.sp+l=n/\s.c=.none/\1<=l/\(p=.a0\/p=.a2\/p=.a4\/p=.ae)
   |.spawn l=>s.sp+l+1=n/\s.c=.none
   |.recv=>s.sp=n/\s.c≠.none
   |.parked=>s.sp=n/\s.c≠.none/\s.c≠.gone/\∀i,i<n->(s.aD j x sh).w i≠.wait
   cases e:s.ms with
   |parked=>rw[e]at this;obtain⟨q,r,t,f⟩:=this;exact⟨q,r,t,λi a h=>f i a (look h K).2⟩
   |_=>rw[e]at this;exact this
 . by_cases e:i=j
   . subst e;rw[aC];exact G
   . rw[aX e];exact I.early h i a
theorem LR(F:aW P->Nat)(a:j<n)(h:F x=F (s.w j)):sumTo n (λi=>F ((s.aD j x sh).w i))=sumTo n (λi=>F (s.w i)):=by have:=nf (s:=s) (x:=x) (sh:=sh) F a;omega
theorem zv(a:j<n)(b:(s.w j).work=true)(d:x.work=true):(s.aD j x sh).bU n=s.bU n:=by
 have:=LR (s:=s) (x:=x) (sh:=sh) aW.bU a (by rw[(aS b).2.1,(aS d).2.1]);show s.ms.bU+sumTo n (λi=>((s.aD j x sh).w i).bU)+s.c.bU s.gc=_;rw[this];rfl
theorem x7(a:j<n)(b:(s.w j).work=true)(c:x.work=true)(h:DT x.nd (s.w j).nd):MS.fh n (s.aD j x sh) s:=.inr ⟨zv a b c,.inl ⟨j,a,λi d=>by show((s.aD j x sh).w i).nd=_;rw[aX d],by simp only[aC];exact h⟩⟩
theorem sQ(a:j<n)(b:(s.w j).work=true)(c:x.work=true)(h:x.nd=(s.w j).nd)(d:4*Mu.meas n (Mu.set (λi=>(s.w i).pc) j x.pc) sh+x.ex n<4*Mu.meas n (λi=>(s.w i).pc) s.sh+(s.w j).ex n):MS.fh n (s.aD j x sh) s:=by
 refine .inr ⟨zv a b c,.inr ⟨?_,?_⟩⟩
 . funext i
   by_cases e:i=j
   . subst e;rw[aC];exact h
   . rw[aX e]
 . have:=nf (s:=s) (x:=x) (sh:=sh) (aW.ex n) a
   show 4*Mu.meas n (λi=>((s.aD j x sh).w i).pc) sh+sumTo n (λi=>((s.aD j x sh).w i).ex n)<4*Mu.meas n (λi=>(s.w i).pc) s.sh+sumTo n (λi=>(s.w i).ex n);rw[x6];omega
theorem C0(I:bs n s)(a:j<n)(b:(s.w j).work=true)(c:x.work=true)(h:x.nd=(s.w j).nd)(d:(x.pc,sh)∈Mu.mv (s.w j).pc s.sh)(e:x.ex n<=3):MS.fh n (s.aD j x sh) s:=by
 have:=(Mu.DF (pcs:=λi=>(s.w i).pc) a (I.mu.j0 j a) d).1;exact sQ a b c h (by omega)
theorem bs.mv(I:bs n s)(a:j<n)(b:(s.w j).work=true)(c:x.work=true)(d:x.ok=true)(e:(x.pc,sh)∈Mu.mv (s.w j).pc s.sh):bs n (s.aD j x sh):=I.work a b c d (I.mu.step a e)
theorem jZ(pcs:Nat->Mu.Pc)(i:Nat):Mu.set pcs i (pcs i)=pcs:=by
 funext l;by_cases e:l=i
 . subst e;exact Mu.an _ _ _
 . exact Mu.aj _ _ e
theorem j7(a:j<n)(b:(s.w j).work=true)(c:x.work=true)(h:x.nd=(s.w j).nd)(d:x.pc=(s.w j).pc)(e:x.ex n<(s.w j).ex n):MS.fh n (s.aD j x s.sh) s:=by
 refine sQ a b c h ?_;rw[d,jZ (λi=>(s.w i).pc)];omega
theorem bs.still(I:bs n s)(a:j<n)(b:(s.w j).work=true)(c:x.work=true)(d:x.ok=true)(e:x.pc=(s.w j).pc):bs n (s.aD j x s.sh):=I.work a b c d (by rw[e,jZ (λi=>(s.w i).pc)];exact I.mu)
theorem eC(F:Mu.Pc->Nat){pcs:Nat->Mu.Pc}{i:Nat}(a:pcs i=.out)(h:F .fF=F .out):(λl=>F (Mu.set pcs i .fF l))=λl=>F (pcs l):=by
 funext l;by_cases e:l=i
 . subst e;rw[Mu.an,a,h]
 . rw[Mu.aj _ _ e]
theorem JM{n:Nat}{pcs:Nat->Mu.Pc}{s:Mu.Sh}{i:Nat}(h:Mu.Inv n pcs s)(a:pcs i=.out):Mu.Inv n (Mu.set pcs i .fF) s:=by
 obtain⟨⟨d,f,g,j,k⟩,m,o⟩:=h;refine⟨⟨λl c=>?_,?_,?_,?_,?_⟩,m,λl c old sv b=>?_⟩
 . by_cases e:l=i
   . subst e;rw[Mu.an];trivial
   . rw[Mu.aj _ _ e];exact d l c
 . rw[eC Mu.bC a rfl];exact f
 . rw[eC Mu.ed a rfl,eC Mu.bQ a rfl,eC Mu.kP a rfl,eC Mu.cj a rfl,eC Mu.bP a rfl];exact g
 . rw[eC Mu.ed a rfl,eC Mu.bQ a rfl,eC Mu.kP a rfl,eC Mu.cj a rfl,eC Mu.bP a rfl];exact j
 . rw[eC Mu.fG a rfl];exact k
 . by_cases e:l=i
   . subst e;rw[Mu.an]at b;cases b
   . rw[Mu.aj _ _ e]at b;exact o l c old sv b
theorem zw{n:Nat}{pcs:Nat->Mu.Pc}{s:Mu.Sh}{i:Nat}(a:i<n)(b:pcs i=.out):Mu.meas n (Mu.set pcs i .fF) s=Mu.meas n pcs s+(6*(18*n+1)+16):=by
 have C:=Mu.eQ Mu.eZ pcs i .fF a;have R:=Mu.eQ (Mu.io s.w) pcs i .fF a;rw[b]at C R;have c:Mu.eZ .out=0:=rfl;have d:Mu.eZ .fF=6:=rfl;have e:Mu.io s.w .out=0:=rfl;have f:Mu.io s.w .fF=16:=rfl;rw[c,d]at C;rw[e,f]at R;have g:Mu.phi n (Mu.set pcs i .fF) s=Mu.phi n pcs s+6:=by unfold Mu.phi;omega
 unfold Mu.meas;rw[g,Nat.add_mul];omega
theorem GP(a:j<n)(b:(s.w j).work=true)(c:x.work=true)(h:x.nd=(s.w j).nd)(d:(s.w j).pc=.out)(e:x.pc=.fF)(f:(s.w j).ex n=x5 n)(g:x.ex n=0):MS.fh n (s.aD j x s.sh) s:=by refine sQ a b c h ?_;rw[e,zw a d,f,g];unfold x5;omega
theorem bs.Ro(I:bs n s)(a:j<n)(b:(s.w j).work=true)(c:x.work=true)(d:x.ok=true)(e:(s.w j).pc=.out)(f:x.pc=.fF):bs n (s.aD j x s.sh):=I.work a b c d (by rw[f];exact JM I.mu e)
end
end Go.bG
namespace Go.bG
open Go.Conc
open Go.ConcN (sumTo upd sumTo_upd upd_ne upd_same)
section
variable{P:Program}{A:om P}{Z:Base}{s s':A.S}{f f':Nat->Node P}{q q':Nat->Nat}{kk kk':Nat->ag}{OO OO':Nat->ah}{J J' M M':Nat->Prop}{gs:Array Goroutine}{w w':World}{t u:Trace}{i:Nat}{g g1:Goroutine}
structure Beside(A:om P)(s s':A.S)(f f':Nat->Node P)(q q':Nat->Nat)(kk kk':Nat->ag)(OO OO':Nat->ah)(J J':Nat->Prop)(w':World)(i:Nat)(g g1:Goroutine):Prop where
 ef:∀j,j≠i->f' j=f j
 eq:∀j,j≠i->q' j=q j
 ek:∀j,j≠i->j<A.top->kk' j=kk j
 eO:∀j,j≠i->j<A.top->OO' j=OO j
 eJ:∀j,j≠i->A.Live s j->J j->J' j
 live:∀j,j≠i->(A.Live s' j↔A.Live s j)
 walk:∀j,j≠i->(A.Walk s' j↔A.Walk s j)
 held:∀j,j≠i->(A.ma s' j↔A.ma s j)
 mo:∀j,j≠i->A.Live s j->A.mo s' j=A.mo s j
 at':∀j k O x,j≠i->A.Walk s j->A.At s j k O x->A.At s' j k O x
 deaf:∀j,j≠i->A.Walk s j->A.deaf s' j=A.deaf s j
 wi:∀j,j≠i->A.Walk s j->A.wi s j->A.wi s' j\/∀x,A.At s j (kk j) (OO j) x->woken P g g1 w' (blk x)=x
 LS:∀j k O x,j≠i->A.ma s j->A.Bk s j k O x->A.Bk s' j k O x
 tie:∀j x,j≠i->A.Live s j->A.Jw s j x->A.Jw s' j x
structure Self(P:Program)(A:om P)(s':A.S)(f':Nat->Node P)(q':Nat->Nat)(kk':Nat->ag)(OO':Nat->ah)(J':Nat->Prop)(t':Trace)(i:Nat)(g1:Goroutine):Prop where
 live:A.Live s' i->i<A.top/\g1=(f' i).g/\(f' i).m=A.mo s' i/\(f' i).k=kk' i/\(f' i).O=OO' i/\(f' i).g.status=.running/\Deaf t' i=0/\(i=0\/J' i)/\A.Jw s' i (f' i)
 walk:A.Walk s' i -> ¬A.Live s' i/\i<A.top/\Deaf t' i=A.deaf s' i/\∃g',A.At s' i (kk' i) (OO' i) g'/\Gl P A.Wd (A.wi s' i) (q' i) g1 g'
 held:A.ma s' i -> ¬A.Live s' i/\¬A.Walk s' i/\i<A.top/\Deaf t' i=0/\g1.status=.blocked/\A.Bk s' i (kk' i) (OO' i) g1
 rest:¬A.Live s' i -> ¬A.Walk s' i -> ¬A.ma s' i->i≠0/\QuitsD P (q' i) (Deaf t' i) g1
theorem bg.step(B:wj A)(C:bg A Z s f q kk OO J M gs w t)(X:gs[i]?=some g)(D:∀op∈u,op.g=i)(Y:bL Z kk' OO' J' M' w' (t++u))(K:A.Ex s' kk' OO' J' M' gs.size w' (t++u))
 (hw:∀j x,A.ma s j->A.Bk s j (kk j) (OO j) x->x.again w'=x) (hb:Beside A s s' f f' q q' kk kk' OO OO' J J' w' i g g1) (G:Self P A s' f' q' kk' OO' J' (t++u) i g1):
 bg A Z s' f' q' kk' OO' J' M' ((gs.map (woken P g g1 w')).setIfInBounds i g1) w' (t++u):=by
 have L:i<gs.size:=(Array.getElem?_eq_some_iff.1 X).1;have H:=C.Jx B (i:=i) (a:=g) (a':=g1) (x:=g1) (w':=w') hw;have c:((gs.map (woken P g g1 w')).setIfInBounds i g1)[i]?=some g1:=Array.getElem?_setIfInBounds_self_of_lt (by simpa using L)
 have E:∀j,j≠i->Deaf (t++u) j=Deaf t j:=λj n=>Deaf_other t (Ne.symm n) _ D
 refine⟨C.lk,Y,λj n=>?_,λj n=>?_,λj n=>?_,λj x N S T U=>?_,λj n=>?_,by simpa using K⟩
 . by_cases e:j=i
   . subst e
     obtain⟨l,o,m⟩:=G.live n;exact⟨l,by rw[c,o],m⟩
   . have b:=(hb.live j e).1 n
     obtain⟨l,o,pm,m,p,r,v,V⟩:=C.live j b;rw[hb.ef j e,hb.ek j e l,hb.eO j e l,E j e,hb.mo j e b];exact⟨l,H.live j e b,pm,m,p,r,v,V.1.imp id (hb.eJ j e b),hb.tie j _ e b V.2⟩
 . by_cases e:j=i
   . subst e
     obtain⟨l,o,m,g',p,r⟩:=G.walk n;exact⟨l,o,m,g1,g',c,p,r⟩
   . have b:=(hb.walk j e).1 n
     obtain⟨l,o,m,x,x',p,r,v⟩:=C.walk j b;refine⟨λh=>l ((hb.live j e).1 h),o,by rw[E j e,hb.deaf j e b];exact m,?_⟩
     rw[hb.ek j e o,hb.eO j e o,hb.eq j e];obtain⟨y,W,z,I,r3⟩:=H.walk j e b
     by_cases hd:∃x,A.wi s j/\y=blk x/\A.At s j (kk j) (OO j) x/\q j=0
     . obtain⟨x0,O,F,d3,d4⟩:=hd
       rcases hb.wi j e b O with h|h
       . exact⟨y,x0,z,hb.at' j _ _ _ e b d3,.inl ⟨h,F,d4⟩⟩
       ·
        have k:((gs.map (woken P g g1 w')).setIfInBounds i g1)[j]?=some (woken P g g1 w' x):=by rw[Array.getElem?_setIfInBounds_ne (Ne.symm e),Array.getElem?_map,p];rfl
        obtain⟨Q,a2⟩:=B.jX r
        rcases v with⟨_,rfl,_⟩|v
        . rw[h _ r]at k
          rw[k]at z;have:=Option.some.inj z;rw[F]at this;have d:x'.status=.blocked:=by rw[this];rfl
          rw[Q]at d;cases d
        . rw[woken_run (v.first Q)]at k
          rw[k]at z;have hh:=Option.some.inj z;have d:x.status=.blocked:=by rw[hh,F];rfl
          rw[v.first Q]at d;cases d
     . rcases r3 with⟨O,rfl,F⟩|r3
       . exact absurd ⟨W,O,rfl,I,F⟩ hd
       . exact⟨y,W,z,hb.at' j _ _ _ e b I,.inr r3⟩
 . by_cases e:j=i
   . subst e
     obtain⟨l,o,m,p,r,v⟩:=G.held n;exact⟨l,o,m,p,g1,c,r,v⟩
   . have b:=(hb.held j e).1 n
     obtain⟨l,o,m,p,_⟩:=C.held j b;obtain⟨x,z,I,r3⟩:=H.held j e b;refine⟨λh=>l ((hb.live j e).1 h),λh=>o ((hb.walk j e).1 h),m,by rw[E j e];exact p,x,z,I,?_⟩
     rw[hb.ek j e m,hb.eO j e m];exact hb.LS j _ _ _ e b r3
 . by_cases e:j=i
   . subst e
     rw[c]at N;obtain rfl:=Option.some.inj N;exact G.rest S T U
   . rw[hb.eq j e,E j e]
     exact H.rest j x e N (λh=>S ((hb.live j e).2 h)) (λh=>T ((hb.walk j e).2 h)) (λh=>U ((hb.held j e).2 h))
 . have R:gs.size<=j:=by simpa using n
   rw[E j (by omega)];exact C.above j R
end
theorem knows_own{t u:Trace}{i m:Nat}{op:MemOp}(h:u[m]?=some op)(a:op.g=i):Knows (t++u) i (t.size+m):=⟨t.size+m,op,cC h,a,.inl rfl⟩
section
variable{Z:Base}{kk:Nat->ag}{OO:Nat->ah}{J M:Nat->Prop}{w w':World}{t u:Trace}{i:Nat}
def x8(kk:Nat->ag)(OO:Nat->ah)(B:Nat)(t:Trace)(i:Nat)(u:Trace):Prop:=∀op∈u,∀a,op.act.touch?=some a->a.kind=.atomic/\(a.loc.isMemory=true->Gb kk OO B a.loc)/\∀n b,touchAt t n=some b->b.loc=a.loc->b.kind=.plain->Knows t i n
theorem bL.Lc(h:bL Z kk OO J M w t)(f:∀op∈u,op.g=i)(y:w'.heap.size=w.heap.size)(z:Calm Z w w')(hb:∀b,Kept kk OO w w' b)(A:∀op∈u,op.act.low w.heap.size)(q:x8 kk OO w.heap.size t i u)
 (o:∀m op a,u[m]?=some op->op.act.touch?=some a->a.loc.isMemory=true->Told Z J M (t++u) (t.size+m) a):bL Z kk OO J M w' (t++u):=
 h.qF (λa b=>a=b) y z hb A (λa b e n x _ _ _ B=>by subst e;exact B.app u) (λj b n v h=>⟨j,rfl,h⟩) (λj b s h=>⟨j,rfl,h⟩) (λj b x h=>⟨j,rfl,h,λ_ h=>h⟩) h.gY
  (fun said=>noRace_append (h.clean said) f λn a k op c b hb C=>by
    obtain⟨d,l,D⟩:=q op c b hb;obtain⟨E,_,_,c4⟩:=C;rcases c4 with c4|c4|⟨_,_,c4⟩
    . exact D n a k E c4
    . rw[d]at c4;cases c4
    . rw[d]at c4;cases c4)
  (λop c a k r=>(q op c a k).2.1 r) o
  (λn a k r h=>h.elim (λ⟨j,d,l⟩=>.inr (.inl ⟨j,d,l.app _⟩)) (λ⟨p,d,l⟩=>.inr (.inr (.inl ⟨p,d,l.app _⟩))))
theorem bL.sync(h:bL Z kk OO J M w t)(hJ:i=0\/J i)(c:∀op∈u,op.g=i)(f:w'.heap.size=w.heap.size)(j:Calm Z w w')(hb:∀b,Kept kk OO w w' b)(k:∀op∈u,op.act.low w.heap.size)(l:x8 kk OO w.heap.size t i u):bL Z kk OO J M w' (t++u):=
 h.Lc c f j hb k l λm op a d n o=>by
  have e:Knows (t++u) i (t.size+m):=knows_own d (c op (Array.mem_of_getElem? d));rcases hJ with rfl|hJ
  . exact .inl e
  . exact .inr (.inl ⟨i,hJ,e⟩)
end
section
variable{P:Program}{A:dk}{Z:Base}{s:MS P}{kk:Nat->ag}{OO:Nat->ah}{J M:Nat->Prop}{gsz:Nat}{w w':World}{t u:Trace}{j:Nat}{x:aW P}{sh:Mu.Sh}
theorem j8(a:j<A.n)(h:x.busy=(s.w j).busy)(i:Nat):dW P A (s.aD j x sh) i↔dW P A s i:=by
 have:∀l,((s.aD j x sh).w l).busy=(s.w l).busy:=λl=>by
  by_cases e:l=j
  . subst e;rw[aC,h]
  . rw[aX e]
 unfold dW;simp only[this];rfl
theorem cz.work(h:cz P A Z s kk OO J M gsz w t)(E:j<A.n)(F:(s.w j).work=true)(G:x.work=true)(H:x.owns=(s.w j).owns)(I:bs A.n (s.aD j x sh))(r:ShM A.fb A.fo w' sh)
 (d:∀b,b≠A.fb->w'.heap[b]?=w.heap[b]?) (v:∃c e,w'.heap[A.fb]?=some (.cells c e (0,0))) (z:∀op∈u,(∀a,op.act.touch?=some a->a.kind=.atomic)/\∀a,op.act≠.mark (.release a)):
 cz P A Z (s.aD j x sh) kk OO J M gsz w' (t++u):=by
 have g:∀l,((s.aD j x sh).w l).owns=(s.w l).owns:=λl=>by
  by_cases e:l=j
  . subst e;rw[aC,H]
  . rw[aX e]
 have m:x.busy=(s.w j).busy:=by rw[(aS F).2.2.2.2.2.1,(aS G).2.2.2.2.2.1]
 refine⟨I,h.size,by rw[d _ A.d1];exact h.vq,r,h.gr.same (.of_heap (d _ (Ne.symm A.d4))),v,by rw[d _ (Ne.symm A.d4)];exact h.vH,h.ew,h.dg,λi y K=>?_,λl p o=>h.ug l p (by rw[<-g l];exact o),λo=>h.GN λl p=>by rw[<-g l];exact o l p,λc L=>?_,
  λi=>by rw[h.hJ i];exact(j8 E m i).symm,h.pQ u,h.jy u,h.hQ u (λop k a B _ q=>?_),h.kA u (λop k a B _ q=>?_),h.mh u,h.fQ u (λop k=>(z op k).2),h.zt,h.oO,h.iB,h.dA,h.la,by simp;exact Nat.le_trans h.n0 (Nat.le_add_right _ _)⟩
 . obtain⟨l,f,C,D,N,O⟩:=h.tok i y K
   exact⟨l,f,C,D,by rw[g];exact N,O⟩
 . obtain⟨C,D⟩:=h.FK c L
   exact⟨C,λl p=>by rw[g];exact D l p⟩
 . rw[(z op k).1 a B]at q;cases q
 . rw[(z op k).1 a B]at q;cases q
end
section
variable{P:Program}
theorem x9 {y:Sy} {s:iq} {fr:Frame} {f:FuncId} {l:List SV} {e:Array Value->Sem Value} {cs:List Frame} (b:FR y s fr) (h:aM s=some (f,l)) (c:Ext P f e):mayWake P (G fr cs)=true:=by
 obtain⟨ops,i,rest,kk,o,as,d,g,q,j,r,a,t⟩:=cx b h;obtain⟨fn,k,u,m,v,w⟩:=c.ex;have n:fr.mode = .run:=by rw[a];rfl
 have p:fr.todo = .inRegion ops (i :: rest) :: kk:=by rw[a];rfl
 unfold mayWake;simp only[G,n,p,g,Option.map_some,j,Frame.eval,k,Option.any_some];simpa using m
theorem DV{n:wp}{b o:Nat}{kind:CallKind}{cs:List Frame}{g:Goroutine}(C:gu P n)(X:gx P n)(h:lV P n b o kind .give cs g):mayWake P g=true:=by
 obtain⟨c,y,fr,d,e,i,a,f,rfl⟩:=h;rcases e with rfl|rfl
 . exact x9 a (C.PL b o kind) X.mf
 . exact x9 a (C.PM b o kind) X.mf
theorem kB{b o:Nat}{w w':World}(h:MW b o w w')(a:∃c e,w.heap[b]?=some (.cells c e (0,0))):
 w'.heap.size=w.heap.size/\(∀r,r≠b->w'.heap[r]?=w.heap[r]?)/\∃c e c',w.heap[b]?=some (.cells c e (0,0))/\w'.heap[b]?=some (.cells c' e (0,0))/\c'.size=c.size/\∀n,n≠o->n≠o+1->c'[n]?=c[n]?:=by
 obtain⟨c,e,a⟩:=a;rcases h.2 with h|⟨i,v,d,g,h⟩
 . exact⟨by rw[h],λr _=>by rw[h],c,e,c,a,by rw[h];exact a,rfl,λ_ _ _=>rfl⟩
 . refine⟨by rw[h];simp[World.setCell],λr f=>?_,c,e,c.setIfInBounds i v,a,?_,by simp,λn j k=>?_⟩
   . rw[h];simp only[World.setCell,Array.getElem?_modify,if_neg (Ne.symm f)]
   . rw[h];simp[World.setCell,Array.getElem?_modify,a]
   . exact Array.getElem?_setIfInBounds_ne (by rcases d with rfl|rfl<;>omega)
end
section
variable{P:Program}{A:dk}{Z:Base}{s:MS P}{kk:Nat->ag}{OO:Nat->ah}{J M:Nat->Prop}{gsz:Nat}{w w':World}{t:Trace}{j:Nat}{x:aW P}{sh:Mu.Sh}
theorem cz.calm(h:cz P A Z s kk OO J M gsz w t)(a:MW A.fb A.fo w w'):Calm Z w w':=by obtain⟨d,c,_⟩:=kB a h.rR;have:=h.dA.2.1;exact⟨a.1,λb hb=>c b (by omega)⟩
theorem cz.kept(h:cz P A Z s kk OO J M gsz w t)(f:MW A.fb A.fo w w'):∀b,Kept kk OO w w' b:=λb=>by
 obtain⟨v,j,c,e,k,l,m,o,p⟩:=kB f h.rR;by_cases hb:b=A.fb
 . subst hb
   refine .inr (.inr ⟨c,k,e,l,m,o,λi x q=>by obtain⟨_,g,_,_,_,rfl,r⟩:=h.tok i x q;exact⟨g,rfl,λn u=>absurd (r n) u⟩,λn=>?_⟩);by_cases a:n=A.fo
   . subst a;exact .inr λi=>(h.dg i).1
   . by_cases d:n=A.fo+1
     . subst d;exact .inr λi=>(h.dg i).2.1
     . exact .inl (p n a d)
 . exact .inl (j b hb)
theorem cz.Oc(h:cz P A Z s kk OO J M gsz w t){n:Nat}(d:n=A.fo\/n=A.fo+1):Gb kk OO w.heap.size (.cell ⟨A.fb,n,none⟩):=by
 have k:A.fb<w.heap.size:=by obtain⟨c,e,l⟩:=h.rR;exact(Array.getElem?_eq_some_iff.1 l).1
 refine⟨k,λi=>⟨λb=>?_,?_⟩⟩
 . obtain⟨x,a⟩:=b.own
   obtain⟨j,f,_,_,_,rfl,p⟩:=h.tok i x a
   rcases b with⟨o,q⟩|⟨m,q,_⟩|⟨g,q,r⟩
   . rw[a]at q;cases q
   . rw[a]at q;cases q
   . rw[a]at q;cases q;exact r (p _)
 . rcases d with rfl|rfl
   . exact(h.dg i).1
   . exact(h.dg i).2.1
theorem lD{b o:Nat}{e:Event}(f:(e.loc=.mark .disable\/e.loc=.mark .enable)\/∃i,(i=o\/i=o+1)/\e.loc=.cell ⟨b,i,none⟩/\e.sync=true):
 (∀a,(MemAct.ofEvent e).touch?=some a->a.kind=.atomic/\∃i,(i=o\/i=o+1)/\a.loc=.cell ⟨b,i,none⟩)/\(∀a,MemAct.ofEvent e≠.mark (.release a))/\∀B,b<B->(MemAct.ofEvent e).low B:=by
 obtain⟨loc,wr,k⟩:=e;rcases f with(h|h)|⟨i,g,h,c⟩
 . simp only at h;subst h
   simp[MemAct.ofEvent,MemAct.touch?,MemAct.low]
 . simp only at h;subst h
   simp[MemAct.ofEvent,MemAct.touch?,MemAct.low]
 . simp only at h c;subst h;subst c
   refine⟨λa d=>?_,by simp[MemAct.ofEvent],λB j=>by simpa[MemAct.ofEvent,MemAct.low,Loc.low]using j⟩;simp only[MemAct.ofEvent,MemAct.touch?,Option.some.injEq]at d;subst d;exact⟨rfl,i,g,rfl⟩
theorem cz.GQ(h:cz P A Z s kk OO J M gsz w t){es:Array Event}(p:EvM A.fb A.fo es){i:Nat}(q:bt P A s i)(fn:FuncId)(pos:String):
 x8 kk OO w.heap.size t i (MemOp.ofEvents i fn pos es)/\(∀op∈MemOp.ofEvents i fn pos es,op.act.low w.heap.size)/\∀op∈MemOp.ofEvents i fn pos es,(∀a,op.act.touch?=some a->a.kind=.atomic)/\∀a,op.act≠.mark (.release a):=by
 have r:A.fb<w.heap.size:=by obtain⟨c,e,f⟩:=h.rR;exact(Array.getElem?_eq_some_iff.1 f).1
 refine⟨λop d a g=>?_,λop d=>?_,λop d=>?_⟩<;>obtain⟨e,j,rfl⟩:=Go.Conc.mem_ofEvents d<;>obtain⟨k,u,v⟩:=lD (p e j)
 . obtain⟨f,n,l,o⟩:=k a g
   refine⟨f,λ_=>by rw[o];exact h.Oc l,λm b hb x y=>h.quiet m b hb ?_ y i q⟩
   rw[x,o];exact⟨rfl,.inl ⟨rfl,l⟩⟩
 . exact v _ r
 . exact⟨λa g=>(k a g).1,u⟩
end
section
variable{P:Program}{A:dk}{Fin:ag->ah->Goroutine->Prop}{Z:Base}{s:MS P}{f f':Nat->Node P}{q q':Nat->Nat}{kk kk':Nat->ag}{OO OO':Nat->ah}{J J' M:Nat->Prop}{gs:Array Goroutine}{w w':World}{t:Trace}{j:Nat}{x:aW P}{sh:Mu.Sh}{g g1:Goroutine}
theorem zx{n:Nat}(h:x.fH=(s.w j).fH):MS.rem P n (s.aD j x sh)=MS.rem P n s:=by
 unfold MS.rem;congr 1;funext l;by_cases e:l=j
 . subst e;rw[aC,h]
 . rw[aX e]
theorem iY(D:A.b+A.n+1<=Z.lk)(V:j<A.n)(o:(s.w j).work=true)(d:x.work=true)(E:∀i,i≠A.b+j->f' i=f i)(F:∀i,i≠A.b+j->q' i=q i)(G:∀i,i≠A.b+j->i<A.b+A.n+1->kk' i=kk i)(H:∀i,i≠A.b+j->i<A.b+A.n+1->OO' i=OO i)(I:∀i,J i->J' i)
 (m:(s.sh.ms=0->sh.ms=0)\/(mayWake P g=true/\g1.status=.running)) (K:∀{i k O y},Ob P A Fin s i k O y->y.status=.running/\y.offers=none):
 Beside (bM P A Fin Z D) s (s.aD j x sh) f f' q q' kk kk' OO OO' J J' w' (A.b+j) g g1:=by
 have hb:=A.hb;have wl:∀{i l:Nat},i≠A.b+j->i=A.b+l->(s.aD j x sh).w l=s.w l:=λ{i l} h e=>aX (by omega)
 have u:MS.rem P A.n (s.aD j x sh)=MS.rem P A.n s:=zx (by rw[(aS d).2.2.1,(aS o).2.2.1])
 have live:∀i,i≠A.b+j->(cL P A (s.aD j x sh) i↔cL P A s i):=λi c=>by
  constructor<;>rintro(h|⟨l,o,d,a⟩|h)
  . exact .inl h
  . exact .inr (.inl ⟨l,o,d,by rw[<-wl c d];exact a⟩)
  . exact .inr (.inr h)
  . exact .inl h
  . exact .inr (.inl ⟨l,o,d,by rw[wl c d];exact a⟩)
  . exact .inr (.inr h)
 have walk:∀i,i≠A.b+j->(dV P A (s.aD j x sh) i↔dV P A s i):=λi c=>by
  constructor<;>rintro(h|⟨l,o,d,a⟩|h)
  . exact .inl h
  . exact .inr (.inl ⟨l,o,d,by rw[<-wl c d];exact a⟩)
  . exact .inr (.inr h)
  . exact .inl h
  . exact .inr (.inl ⟨l,o,d,by rw[wl c d];exact a⟩)
  . exact .inr (.inr h)
 have held:∀i,i≠A.b+j->(dz P A (s.aD j x sh) i↔dz P A s i):=λi c=>by
  constructor<;>rintro(h|⟨l,o,d,a⟩)
  . exact .inl h
  . exact .inr ⟨l,o,d,by rw[<-wl c d];exact a⟩
  . exact .inl h
  . exact .inr ⟨l,o,d,by rw[wl c d];exact a⟩
 refine⟨E,F,G,H,λi _ _ h=>I i h,live,walk,held,λi c L=>?_,λi k O y c _ v=>?_,λi c C=>?_,λi c C hd=>?_,λi k O y c _ v=>?_,λi y c _ M=>?_⟩
 . show bm P A Fin (s.aD j x sh) i=bm P A Fin s i
   unfold bm;rw[u]
   rcases L with⟨rfl,_⟩|⟨l,a,rfl,_⟩|⟨rfl,_⟩
   . rfl
   . have e:A.b+l-A.b=l:=by omega
     rw[e,aX (by omega)]
     rfl
   . rw[if_neg (by omega),if_neg (by omega),if_neg (by omega),if_neg (by omega)]
     rfl
 . rcases v with h|⟨l,a,p,r⟩|h
   . exact .inl h
   . exact .inr (.inl ⟨l,a,p,by rw[wl c p];exact r⟩)
   . exact .inr (.inr h)
 . show cd P A (s.aD j x sh) i=cd P A s i
   unfold cd
   rcases C with⟨rfl,_⟩|⟨l,a,rfl,_⟩|⟨rfl,_⟩
   . rfl
   . have e:A.b+l-A.b=l:=by omega
     rw[e,aX (by omega)]
     rfl
   . rw[if_neg (by omega),if_neg (by omega),if_neg (by omega),if_neg (by omega)]
     rfl
 . rcases m with m|⟨N,u⟩
   . refine .inl ?_
     rcases hd with⟨l,sv,Y,a,p,r,B⟩|h
     . exact .inl ⟨l,sv,Y,a,p,by rw[wl c p];exact r,m B⟩
     . exact .inr h
   . refine .inr λy Q=>?_
     obtain⟨R,S⟩:=K Q;have T:(mayWake P g && g1.status !=.blocked && g1.status !=.waiting)=true:=by rw[N,u];rfl
     unfold Go.Conc.woken;rw[if_pos T,nL R S]
 . rcases v with⟨U,t,z,a,p,r,B⟩|h
   . exact .inl ⟨U,t,z,a,p,r,by rw[u];exact B⟩
   . exact .inr h
 . exact λl b X a p r=>M l b X a p (by rw[<-r];exact(wl c p).symm)
end
def aW.iw{P:Program}:aW P->Bool
 |.lk ..=>true|.un ..=>true|_=>false
theorem fj{P:Program}{x:aW P}(h:x.iw=true):x.work=true:=by cases x<;>simp_all [aW.iw,aW.work]
section
variable{P:Program}{A:dk}{Fin:ag->ah->Goroutine->Prop}{Z:Base}{s:MS P}{f:Nat->Node P}{q:Nat->Nat}{kk:Nat->ag}{OO:Nat->ah}{J M:Nat->Prop}{gs:Array Goroutine}{w w':World}{t:Trace}{j:Nat}{x:aW P}{sh:Mu.Sh}{g g1:Goroutine}
theorem sR(a:j<A.n)(h:(s.w j).busy=true):dW P A s (A.b+j):=.inl ⟨j,a,rfl,h⟩
theorem fR(I:bs A.n s)(a:j<A.n)(h:(s.w j).gZ=false):bt P A s (A.b+j):=by refine .inr (.inl ⟨j,?_,rfl⟩);have:=I.idle j a;rw[h]at this;exact Nat.lt_of_not_le λc=>by simpa using this.2 c
theorem gg(a:j<A.n)(h:(s.w j).iw=true):dV P A s (A.b+j):=.inr (.inl ⟨j,a,rfl,by cases e:s.w j<;>simp_all [aW.iw]⟩)
theorem gy(a:j<A.n)(h:(s.w j).iw=true):¬cL P A s (A.b+j):=by
 have:=A.hb;rintro(⟨e,_⟩|⟨l,c,d,f⟩|⟨e,_⟩)
 . omega
 . obtain rfl:l=j:=by omega
   cases e:s.w l<;>simp_all [aW.iw]
 . omega
theorem ni(c:j<A.n)(h:(s.w j).iw=true):¬dz P A s (A.b+j):=by
 have:=A.hb;rintro(⟨e,_⟩|⟨l,d,f,a⟩)
 . omega
 . obtain rfl:l=j:=by omega
   rw[a]at h;cases h
theorem dB(a:j<A.n):cd P A s (A.b+j)=(s.w j).deaf:=by
 have:=A.hb;unfold cd;rw[if_neg (by omega),if_pos (by omega)];have e:A.b+j-A.b=j:=by omega
 rw[e]
theorem ui(u:A.b+A.n+1<=Z.lk)(v:bg (bM P A Fin Z u) Z s f q kk OO J M gs w t)(a:j<A.n)(h1:(s.w j).iw=true)(h2:x.iw=true)(ho:x.owns=(s.w j).owns)(hI:bs A.n (s.aD j x sh))(hL:MS.fh A.n (s.aD j x sh) s)
 (hg:gs[A.b+j]?=some g){es:Array Event}(Q:stepG P false g w=.go g1 w' es) (o:MW A.fb A.fo w w') (R:ShM A.fb A.fo w' sh) (S:EvM A.fb A.fo es) (hd:deafBehind (s.w j).deaf es=x.deaf)
 (hs:∃n g',iV P (jJ A) n g1 g'/\DU P A j x (kk (A.b+j)) (OO (A.b+j)) g') (z:(s.sh.ms=0->sh.ms=0)\/(mayWake P g=true/\g1.status=.running)) (sl:Option (Nat × Nat)):
 ∃ops m',runT P (crowd gs w sl) (A.b+j)=(.next m',ops)/\∃s' f' q' kk' OO' J' M' gs' C T,m'=crowd gs' C T/\MS.fh A.n s' s/\bg (bM P A Fin Z u) Z s' f' q' kk' OO' J' M' gs' C (t++ops):=by
 obtain⟨n,g',D,U⟩:=hs;have hb:=A.hb;have B:=aR (P:=P) (A:=A) (Fin:=Fin) (Z:=Z) u;have N:=fj h1;have w2:=fj h2;have p:cz P A Z s kk OO J M gs.size w t:=v.ex;have V:(A.b+j==0)=false:=by simp;omega
 have E:=runT_crowd_go (P:=P) (sl:=sl) (i:=A.b+j) hg (by rw[V];exact Q)
 have F:bt P A s (A.b+j):=fR p.I a (aS N).2.2.2.2.1;obtain⟨y1,y2,y3⟩:=p.GQ S F g.frame.fn g.frame.place;have m:∀op∈MemOp.ofEvents (A.b+j) g.frame.fn g.frame.place es,op.g=A.b+j:=λop W=>by obtain⟨e,_,rfl⟩:=Go.Conc.mem_ofEvents W;rfl
 obtain⟨m1,m2,c,e,c',m3,m4,_⟩:=kB o p.rR;have hP:=v.bN.sync (i:=A.b+j) (.inr ((p.hJ _).2 (sR a (aS N).2.2.2.2.2.1))) m m1 (p.calm o) (p.kept o) y2 y1;have G:cz P A Z (s.aD j x sh) kk OO J M gs.size w' (t++MemOp.ofEvents (A.b+j) g.frame.fn g.frame.place es):=p.work a N w2 ho hI R m2 ⟨c',e,m4⟩ y3
 have r:Beside (bM P A Fin Z u) s (s.aD j x sh) f f q (upd q (A.b+j) n) kk kk OO OO J J w' (A.b+j) g g1:=iY u a N w2 (λ_ _=>rfl) (λi hi=>upd_ne q n hi) (λ_ _ _=>rfl) (λ_ _ _=>rfl) (λ_ h=>h) z (λ{i k O y} X=>B.jX (s:=s) (i:=i) (k:=k) (O:=O) (g:=y) X)
 have H:=gg (P:=P) (A:=A) (s:=s) a h1;have d:((s.aD j x sh).w j).iw=true:=by rw[aC];exact h2
 refine⟨_,_,E,s.aD j x sh,f,upd q (A.b+j) n,kk,OO,J,M,_,_,_,rfl,hL,?_⟩;refine bg.step B v hg m hP G (λl y K X=>?_) r ⟨λK=>absurd K (gy a d),λ_=>⟨gy a d,?_,?_,g',?_,?_⟩,λhh=>absurd hh (ni a d),λ_ hn _=>absurd (gg a d) hn⟩
 . have L:l≠A.b+j:=λe=>(v.held l K).2.1 (by rw[e];exact H)
   exact B.qI G ((r.held l L).2 K) _ _ (r.LS l _ _ _ L K X)
 . show A.b+j<A.b+A.n+1;omega
 . obtain⟨_,_,Y,_⟩:=v.walk _ H
   rw[Deaf_own,Y];show deafBehind (cd P A s (A.b+j)) es=cd P A (s.aD j x sh) (A.b+j);rw[dB a,dB a,aC];exact hd
 . exact .inr (.inl ⟨j,a,rfl,by rw[aC];exact U⟩)
 . exact .inr (by rw[upd_same];exact D)
end
end Go.bG
namespace Go.bG
open Go.Conc
open Go.ConcN (sumTo upd sumTo_upd upd_ne upd_same)
namespace Mu
section
variable{n:Nat}{pcs:Nat->Pc}{s:Sh}{i:Nat}
theorem JN{f:Pc->Nat}(h:∀p,f p<=1)(pcs:Nat->Pc)(n:Nat):tot n (λi=>f (pcs i))<=n:=by
 have:=Bj (f:=λi=>f (pcs i)) (c:=1) (λi=>h _) n;omega
theorem Inv.P7(h:Inv n pcs s):s.w.N<=n+1/\s.ms<=1:=by
 have b:=JN (f:=bP) (λp=>by cases p<;>simp[bP]) pcs n
 cases e:s.w.S with
 | false=>
   obtain⟨c,_,a⟩:=h.j2 e;have:s.w.K.toNat<=1:=by cases s.w.K<;>simp
   omega
 | true=>
   obtain⟨_,_,a,d⟩:=h.j3 e;have:(!s.w.L).toNat<=1:=by cases s.w.L<;>simp
   omega
theorem Inv.JO(h:Inv n pcs s)(a:i<n)(b:pcs i=.held):s.w.L=true:=by
 have:bC (pcs i)<=tot n (λj=>bC (pcs j)):=gf (λj=>bC (pcs j)) a;rw[h.j1,b,show bC .held=1 from rfl]at this;cases e:s.w.L<;>simp_all
theorem Inv.LT(h:Inv n pcs s)(b:i<n){old:Wd}{sv:Bool}(c:pcs i=.add old sv):s.w.L=false/\s.w.S=true/\s.w.N≠0:=by
 have:cj (pcs i)<=tot n (λj=>cj (pcs j)):=gf (λj=>cj (pcs j)) b;rw[c,show cj (.add old sv)=1 from rfl]at this;cases e:s.w.S with
 |false=>obtain⟨_,f,_⟩:=h.j2 e;omega
 | true=>
   obtain⟨_,_,a,g⟩:=h.j3 e;refine⟨?_,rfl,by omega⟩;cases d:s.w.L with
   |false=>rfl
   |true=>rw[d]at a;simp at a;omega
end
def ya:Pc->Bool
 |.rd _=>true|.sq ..=>true|.sw ..=>true|.jh ..=>true|.eY _=>true|.tq=>true|.up _=>true|.add ..=>true|.held=>true|_=>false
def Bz:Pc->Bool
 |.out=>true|.gJ _=>true|.sB=>true|.give=>true|_=>false
theorem Lf(old:Wd)(l:Lo):ya (nx old l)=true:=by unfold nx;split<;>rfl
theorem Od{old:Wd}{l:Lo}{p:Pc}(h:p∈hd old l):ya p=true:=by
 unfold hd at h;rw[List.mem_append]at h;rcases h with h|h
 . split at h
   . rw[List.mem_singleton]at h;subst h;split<;>rfl
   . cases h
 . rw[List.mem_singleton]at h;subst h;rfl
theorem Oe{p q:Pc}{s s':Sh}(b:p=.fF\/(ya p=true/\p≠.held))(h:(q,s')∈mv p s)(d:q≠.bad):ya q=true:=by
 rcases b with rfl|⟨b,c⟩
 . simp only[mv]at h
   split at h<;>(rw[List.mem_singleton,Prod.mk.injEq]at h;obtain⟨rfl,rfl⟩:=h;rfl)
 cases p<;>simp only[ya,Bool.false_eq_true]at b
 case rd l=>simp only[mv,List.mem_singleton,Prod.mk.injEq]at h;obtain⟨rfl,rfl⟩:=h;exact Lf _ _
 case sq old l=>simp only[mv,List.mem_map,Prod.mk.injEq]at h;obtain⟨a,e,rfl,rfl⟩:=h;exact Od e
 case sw old l=>simp only[mv]at h;split at h<;>(rw[List.mem_singleton,Prod.mk.injEq]at h;obtain⟨rfl,rfl⟩:=h;rfl)
 case jh old l=>
  simp only[mv]at h;split at h
  . rw[List.mem_singleton,Prod.mk.injEq]at h;exact absurd h.1 d
  split at h
  . rw[List.mem_singleton,Prod.mk.injEq]at h;obtain⟨rfl,rfl⟩:=h;split<;>rfl
  . rw[List.mem_singleton,Prod.mk.injEq]at h;obtain⟨rfl,rfl⟩:=h;rfl
 case eY sv=>
  simp only[mv]at h;split at h
  . cases h
  . rw[List.mem_singleton,Prod.mk.injEq]at h;obtain⟨rfl,rfl⟩:=h;split<;>rfl
 case tq=>
  simp only[mv,List.mem_cons,Prod.mk.injEq,List.not_mem_nil,or_false]at h;rcases h with⟨rfl,rfl⟩|⟨rfl,rfl⟩<;>rfl
 case up sv=>
  simp only[mv]at h;split at h
  . split at h
    . rw[List.mem_singleton,Prod.mk.injEq]at h;exact absurd h.1 d
    . rw[List.mem_singleton,Prod.mk.injEq]at h;obtain⟨rfl,rfl⟩:=h;rfl
  . rw[List.mem_singleton,Prod.mk.injEq]at h;obtain⟨rfl,rfl⟩:=h;exact Lf _ _
 case add old sv=>simp only[mv,List.mem_singleton,Prod.mk.injEq]at h;obtain⟨rfl,rfl⟩:=h;rfl
 case held=>exact absurd rfl c
theorem Of{p q:Pc}{s s':Sh}(a:p=.held\/(Bz p=true/\p≠.out))(h:(q,s')∈mv p s)(c:q≠.bad):Bz q=true:=by
 rcases a with rfl|⟨a,b⟩
 . simp only[mv]at h
   split at h
   . rw[List.mem_singleton,Prod.mk.injEq]at h;exact absurd h.1 c
   . rw[List.mem_singleton,Prod.mk.injEq]at h
     obtain⟨rfl,rfl⟩:=h;split
     . rfl
     split
     . rfl
     split<;>rfl
 cases p<;>simp only[Bz,Bool.false_eq_true]at a
 case out=>exact absurd rfl b
 case gJ old=>simp only[mv]at h;split at h<;>(rw[List.mem_singleton,Prod.mk.injEq]at h;obtain⟨rfl,rfl⟩:=h;rfl)
 case sB=>simp only[mv,List.mem_singleton,Prod.mk.injEq]at h;obtain⟨rfl,rfl⟩:=h;split<;>rfl
 case give=>simp only[mv,List.mem_singleton,Prod.mk.injEq]at h;obtain⟨rfl,rfl⟩:=h;rfl
theorem Lg{p q:Pc}{s s':Sh}(c:p≠.give)(h:(q,s')∈mv p s)(b:s.ms=0):s'.ms=0:=by
 cases p<;>simp only[mv]at h
 case out=>cases h
 case bad=>cases h
 case give=>exact absurd rfl c
 case sq=>simp only[List.mem_map,Prod.mk.injEq]at h;obtain⟨a,d,rfl,rfl⟩:=h;exact b
 case tq=>simp only[List.mem_cons,Prod.mk.injEq,List.not_mem_nil,or_false]at h;rcases h with⟨_,rfl⟩|⟨_,rfl⟩<;>exact b
 all_goals repeat' split at h
 all_goals first
  |(cases h;done)
  |(rw[List.mem_singleton,Prod.mk.injEq]at h;obtain⟨_,rfl⟩:=h;first|exact b|(show s.ms-1=0;omega))
end Mu
def qS:pI->Bool
 |.fF=>true|.rd _=>true|.sq ..=>true|.sw ..=>true|.jh ..=>true|.eY _=>true|.tq=>true|.up _=>true|.add ..=>true|.held=>true|.gJ _=>true|.sB=>true|.give=>true
 |_=>false
theorem GR{q:Mu.Pc}{p:pI}(h:To q p):p.abs=q:=by cases h<;>rfl
theorem Og{q:Mu.Pc}{p:pI}(h:To q p)(a:Mu.ya q=true):zr p=true/\p≠.ld/\p≠.la:=by cases h<;>simp_all [Mu.ya,zr]
theorem Oh{q:Mu.Pc}{p:pI}(h:To q p)(a:Mu.Bz q=true):vG p=true/\p≠.CK/\p≠.ur/\p≠.ud:=by cases h<;>simp_all [Mu.Bz,vG]
theorem GS{q:Mu.Pc}{p:pI}(h:To q p):q≠.bad:=by cases h<;>simp
section
variable{P:Program}{nm:wp}(C:gu P nm)(X:gx P nm){n:Nat}{pcs:Nat->Mu.Pc}{s:Mu.Sh}{i:Nat}{p:pI}{b o:Nat}{kind:CallKind}{Wd:World->Prop}{cs:List Frame}{g:Goroutine}{w:World}{main:Bool}
include C X in
theorem zy(I:Mu.Inv n pcs s)(d:i<n)(x:n<=900)(c:pcs i=p.abs)(j:qS p=true)(a:ShM b o w s)(h:lV P nm b o kind p cs g):
 jY P nm b o kind Wd cs g w main p.abs s\/((∃sv,p=.eY sv)/\s.ms=0/\stepG P main g w=.go {g with status:=.blocked} w #[]):=by
 obtain⟨y,m⟩:=I.P7;have hb:s.w.N<=1000:=by omega
 have k:∀{q s'},(q,s')∈Mu.mv (pcs i) s->Mu.loc q:=λ{q s'} j=>by
  have:=(I.step d j).j0 i d
  rwa [Mu.an]at this
 have f:Mu.loc (pcs i):=I.j0 i d;rw[c]at k f;cases p<;>simp only[qS,Bool.false_eq_true]at j
 case fF=>exact .inl (DL C X a h)
 case rd l=>exact .inl (JD C X a hb (k (q:=Mu.nx s.w l) (s':=s) (by simp[pI.abs,Mu.mv])) h)
 case sq old l=>exact .inl (JE C X a f h)
 case sw old l=>exact .inl (JF C X a f h)
 case jh old l=>exact .inl (GC C X a f h)
 case eY sv=>
  by_cases e:s.ms=0
  . exact .inr ⟨⟨sv,rfl⟩,e,zq C X a e h⟩
  . exact .inl (DM C X a e h)
 case tq=>exact .inl (JG C X a h)
 case up sv=>exact .inl (JH C X a hb (λq s' r=>k r) h)
 case add old sv=>obtain⟨t,u,v⟩:=I.LT d c;exact .inl (GD C X a hb t u v h)
 case held=>exact .inl (DN C X a hb (I.JO d c) h)
 case gJ old=>exact .inl (DO C X a h)
 case sB=>exact .inl (GE C X a hb h)
 case give=>exact .inl (DP C X a (by omega) h)
end
end Go.bG
namespace Go.bG
open Go.Conc
open Go.ConcN (sumTo upd sumTo_upd upd_ne upd_same)
section
variable{P:Program}{A:dk}{Fin:ag->ah->Goroutine->Prop}{Z:Base}{s:MS P}{f:Nat->Node P}{q:Nat->Nat}{kk:Nat->ag}{OO:Nat->ah}{J M:Nat->Prop}{gs:Array Goroutine}{w:World}{t:Trace}{j:Nat}{g:Goroutine}
def Goes(P:Program)(A:dk)(Fin:ag->ah->Goroutine->Prop)(Z:Base)(f:A.b+A.n+1<=Z.lk)(s:MS P)(gs:Array Goroutine)(w:World)(t:Trace)(sl:Option (Nat × Nat))(i:Nat):Prop:=∃ops e,runT P (crowd gs w sl) i=(.next e,ops)/\∃s' f' q' kk' OO' J' M' a c d,e=crowd a c d/\MS.fh A.n s' s/\bg (bM P A Fin Z f) Z s' f' q' kk' OO' J' M' a c (t++ops)
def BA(P:Program)(A:dk)(s:MS P)(gs:Array Goroutine)(w:World)(sl:Option (Nat × Nat))(i:Nat)(g:Goroutine):Prop:=LP P A s i/\runT P (crowd gs w sl) i=(.next (crowd (gs.setIfInBounds i (blk g)) w sl),#[])
theorem zz(e:gs[A.b+j]?=some g)(a:stepG P false g w=.go {g with status:=.blocked} w #[])(sl:Option (Nat × Nat)):runT P (crowd gs w sl) (A.b+j)=(.next (crowd (gs.setIfInBounds (A.b+j) (blk g)) w sl),#[]):=by
 have hb:=A.hb;have c:(A.b+j==0)=false:=by simp;omega
 have h:=runT_crowd_go (P:=P) (sl:=sl) (i:=A.b+j) e (by rw[c];exact a)
 have d:woken P g {g with status:=.blocked} w=id:=funext λo=>by unfold Go.Conc.woken;simp
 rw[d,Array.map_id]at h;exact h
variable(C:gu P A.nm)(X:gx P A.nm)
include C X in
theorem JP(G:A.b+A.n+1<=Z.lk)(H:bg (bM P A Fin Z G) Z s f q kk OO J M gs w t)(m:j<A.n){p:pI}{Y:uf P}(d:s.w j=.lk p Y)(K:gs[A.b+j]?=some g)(V:DU P A j (.lk p Y) (kk (A.b+j)) (OO (A.b+j)) g)(W:p≠.la)(sl:Option (Nat × Nat)):
 Goes P A Fin Z G s gs w t sl (A.b+j)\/BA P A s gs w sl (A.b+j) g:=by
 have o:cz P A Z s kk OO J M gs.size w t:=H.ex;have a7:zr p=true:=by have:=o.I.ok j m;rw[d]at this;exact this
 have L:(s.w j).iw=true:=by rw[d];rfl
 have v:=fj L;have l:(s.w j).pc=p.abs:=by rw[d];rfl
 have hn:=A.hn;have hb:=A.hb;have b0:(A.b+j==0)=false:=by simp;omega
 obtain⟨kind,c,rest,e,Q,R,S,T,r,U⟩:=V
 by_cases N:qS p=true
 . rcases zy (Wd:=jJ A) (main:=false) C X o.I.mu m hn l N o.mu R with⟨g1,w',es,qq,s',z,i,B,D,⟨hr,E,⟨k,a⟩,F⟩,a8,a9,ad,al⟩|⟨⟨sv,rfl⟩,u,i⟩
   . left
     have av:Mu.ya qq=true:=Mu.Oe (by cases p<;>simp_all [zr,qS,pI.abs,Mu.ya]) B (GS D)
     obtain⟨k1,k2,k3⟩:=Og D av;have y:((aW.lk z Y).pc,s')∈Mu.mv (s.w j).pc s.sh:=by rw[l,show(aW.lk z Y).pc=z.abs from rfl,GR D];exact B
     have ax:(s.w j).deaf=1:=by rw[d];cases p<;>simp_all [aW.deaf,qS,zr]
     have ay:(aW.lk z Y).deaf=1:=by cases z<;>simp_all [aW.deaf]
     refine ui (x:=.lk z Y) G H m L rfl (by rw[d];rfl) (o.I.mv m v rfl k1 y) (C0 o.I m v rfl (by rw[d];rfl) y ?_) K i a8 a9 ad (by rw[al,ax,ay]) ⟨k,E,a,kind,c,rest,e,Q,F,S,T,r,U⟩ (.inl λu=>Mu.Lg ?_ B u) sl
     . cases z<;>simp_all [aW.ex]
     . cases p<;>simp_all [qS,zr,pI.abs]
   . right
     exact⟨.inl ⟨j,sv,Y,m,rfl,d,u⟩,zz K i sl⟩
 . cases p<;>simp only[qS,zr,not_true_eq_false,Bool.false_eq_true]at N a7
   case ld=>obtain⟨g1,i,hr,E,⟨k,a⟩,F⟩:=xW (Wd:=jJ A) (main:=false) (w:=w) C X R;left;exact ui (x:=.lk .fF Y) (sh:=s.sh) G H m L rfl (by rw[d];rfl) (o.I.Ro m v rfl rfl l rfl) (GP m v rfl (by rw[d];rfl) l rfl (by rw[d];rfl) rfl) K i (aP rfl) o.mu (λe O=>by simp at O;subst O;exact .inl (.inl rfl)) (by rw[d];rfl) ⟨k,E,a,kind,c,rest,e,Q,F,S,T,r,U⟩ (.inl λu=>u) sl
   case t1 sv=>obtain⟨g1,i,hr,E,⟨k,a⟩,F⟩:=JB (Wd:=jJ A) (main:=false) (w:=w) C X R;left;exact ui (x:=.lk (.eY sv) Y) (sh:=s.sh) G H m L rfl (by rw[d];rfl) (o.I.still m v rfl rfl (by rw[l];rfl)) (j7 m v rfl (by rw[d];rfl) (by rw[l];rfl) (by rw[d];simp[aW.ex])) K i (aP rfl ⟨⟨w.tick,rfl⟩,rfl⟩) (o.mu.heap rfl) eh (by rw[d];rfl) ⟨k,E,a,kind,c,rest,e,Q,F,S,T,r,U⟩ (.inl λu=>u) sl
   case le=>
    obtain⟨g1,i,hr,E,⟨k,a⟩,F⟩:=CS (Wd:=jJ A) (main:=false) (w:=w) C X (λw h=>h.2.2) R
    left;exact ui (x:=.lk .la Y) (sh:=s.sh) G H m L rfl (by rw[d];rfl) (o.I.still m v rfl rfl (by rw[l];rfl)) (j7 m v rfl (by rw[d];rfl) (by rw[l];rfl) (by rw[d];simp[aW.ex])) K i (aP rfl) o.mu (λe O=>by simp at O;subst O;exact .inl (.inr rfl)) (by rw[d];rfl) ⟨k,E,a,kind,c,rest,e,Q,F,S,T,r,U⟩ (.inl λu=>u) sl
   case la=>exact absurd rfl W
end
section
variable{P:Program}{A:dk}{Fin:ag->ah->Goroutine->Prop}{Z:Base}{s:MS P}{f:Nat->Node P}{q:Nat->Nat}{kk:Nat->ag}{OO:Nat->ah}{J M:Nat->Prop}{gs:Array Goroutine}{w:World}{t:Trace}{j:Nat}{g:Goroutine}
variable(C:gu P A.nm)(X:gx P A.nm)
include C X in
theorem JQ(D:A.b+A.n+1<=Z.lk)(N:bg (bM P A Fin Z D) Z s f q kk OO J M gs w t)(m:j<A.n){p:pI}{Y:uf P}(d:s.w j=.un p Y)(R:gs[A.b+j]?=some g)(S:DU P A j (.un p Y) (kk (A.b+j)) (OO (A.b+j)) g)(T:p≠.ur)(U:p≠.ue)(sl:Option (Nat × Nat)):
 Goes P A Fin Z D s gs w t sl (A.b+j):=by
 have o:cz P A Z s kk OO J M gs.size w t:=N.ex;have G:vG p=true:=by have:=o.I.ok j m;rw[d]at this;exact this
 have O:(s.w j).iw=true:=by rw[d];rfl
 have E:=fj O;have i:(s.w j).pc=p.abs:=by rw[d];rfl
 have hn:=A.hn;have hb:=A.hb;obtain⟨kind,c,rest,V,Q,W,a7,H⟩:=S
 by_cases y:qS p=true
 . have a8:¬(p=.CK\/p=.ur):=by rintro(rfl|rfl)<;>cases y
   have hN:=H a8
   rcases zy (Wd:=jJ A) (main:=false) C X o.I.mu m hn i y o.mu Q with⟨g1,w',es,qq,s',r,l,z,B,⟨hr,K,⟨k,a⟩,L⟩,a9,ad,al,av⟩|⟨⟨sv,rfl⟩,F,l⟩
   . have ax:Mu.Bz qq=true:=Mu.Of (by cases p<;>simp_all [vG,qS,pI.abs,Mu.Bz]) z (GS B)
     obtain⟨k1,k2,k3,k4⟩:=Oh B ax;have u:((aW.un r Y).pc,s')∈Mu.mv (s.w j).pc s.sh:=by rw[i,show(aW.un r Y).pc=r.abs from rfl,GR B];exact z
     have ay:(s.w j).deaf=1:=by rw[d];cases p<;>simp_all [aW.deaf,qS,vG]
     have b0:(aW.un r Y).deaf=1:=by cases r<;>simp_all [aW.deaf]
     have b1:(s.w j).owns=false:=by rw[d];cases p<;>simp_all [aW.owns,qS,vG]
     have b2:(aW.un r Y).owns=false:=by cases r<;>simp_all [aW.owns]
     refine ui (x:=.un r Y) D N m O rfl (by rw[b1,b2]) (o.I.mv m E rfl k1 u) (C0 o.I m E rfl (by rw[d];rfl) u ?_) R l a9 ad al (by rw[av,ay,b0]) ⟨k,K,a,kind,c,rest,V,L,W,λh=>absurd h (λh=>h.elim k2 k3),λ_=>hN⟩ ?_ sl
     . cases r<;>simp_all [aW.ex]
     . by_cases b3:p=.give
       . subst b3;exact .inr ⟨DV C X Q,hr⟩
       . refine .inl λF=>Mu.Lg ?_ z F
         cases p<;>simp_all [qS,vG,pI.abs]
   . exact absurd G (by simp[vG])
 . cases p<;>simp only[qS,vG,not_true_eq_false,Bool.false_eq_true]at y G
   case CK=>
    obtain⟨v,hv⟩:=((aR (P:=P) (A:=A) (Fin:=Fin) (Z:=Z) D).wd o).2.2;obtain⟨g1,l,hr,K,⟨k,a⟩,L⟩:=tZ (Wd:=jJ A) (main:=false) (w:=w) C X (λw h=>h.2.2) hv Q
    exact ui (x:=.un .ur Y) (sh:=s.sh) D N m O rfl (by rw[d];rfl) (o.I.still m E rfl rfl (by rw[i];rfl)) (j7 m E rfl (by rw[d];rfl) (by rw[i];rfl) (by rw[d];simp[aW.ex])) R l (aP rfl) o.mu eh (by rw[d];rfl) ⟨k,K,a,kind,c,rest,V,L,W,λ_=>a7 (.inl rfl),λh=>absurd (.inr rfl) h⟩ (.inl λF=>F) sl
   case ud=>
    have hN:=H (by rintro(h|h)<;>cases h)
    obtain⟨g1,l,hr,K,⟨k,a⟩,L⟩:=CO (Wd:=jJ A) (main:=false) (w:=w) C X Q;exact ui (x:=.un .held Y) (sh:=s.sh) D N m O rfl (by rw[d];rfl) (o.I.still m E rfl rfl (by rw[i];rfl)) (j7 m E rfl (by rw[d];rfl) (by rw[i];rfl) (by rw[d];simp[aW.ex])) R l (aP rfl) o.mu (λe he=>by simp at he;subst he;exact .inl (.inl rfl)) (by rw[d];rfl) ⟨k,K,a,kind,c,rest,V,L,W,λh=>absurd h (by simp),λ_=>hN⟩ (.inl λF=>F) sl
   case ur=>exact absurd rfl T
   case ue=>exact absurd rfl U
end
def TT.LU{P:Program}{m:Mo}{K:ag}{O:ah}{g1 a:Goroutine}(h:oP P (λ_=>True) g1 a)(e:TT P m K O a):TT P m K O g1:=.step (λb c d=>b=K/\c=O/\d=a) h.1 (λb c d f=>by obtain⟨rfl,rfl,rfl⟩:=f;exact e) (λw g=>⟨a,w,#[],K,O,h.2 _ w trivial,Eff.refl _ _ _,g,rfl,rfl,rfl⟩)
theorem TT.zB{P:Program}{m:Mo}{K:ag}{O:ah}{g1 a:Goroutine}(h:oP P (λ_=>True) g1 a)(b:TT P m K O a){z:Node P}(c:mO z ⟨m,K,O,g1,TT.LU h b⟩):z=⟨m,K,O,a,b⟩:=by
 unfold TT.LU at c;cases c with
 |step _ _ _ _ d=>obtain⟨rfl,rfl,rfl⟩:=d;rfl
theorem TT.pre{P:Program}{m:Mo}{K:ag}{O:ah}:∀{k:Nat}{g1 a:Goroutine},iV P (λ_=>True) k g1 a->(X:TT P m K O a)->∃T:TT P m K O g1,rS ⟨m,K,O,g1,T⟩ ⟨m,K,O,a,X⟩
 |0,g1,a,h,X=>by obtain rfl:g1=a:=h;exact⟨X,.refl _⟩
 | k + 1,g1,a,⟨g,d,h⟩,X=>by
   obtain⟨b,j⟩:=TT.pre h X;refine⟨TT.LU d b,λy f i=>?_⟩;rcases f with rfl|f
   . exact i.elim
   . have:y=⟨m,K,O,g,b⟩\/Relation.TransGen mO y ⟨m,K,O,g,b⟩:=by
      cases f with
      |single h=>exact .inl (TT.zB d b h)
      |tail c l=>have e:=TT.zB d b l;rw[e]at c;exact .inr c
     exact j y this i
section
variable{P:Program}{A:dk}{Fin:ag->ah->Goroutine->Prop}{Z:Base}{s:MS P}{f:Nat->Node P}{q:Nat->Nat}{kk:Nat->ag}{OO:Nat->ah}{J M:Nat->Prop}{gs:Array Goroutine}{w:World}{t:Trace}{j:Nat}{g:Goroutine}
theorem iZ(a:j<A.n){h:Bool}{X:Node P}(e:s.w j=.run h X):cL P A s (A.b+j):=.inr (.inl ⟨j,a,rfl,by rw[e];trivial⟩)
theorem qT(c:j<A.n){h:Bool}{X:Node P}(e:s.w j=.run h X):¬dV P A s (A.b+j):=by
 have:=A.hb;rintro(⟨e,_⟩|⟨l,d,f,a⟩|⟨e,_⟩)
 . omega
 . obtain rfl:l=j:=by omega
   rw[e]at a;exact a
 . omega
theorem iC(c:j<A.n){h:Bool}{X:Node P}(e:s.w j=.run h X):¬dz P A s (A.b+j):=by
 have:=A.hb;rintro(⟨e,_⟩|⟨l,d,f,a⟩)
 . omega
 . obtain rfl:l=j:=by omega
   rw[e]at a;cases a
theorem lE(c:j<A.n){h:Bool}{X:Node P}(e:s.w j=.run h X):bm P A Fin s (A.b+j)=jx P A j:=by
 have:=A.hb;unfold bm;rw[if_neg (by omega),if_pos (by omega)];have a:A.b+j-A.b=j:=by omega
 rw[a,e]
variable(C:gu P A.nm)(X:gx P A.nm)(F:oT P A.nm)
include C X F in
theorem JR(z:A.b+A.n+1<=Z.lk)(D:bg (bM P A Fin Z z) Z s f q kk OO J M gs w t)(a:j<A.n){Y:uf P}(E:s.w j=.un .ue Y)(hg:gs[A.b+j]?=some g)(W:DU P A j (.un .ue Y) (kk (A.b+j)) (OO (A.b+j)) g)(sl:Option (Nat × Nat)):
 Goes P A Fin Z z s gs w t sl (A.b+j):=by
 have p:cz P A Z s kk OO J M gs.size w t:=D.ex;have B:=aR (P:=P) (A:=A) (Fin:=Fin) (Z:=Z) z;have h1:(s.w j).iw=true:=by rw[E];rfl
 have u:=fj h1;have hb:=A.hb;have a7:(A.b+j==0)=false:=by simp;omega
 obtain⟨kind,c,rest,hk,hM,hm,ay,a8⟩:=W;have U:=a8 (by simp)
 obtain⟨g1,a9,hr,g2,G,H⟩:=CP (Wd:=λ_=>True) (main:=false) (w:=w) C X hM
 obtain⟨k,ad⟩:=G.trans (nc F H hk);obtain⟨T,hU⟩:=TT.pre ad (Y.c _ _ _ U);obtain⟨x,v⟩:∃x:aW P,x=.run false ⟨Y.m,kk (A.b+j),OO (A.b+j),_,Y.c _ _ _ U⟩:=⟨_,rfl⟩;have V:x.work=true:=by rw[v];rfl
 have d:∀sh,((s.aD j x sh).w j)=.run false ⟨Y.m,kk (A.b+j),OO (A.b+j),_,Y.c _ _ _ U⟩:=λsh=>by rw[aC,v]
 have al:EvM A.fb A.fo #[⟨.mark .enable,false,true⟩]:=λe he=>by simp at he;subst he;exact .inl (.inr rfl)
 have K:=runT_crowd_go (P:=P) (sl:=sl) (i:=A.b+j) hg (by rw[a7];exact a9)
 have L:bt P A s (A.b+j):=fR p.I a (aS u).2.2.2.2.1;obtain⟨y1,y2,y3⟩:=p.GQ al L g.frame.fn g.frame.place;have o:∀op∈MemOp.ofEvents (A.b+j) g.frame.fn g.frame.place #[⟨.mark .enable,false,true⟩],op.g=A.b+j:=λop av=>by obtain⟨e,_,rfl⟩:=Go.Conc.mem_ofEvents av;rfl
 have hJ:J (A.b+j):=(p.hJ _).2 (sR a (aS u).2.2.2.2.2.1);have hP:=D.bN.sync (i:=A.b+j) (.inr hJ) o rfl ⟨⟨.refl _,rfl⟩,λ_ _=>rfl⟩ (λb=>.inl rfl) y2 y1
 have hI:bs A.n (s.aD j x s.sh):=p.I.still a u V (by rw[v];rfl) (by rw[v,E];rfl)
 have hL:MS.fh A.n (s.aD j x s.sh) s:=x7 a u V ⟨_,_,by rw[v];rfl,by rw[E];rfl,.single (mO.cJ Y.N Y.h0 Y.ht Y.c U)⟩
 have Q:cz P A Z (s.aD j x s.sh) kk OO J M gs.size w (t++MemOp.ofEvents (A.b+j) g.frame.fn g.frame.place #[⟨.mark .enable,false,true⟩]):=p.work a u V (by rw[v,E];rfl) hI p.mu (λ_ _=>rfl) p.rR y3
 have r:Beside (bM P A Fin Z z) s (s.aD j x s.sh) f (bo f (A.b+j) ⟨Y.m,kk (A.b+j),OO (A.b+j),g1,T⟩) q q kk kk OO OO J J w (A.b+j) g g1:=iY z a u V (λi hi=>ap _ _ hi) (λi hi=>rfl) (λ_ _ _=>rfl) (λ_ _ _=>rfl) (λ_ h=>h) (.inl λh=>h) (λ{i k O y} H=>B.jX (s:=s) (i:=i) (k:=k) (O:=O) (g:=y) H)
 have R:=gg (P:=P) (A:=A) (s:=s) a h1;refine⟨_,_,K,s.aD j x s.sh,bo f (A.b+j) ⟨Y.m,kk (A.b+j),OO (A.b+j),g1,T⟩,q,kk,OO,J,M,_,_,_,rfl,hL,?_⟩;refine bg.step B D hg o hP Q (λl y hl H=>?_) r ⟨λ_=>?_,λh=>absurd h (qT a (d _)),λh=>absurd h (iC a (d _)),λh=>absurd (iZ a (d _)) h⟩
 . have S:l≠A.b+j:=λe=>(D.held l hl).2.1 (by rw[e];exact R)
   exact B.qI Q ((r.held l S).2 hl) _ _ (r.LS l _ _ _ S hl H)
 . rw[ak]
   refine⟨by show A.b+j<A.b+A.n+1;omega,rfl,?_,rfl,rfl,hr,?_,.inr hJ,λl b X' h3 h4 h5=>?_⟩
   . show Y.m=bm P A Fin (s.aD j x s.sh) (A.b+j)
     rw[lE a (d _)];exact hm
   . obtain⟨_,_,ax,_⟩:=D.walk _ R
     rw[Deaf_own,ax];show deafBehind (cd P A s (A.b+j)) _=0;rw[dB a,E];rfl
   . obtain rfl:l=j:=by omega
     rw[d]at h5;cases h5;exact hU
end
section
variable{Z:Base}{kk:Nat->ag}{OO:Nat->ah}{J M:Nat->Prop}{w:World}{t:Trace}
theorem uj{O:ah}{b c n:Nat}(d:aK (O.set b (.part pN)) c n):aK O c n:=by
 by_cases a:c=b
 . subst a
   rcases d with⟨o,q⟩|⟨m,q,_⟩|⟨g,q,e⟩
   . simp[ah.set]at q
   . simp[ah.set]at q
   . simp only[ah.set,if_true,Option.some.injEq,Own.part.injEq]at q
     subst q;exact absurd rfl e
 . simpa[aK,ah.set,a]using d
theorem bL.token(h:bL Z kk OO J M w t){j b:Nat}(hb:∀i,OO i b=none)(D:∃c e,w.heap[b]?=some (.cells c e (0,0))/\(kk j).sh b=some (e,c.size))(y:Z.W0.heap.size<=b):
 bL Z kk (bo OO j ((OO j).set b (.part pN))) J M w t:=by
 have m:∀i c n,aK (bo OO j ((OO j).set b (.part pN)) i) c n->aK (OO i) c n:=λi c n d=>by
  by_cases p:i=j
  . subst p;rw[ak]at d;exact uj d
  . rw[ap _ _ p]at d;exact d
 have u:∀i c o,bo OO j ((OO j).set b (.part pN)) i c=some (.obj o)->OO i c=some (.obj o):=λi c o d=>by
  by_cases p:i=j
  . subst p
    rw[ak]at d;by_cases f:c=b
    . subst f;simp[ah.set]at d
    . simpa[ah.set,f]using d
  . rw[ap _ _ p]at d;exact d
 have E:Sat (kk j) ((OO j).set b (.part pN)) w:=by
  refine⟨λc n v z d=>(h.sat j).apart c n v z (uj d),(h.sat j).cell,(h.sat j).sh,λc o d=>?_,λc n d=>?_,λc g d=>?_⟩
  . by_cases f:c=b
    . subst f;simp[ah.set]at d
    . exact(h.sat j).obj c o (by simpa[ah.set,f]using d)
  . by_cases f:c=b
    . subst f;simp[ah.set]at d
    . exact(h.sat j).tail c n (by simpa[ah.set,f]using d)
  . by_cases f:c=b
    . subst f
      simp only[ah.set,if_true,Option.some.injEq,Own.part.injEq]at d;subst d;obtain⟨F,e,k,G⟩:=D;exact⟨F,e,k,G,λn v z=>by cases z⟩
    . exact(h.sat j).part c g (by simpa[ah.set,f]using d)
 refine⟨λi=>?_,λi l c x q B=>?_,λi l c n v q z d=>h.lx i l c n v q z (m i c n d),λi n a A H=>?_,h.clean,h.seen,h.acc,h.n0,h.tP,λa A=>⟨(h.iT a A).1,λi=>⟨λd=>((h.iT a A).2 i).1 (m i _ _ d),((h.iT a A).2 i).2⟩⟩,λr C=>⟨(h.ly r C).1,λi o d=>(h.ly r C).2 i o (u i r o d)⟩,h.vC,λi c x d=>?_⟩
 . by_cases p:i=j
   . subst p;rw[ak];exact E
   . rw[ap _ _ p];exact h.sat i
 . by_cases f:c=b
   . subst f
     by_cases s:l=j
     . subst s
       rw[ap _ _ q,hb i]at B;cases B
     . rw[ap _ _ s];exact hb l
   . have e:∀l,bo OO j ((OO j).set b (.part pN)) l c=OO l c:=λl=>by
      by_cases s:l=j
      . subst s;rw[ak];simp[ah.set,f]
      . rw[ap _ _ s]
     rw[e]at B ⊢;exact h.gY i l c x q B
 . rcases h.xO i n a A H with k|k
   . exact .inl k
   . refine .inr ?_
     unfold mN at k ⊢;split
     . next I s=>rw[s]at k;exact⟨k.1,λd=>k.2.1 (m i _ _ d),k.2.2⟩
     . next r s=>rw[s]at k;exact⟨k.1,λo d=>k.2 o (u i r o d)⟩
     . trivial
 . by_cases p:i=j
   . subst p
     rw[ak]at d;by_cases f:c=b
     . subst f;exact y
     . exact h.mine i c x (by simpa[ah.set,f]using d)
   . rw[ap _ _ p]at d;exact h.mine i c x d
end
section
variable{Z:Base}{kk:Nat->ag}{OO:Nat->ah}{J M:Nat->Prop}{w:World}{t:Trace}
def ia(kk:Nat->ag)(lk i:Nat):Nat->ag:=bo kk i ((kk i).join (kk lk))
def fI(OO:Nat->ah)(lk i mb:Nat)(x:Own):Nat->ah:=bo (bo OO i ((OO i).set mb x)) lk ah.bot
theorem bL.Oi(h:bL Z kk OO J M w t){i mb:Nat}{x:Own}(R:i≠Z.lk)(P:OO Z.lk mb=some x)(ho:∀c,OO Z.lk c≠none->c=mb)(S:Z.la.block<w.heap.size)(hd:Deaf t i=0)(hold:∀m a,m<Z.N0->touchAt t m=some a->a.loc.isMemory=true -> ¬Z.Shun a.loc->Knows t i m)(T:∀m a,Z.N0<=m->t.act? m≠some (.mark (.release a)))(fn:FuncId)(pos:String):
 bL Z (ia kk Z.lk i) (fI OO Z.lk i mb x) J M w (t++MemOp.ofEvents i fn pos #[⟨.mark (.acquire Z.la),false,true⟩]):=by
 obtain⟨u,W⟩:∃u,u=MemOp.ofEvents i fn pos #[⟨.mark (.acquire Z.la),false,true⟩]:=⟨_,rfl⟩;have o:u=#[⟨i,fn,pos,.mark (.acquire Z.la)⟩]:=by rw[W,ofEvents_eq];simp[MemAct.ofEvent]
 rw[<-W];have C:jS u:=λop d=>by rw[o]at d;simp at d;subst d;simp
 have D:∀op∈u,op.act.touch?=none:=λop d=>by rw[o]at d;simp at d;subst d;rfl
 have L:∀op∈u,op.g=i:=λop d=>by rw[o]at d;simp at d;subst d;rfl
 have N:∀m a,Z.N0<=m->(t++u).act? m≠some (.mark (.release a)):=λm a Q e=>by
  rcases qR e with⟨q,_⟩|⟨op,d,q⟩
  . exact T m a Q q
  . rw[o]at d;simp at d;subst d;simp at q
 have a7:OO i mb=none:=h.gY Z.lk i mb x (Ne.symm R) P;have U:∀l,l≠i->ia kk Z.lk i l=kk l:=λl hl=>ap _ _ hl
 have r:ia kk Z.lk i i=(kk i).join (kk Z.lk):=ak _ _ _;have eO:∀l,l≠i->l≠Z.lk->fI OO Z.lk i mb x l=OO l:=λl q E=>by unfold fI;rw[ap _ _ E,ap _ _ q]
 have F:fI OO Z.lk i mb x i=(OO i).set mb x:=by unfold fI;rw[ap _ _ R,ak]
 have G:fI OO Z.lk i mb x Z.lk=ah.bot:=by unfold fI;rw[ak]
 refine h.qF (λa b=>a=b\/(a=Z.lk/\b=i)) rfl ⟨⟨.refl _,rfl⟩,λ_ _=>rfl⟩ (λb=>.inl rfl) (λop d=>by rw[o]at d;simp at d;subst d;simpa[MemAct.low]using S) (λa b e n y V Q hz H=>?_) (λl b n v s=>?_) (λl b sv s=>?_) (λl b y f=>?_) (λa l b y z f=>?_)
  (λsaid=>noRace_append (h.clean said) L λn a I op d b hb _=>by rw[D op d]at hb;cases hb) (λop d a I=>by rw[D op d]at I;cases I) (λm op a d I=>by rw[D op (Array.mem_of_getElem? d)]at I;cases I)
  (λn a I Q h=>h.elim (λ⟨j,q,E⟩=>.inr (.inl ⟨j,q,E.app _⟩)) (λ⟨p,q,E⟩=>.inr (.inr (.inl ⟨p,q,E.app _⟩))))
 . rcases e with rfl|⟨rfl,rfl⟩
   . exact H.app u
   . refine(l9 R).2 ?_
     unfold DD at H;rw[if_pos rfl]at H
     rcases H with H|⟨p,h0,q,E,h3⟩
     . exact(hold n y H V Q hz).app u
     . exact ol (y:=⟨b,fn,pos,.mark (.acquire Z.la)⟩) (m:=0) C (by rw[o];rfl) rfl hd q E (λk H=>N k _ (by omega)) h3
 . by_cases e:l=i
   . subst e;rw[r]at s
     exact(ag.jG s).elim (λh=>⟨l,.inl rfl,h⟩) (λh=>⟨Z.lk,.inr ⟨rfl,rfl⟩,h⟩)
   . rw[U l e]at s;exact⟨l,.inl rfl,s⟩
 . by_cases e:l=i
   . subst e;rw[r]at s
     exact(ag.xN s).elim (λh=>⟨l,.inl rfl,h⟩) (λh=>⟨Z.lk,.inr ⟨rfl,rfl⟩,h⟩)
   . rw[U l e]at s;exact⟨l,.inl rfl,s⟩
 . by_cases e:l=i
   . subst e;rw[F]at f
     by_cases B:b=mb
     . subst B
       simp only[ah.set,if_true,Option.some.injEq]at f;subst f;exact⟨Z.lk,.inr ⟨rfl,rfl⟩,P,λsv O=>by rw[r];exact(ag.m5 (h.sat l) (h.sat Z.lk)).2 b sv O⟩
     . simp only[ah.set,B,if_false]at f
       exact⟨l,.inl rfl,f,λsv O=>by rw[r];exact(ag.kv _ _).2 b sv O⟩
   . by_cases X:l=Z.lk
     . subst X;rw[G]at f;cases f
     . rw[eO l e X]at f;exact⟨l,.inl rfl,f,λsv O=>by rw[U l e];exact O⟩
 . by_cases K:a=Z.lk
   . subst K;rw[G]at f;cases f
   by_cases A:l=Z.lk
   . subst A;rw[G];rfl
   by_cases Y:a=i
   . subst Y
     rw[F]at f;rw[eO l (Ne.symm z) A]
     by_cases B:b=mb
     . subst B;exact h.gY Z.lk l b x (Ne.symm A) P
     . simp only[ah.set,B,if_false]at f;exact h.gY a l b y z f
   . rw [eO a Y K]at f
     by_cases el:l=i
     . subst el
       rw[F]
       by_cases B:b=mb
       . subst B
         have:=h.gY Z.lk a b x (Ne.symm K) P;rw[f]at this;cases this
       . simp only[ah.set,B,if_false];exact h.gY a l b y z f
     . rw[eO l el A];exact h.gY a l b y z f
end
section
variable{Z:Base}{kk:Nat->ag}{OO:Nat->ah}{J M:Nat->Prop}{w:World}{t:Trace}
def mi(kk:Nat->ag)(lk i:Nat):Nat->ag:=bo kk lk (kk i)
def eo(OO:Nat->ah)(lk i mb fb:Nat)(x:Own):Nat->ah:=bo (bo OO i (((OO i).del mb).del fb)) lk (ah.bot.set mb x)
theorem bL.Oj(h:bL Z kk OO J M w t){i mb fb:Nat}{x:Own}(X:i≠Z.lk)(T:OO i mb=some x)(ho:∀c,OO Z.lk c=none)(U:Z.la.block<w.heap.size)(hd:Deaf t i=0)(fn:FuncId)(pos:String):
 bL Z (mi kk Z.lk i) (eo OO Z.lk i mb fb x) J M w (t++MemOp.ofEvents i fn pos #[⟨.mark (.releaseMerge Z.la),false,true⟩]):=by
 obtain⟨u,Y⟩:∃u,u=MemOp.ofEvents i fn pos #[⟨.mark (.releaseMerge Z.la),false,true⟩]:=⟨_,rfl⟩;have k:u=#[⟨i,fn,pos,.mark (.releaseMerge Z.la)⟩]:=by rw[Y,ofEvents_eq];simp[MemAct.ofEvent]
 rw[<-Y];have C:jS u:=λop d=>by rw[k]at d;simp at d;subst d;simp
 have D:∀op∈u,op.act.touch?=none:=λop d=>by rw[k]at d;simp at d;subst d;rfl
 have O:∀op∈u,op.g=i:=λop d=>by rw[k]at d;simp at d;subst d;rfl
 have E:u[0]?=some ⟨i,fn,pos,.mark (.releaseMerge Z.la)⟩:=by rw[k];rfl
 have S:∀l,l≠Z.lk->mi kk Z.lk i l=kk l:=λl hl=>ap _ _ hl
 have F:mi kk Z.lk i Z.lk=kk i:=ak _ _ _;have eO:∀l,l≠i->l≠Z.lk->eo OO Z.lk i mb fb x l=OO l:=λl P Q=>by unfold eo;rw[ap _ _ Q,ap _ _ P]
 have o:eo OO Z.lk i mb fb x i=((OO i).del mb).del fb:=by unfold eo;rw[ap _ _ X,ak]
 have G:eo OO Z.lk i mb fb x Z.lk=ah.bot.set mb x:=by unfold eo;rw[ak]
 have q:∀b y,(((OO i).del mb).del fb) b=some y->b≠mb/\OO i b=some y:=λb y f=>by
  by_cases A:b=fb
  . simp[ah.del,A]at f
  by_cases r:b=mb
  . simp[ah.del,r]at f
  . exact⟨r,by simpa[ah.del,A,r]using f⟩
 have B:∀b y,(ah.bot.set mb x) b=some y->b=mb/\y=x:=λb y f=>by
  by_cases e:b=mb
  . subst e;simp only[ah.set,if_true,Option.some.injEq]at f;exact⟨rfl,f.symm⟩
  . simp only[ah.set,e,if_false]at f;cases f
 have H:∀b,OO i b=none->(((OO i).del mb).del fb) b=none:=λb hn=>by
  by_cases A:b=fb
  . simp[ah.del,A]
  by_cases r:b=mb
  . simp[ah.del,r]
  . simpa[ah.del,A,r]using hn
 refine h.qF (λa b=>a=b\/(a=i/\b=Z.lk)) rfl ⟨⟨.refl _,rfl⟩,λ_ _=>rfl⟩ (λb=>.inl rfl) (λop d=>by rw[k]at d;simp at d;subst d;simpa[MemAct.low]using U) (λa b e n y a7 hm hz hk=>?_) (λl b n v z=>?_) (λl b sv z=>?_) (λl b y f=>?_) (λa l b y s f=>?_)
  (λsaid=>noRace_append (h.clean said) O λn a I op d b hb _=>by rw[D op d]at hb;cases hb) (λop d a I=>by rw[D op d]at I;cases I) (λm op a d I=>by rw[D op (Array.mem_of_getElem? d)]at I;cases I)
  (λn a I hm h=>h.elim (λ⟨j,P,Q⟩=>.inr (.inl ⟨j,P,Q.app _⟩)) (λ⟨p,P,Q⟩=>.inr (.inr (.inl ⟨p,P,Q.app _⟩))))
 . rcases e with rfl|⟨rfl,rfl⟩
   . exact hk.app u
   . have V:Knows t a n:=(l9 X).1 hk
     unfold DD;rw[if_pos rfl];exact .inr ⟨t.size+0,by have:=h.n0;omega,by rw[act?_of (cC E)],heard_new C E hd,jT V E rfl⟩
 . by_cases e:l=Z.lk
   . subst e;rw[F]at z;exact⟨i,.inr ⟨rfl,rfl⟩,z⟩
   . rw[S l e]at z;exact⟨l,.inl rfl,z⟩
 . by_cases e:l=Z.lk
   . subst e;rw[F]at z;exact⟨i,.inr ⟨rfl,rfl⟩,z⟩
   . rw[S l e]at z;exact⟨l,.inl rfl,z⟩
 . by_cases r:l=Z.lk
   . subst r;rw[G]at f
     obtain⟨rfl,rfl⟩:=B b y f;exact⟨i,.inr ⟨rfl,rfl⟩,T,λsv R=>by rw[F];exact R⟩
   by_cases e:l=i
   . subst e;rw[o]at f
     exact⟨l,.inl rfl,(q b y f).2,λsv R=>by rw[S l r];exact R⟩
   . rw[eO l e r]at f;exact⟨l,.inl rfl,f,λsv R=>by rw[S l r];exact R⟩
 . by_cases K:a=Z.lk
   . subst K;rw[G]at f
     obtain⟨rfl,rfl⟩:=B b y f
     by_cases el:l=i
     . subst el;rw[o]
       by_cases A:b=fb
       . simp[ah.del,A]
       . simp[ah.del,A]
     . rw[eO l el (Ne.symm s)];exact h.gY i l b y (Ne.symm el) T
   by_cases L:l=Z.lk
   . subst L;rw[G]
     have W:b≠mb:=by
      by_cases N:a=i
      . subst N;rw[o]at f;exact(q b y f).1
      . rw[eO a N K]at f
        intro e;subst e;have:=h.gY a i b y N f;rw[T]at this;cases this
     simp only[ah.set,W,if_false];rfl
   by_cases N:a=i
   . subst N
     rw[o]at f;rw[eO l (Ne.symm s) L];exact h.gY a l b y s (q b y f).2
   . rw[eO a N K]at f
     by_cases el:l=i
     . subst el;rw[o];exact H b (h.gY a l b y s f)
     . rw[eO l el L];exact h.gY a l b y s f
end
section
variable{P:Program}{A:dk}{Fin:ag->ah->Goroutine->Prop}{Z:Base}{s:MS P}{f:Nat->Node P}{q:Nat->Nat}{kk:Nat->ag}{OO:Nat->ah}{J M:Nat->Prop}{gs:Array Goroutine}{gsz:Nat}{w:World}{t u:Trace}{j:Nat}{g:Goroutine}{x:aW P}{xo:Own}
theorem DW{x:aW P}(h:x.owns=true):x.pc=.held:=by
 cases x with
 |run b X=>cases b<;>simp_all [aW.owns,aW.pc]
 |un p Y=>cases p<;>simp_all [aW.owns,aW.pc,pI.abs]
 |_=>simp_all [aW.owns]
theorem zC(I:bs A.n s)(a:j<A.n)(b:(s.w j).pc=.held){l:Nat}(c:l<A.n)(d:(s.w l).owns=true):l=j:=by
 by_cases e:l=j
 . exact e
 . have h:=I.mu.j1
   have f:=Mu.eQ Mu.bC (λi=>(s.w i).pc) j .out a
   have g:Mu.bC (Mu.set (λi=>(s.w i).pc) j .out l)<=Mu.tot A.n (λi=>Mu.bC (Mu.set (λi=>(s.w i).pc) j .out i)):=Mu.gf (λi=>Mu.bC (Mu.set (λi=>(s.w i).pc) j .out i)) c
   rw[Mu.aj _ _ e,DW d]at g;have k:Mu.bC .held=1:=rfl;have m:Mu.bC .out=0:=rfl;rw[b]at f;have:s.sh.w.L.toNat<=1:=by cases s.sh.w.L<;>simp
   omega
def ju(A:dk)(Z:Base)(OO:Nat->ah)(i:Nat)(x:Own):Nat->ah:=bo (fI OO Z.lk i A.mb x) i ((fI OO Z.lk i A.mb x i).set A.fb (.part pN))
theorem cz.take(U:A.b+A.n+1<=Z.lk)(h:cz P A Z s kk OO J M gsz w t)(F:j<A.n)(r:(s.w j).work=true)(G:x.work=true)(z:∀l,l<A.n->(s.w l).owns=false)(L:x.owns=true)(S:bs A.n (s.aD j x s.sh))(H:∀op∈u,op.act.touch?=none/\∀a,op.act≠.mark (.release a)):
 cz P A Z (s.aD j x s.sh) (ia kk Z.lk (A.b+j)) (ju A Z OO (A.b+j) xo) J M gsz w (t++u):=by
 have N:A.b+j≠Z.lk:=by omega
 have m:x.busy=(s.w j).busy:=by rw[(aS r).2.2.2.2.2.1,(aS G).2.2.2.2.2.1]
 have O:∀l,l≠A.b+j->ia kk Z.lk (A.b+j) l=kk l:=λl k=>ap _ _ k
 have K:ia kk Z.lk (A.b+j) (A.b+j)=(kk (A.b+j)).join (kk Z.lk):=ak _ _ _;have eO:∀l,l≠A.b+j->l≠Z.lk->ju A Z OO (A.b+j) xo l=OO l:=λl r G=>by unfold ju fI;rw[ap _ _ r,ap _ _ G,ap _ _ r]
 have o:ju A Z OO (A.b+j) xo (A.b+j)=((OO (A.b+j)).set A.mb xo).set A.fb (.part pN):=by unfold ju fI;rw[ak,ap _ _ N,ak]
 have p:ju A Z OO (A.b+j) xo Z.lk=ah.bot:=by unfold ju fI;rw[ap _ _ (Ne.symm N),ak]
 have B:bt P A s (A.b+j):=fR h.I F (aS r).2.2.2.2.1
 have C:∀i,OO i A.fb=none:=λi=>by
  cases e:OO i A.fb with
  |none=>rfl
  |some y=>obtain⟨l,_,k,_,Q,_⟩:=h.tok i y e;rw[z l k]at Q;cases Q
 have f:∀{c n:Nat},(∀i,(kk i).cell c n=none)->(ia kk Z.lk (A.b+j) (A.b+j)).cell c n=none:=λ{c n} T=>by
  rw[K];cases e:((kk (A.b+j)).join (kk Z.lk)).cell c n with
  |none=>rfl
  |some v=>rcases ag.jG e with h|h<;>rw[T]at h<;>cases h
 refine⟨S,h.size,h.vq,h.mu,h.gr,h.rR,h.vH,λi=>?_,λi=>?_,λi y q=>?_,λl k g=>?_,λg=>?_,λc R=>?_,
  λi=>by rw[h.hJ i];exact(j8 F m i).symm,h.pQ u,h.jy u,h.hQ u (λop d a D=>by rw[(H op d).1]at D;cases D),h.kA u (λop d a D=>by rw[(H op d).1]at D;cases D),h.mh u,h.fQ u (λop d=>(H op d).2),λi k hb=>?_,h.oO,h.iB,h.dA,h.la,by simp;exact Nat.le_trans h.n0 (Nat.le_add_right _ _)⟩
 . by_cases e:i=A.b+j
   . subst e;rw[o]
     have:=h.ew (A.b+j);simp only[ah.set,A.d1,A.d3,Ne.symm A.d4,A.d6,if_false];exact this
   by_cases E:i=Z.lk
   . subst E;rw[p];exact⟨rfl,rfl⟩
   . rw[eO i e E];exact h.ew i
 . by_cases e:i=A.b+j
   . subst e
     exact⟨f λi=>(h.dg i).1,f λi=>(h.dg i).2.1,f λi=>(h.dg i).2.2.1,f λi=>(h.dg i).2.2.2⟩
   . rw[O i e];exact h.dg i
 . by_cases e:i=A.b+j
   . subst e;rw[o]at q
     simp only[ah.set,if_true,Option.some.injEq]at q;exact⟨j,pN,F,rfl,by rw[aC];exact L,q.symm,λ_=>rfl⟩
   by_cases E:i=Z.lk
   . subst E;rw[p]at q;cases q
   . rw[eO i e E,C]at q;cases q
 . by_cases e:l=j
   . subst e;rw[o];simp[ah.set]
   . rw[aX e,z l k]at g;cases g
 . have:=g j F
   rw[aC,L]at this;cases this
 . rw[p]at R;exact absurd rfl R
 . have e:i≠A.b+j:=λe=>hb (e ▸ B)
   rw[O i e,eO i e k];exact h.zt i k hb
end
section
variable{P:Program}{A:dk}{Fin:ag->ah->Goroutine->Prop}{Z:Base}{s:MS P}{f:Nat->Node P}{q:Nat->Nat}{kk:Nat->ag}{OO:Nat->ah}{J M:Nat->Prop}{gs:Array Goroutine}{w:World}{t:Trace}{j:Nat}{g:Goroutine}
variable(C:gu P A.nm)(X:gx P A.nm)(F:oT P A.nm)
include C X F in
theorem JS(L:A.b+A.n+1<=Z.lk)(v:bg (bM P A Fin Z L) Z s f q kk OO J M gs w t)(o:j<A.n){Y:uf P}(Q:s.w j=.lk .la Y)(hg:gs[A.b+j]?=some g)(b3:DU P A j (.lk .la Y) (kk (A.b+j)) (OO (A.b+j)) g)(sl:Option (Nat × Nat)):
 Goes P A Fin Z L s gs w t sl (A.b+j):=by
 have d:cz P A Z s kk OO J M gs.size w t:=v.ex;have B:=aR (P:=P) (A:=A) (Fin:=Fin) (Z:=Z) L;have h1:(s.w j).iw=true:=by rw[Q];rfl
 have R:=fj h1;have b4:(s.w j).pc=.held:=by rw[Q];rfl
 have hb:=A.hb;have p:A.b+j≠Z.lk:=by omega
 have b5:(A.b+j==0)=false:=by simp;omega
 have E:∀l,l<A.n->(s.w l).owns=false:=λl S=>by
  cases e:(s.w l).owns with
  |false=>rfl
  |true=>obtain rfl:=zC d.I o b4 S e;rw[Q]at e;cases e
 have D:∀i,OO i A.fb=none:=λi=>by
  cases e:OO i A.fb with
  |none=>rfl
  |some y=>obtain⟨l,_,S,_,ho,_⟩:=d.tok i y e;rw[E l S]at ho;cases ho
 obtain⟨xo,a,V,b6,b7⟩:=d.GN E;obtain⟨kind,c,rest,e,hk,hM,hm,hO,W,hN⟩:=b3;have a7:(kk Z.lk).Le ((kk (A.b+j)).join (kk Z.lk)):=ag.m5 (v.bN.sat (A.b+j)) (v.bN.sat Z.lk);have r:=hN ((kk (A.b+j)).join (kk Z.lk)) xo a (ag.kv _ _) (b6.mono a7) b7 (v.bN.gY Z.lk (A.b+j) _ _ (Ne.symm p) V);obtain⟨g1,a8,hr,g2,a9,hA⟩:=CR (Wd:=λ_=>True) (main:=false) (w:=w) C X hM
 obtain⟨k,b8⟩:=a9.trans (pM F hA hk);rw[<-d.la]at a8;have ad:ia kk Z.lk (A.b+j) (A.b+j)=(kk (A.b+j)).join (kk Z.lk):=ak _ _ _;have b9:ju A Z OO (A.b+j) xo (A.b+j)=((OO (A.b+j)).set A.mb xo).set A.fb (.part pN):=by unfold ju fI;rw[ak,ap _ _ p,ak]
 rw[<-ad,<-b9]at r;obtain⟨T,hU⟩:=TT.pre b8 (Y.c _ _ _ r);obtain⟨x,U⟩:∃x:aW P,x=.run true ⟨Y.m,ia kk Z.lk (A.b+j) (A.b+j),ju A Z OO (A.b+j) xo (A.b+j),_,Y.c _ _ _ r⟩:=⟨_,rfl⟩;have w2:x.work=true:=by rw[U];rfl
 have u:∀sh,((s.aD j x sh).w j)=.run true ⟨Y.m,ia kk Z.lk (A.b+j) (A.b+j),ju A Z OO (A.b+j) xo (A.b+j),_,Y.c _ _ _ r⟩:=λsh=>by rw[aC,U]
 have al:=runT_crowd_go (P:=P) (sl:=sl) (i:=A.b+j) hg (by rw[b5];exact a8)
 have av:=gg (P:=P) (A:=A) (s:=s) o h1
 have z:Deaf t (A.b+j)=0:=by obtain⟨_,_,z,_⟩:=v.walk _ av;rw[z];show cd P A s (A.b+j)=0;rw[dB o,Q];rfl
 have ax:bt P A s (A.b+j):=fR d.I o (aS R).2.2.2.2.1;have hJ:J (A.b+j):=(d.hJ _).2 (sR o (aS R).2.2.2.2.2.1);have ay:∀op∈MemOp.ofEvents (A.b+j) g.frame.fn g.frame.place #[⟨.mark (.acquire Z.la),false,true⟩],op.g=A.b+j:=λop G=>by obtain⟨e,_,rfl⟩:=Go.Conc.mem_ofEvents G;rfl
 have bq:∀op∈MemOp.ofEvents (A.b+j) g.frame.fn g.frame.place #[⟨.mark (.acquire Z.la),false,true⟩],op.act.touch?=none/\∀a,op.act≠.mark (.release a):=λop G=>by obtain⟨e,he,rfl⟩:=Go.Conc.mem_ofEvents G;simp at he;subst he;exact⟨rfl,λa h=>by simp[MemAct.ofEvent]at h⟩
 have b0:A.fb<w.heap.size:=by obtain⟨c,e,h1⟩:=d.rR;exact(Array.getElem?_eq_some_iff.1 h1).1
 have bA:=v.bN.Oi p V (λc hc=>(d.FK c hc).1) (by rw[d.la];exact b0) z (λm a hm ha b1 hz=>d.old _ ax m a hm ha b1 hz) d.norel g.frame.fn g.frame.place
 have H:∀l,fI OO Z.lk (A.b+j) A.mb xo l A.fb=none:=λl=>by
  unfold fI
  by_cases e1:l=Z.lk
  . subst e1;rw[ak];rfl
  by_cases e2:l=A.b+j
  . subst e2;rw[ap _ _ e1,ak];simp only[ah.set,A.d5,if_false];exact D _
  . rw[ap _ _ e1,ap _ _ e2];exact D _
 have hP:=bA.token (j:=A.b+j) H (by obtain⟨cc,ee,b2⟩:=d.rR;have hs:=(v.bN.sat (A.b+j)).sh _ _ W;simp only[World.shape?,b2]at hs;refine⟨cc,ee,b2,?_⟩;rw[ad];refine(ag.kv _ _).2 _ _ ?_;rw[W];exact hs.symm) d.dA.2.1
 have hI:bs A.n (s.aD j x s.sh):=d.I.still o R w2 (by rw[U];rfl) (by rw[U,Q];rfl)
 have hL:MS.fh A.n (s.aD j x s.sh) s:=x7 o R w2 ⟨_,_,by rw[U];rfl,by rw[Q];rfl,.single (mO.cJ Y.N Y.h0 Y.ht Y.c r)⟩
 have bB:=d.take (xo:=xo) L o R w2 E (by rw[U];rfl) hI bq
 have c5:Beside (bM P A Fin Z L) s (s.aD j x s.sh) f (bo f (A.b+j) ⟨Y.m,ia kk Z.lk (A.b+j) (A.b+j),ju A Z OO (A.b+j) xo (A.b+j),g1,T⟩) q q kk (ia kk Z.lk (A.b+j)) OO (ju A Z OO (A.b+j) xo) J J w (A.b+j) g g1:=iY L o R w2 (λi K=>ap _ _ K) (λi K=>rfl) (λi K _=>ap _ _ K) (λi K ht=>by unfold ju fI;rw[ap _ _ K,ap _ _ (show i≠Z.lk by omega),ap _ _ K]) (λ_ h=>h) (.inl λh=>h) (λ{i k O y} hA=>B.jX (s:=s) (i:=i) (k:=k) (O:=O) (g:=y) hA)
 refine⟨_,_,al,s.aD j x s.sh,bo f (A.b+j) ⟨Y.m,ia kk Z.lk (A.b+j) (A.b+j),ju A Z OO (A.b+j) xo (A.b+j),g1,T⟩,q,ia kk Z.lk (A.b+j),ju A Z OO (A.b+j) xo,J,M,_,_,_,rfl,hL,?_⟩;refine bg.step B v hg ay hP bB (λl y S hA=>?_) c5 ⟨λ_=>?_,λh=>absurd h (qT o (u _)),λh=>absurd h (iC o (u _)),λh=>absurd (iZ o (u _)) h⟩
 . have c6:l≠A.b+j:=λe=>(v.held l S).2.1 (by rw[e];exact av)
   exact B.qI d S _ _ hA
 . rw[ak]
   refine⟨by show A.b+j<A.b+A.n+1;omega,rfl,?_,rfl,rfl,hr,?_,.inr hJ,λl b X' h3 h4 h5=>?_⟩
   . show Y.m=bm P A Fin (s.aD j x s.sh) (A.b+j)
     rw[lE o (u _)];exact hm
   . rw[Deaf_own,z];rfl
   . obtain rfl:l=j:=by omega
     rw[u]at h5;cases h5;exact hU
end
end Go.bG

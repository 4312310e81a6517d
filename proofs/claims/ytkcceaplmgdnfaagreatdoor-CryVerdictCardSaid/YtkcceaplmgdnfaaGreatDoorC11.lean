import Derived.Conc.CrowdComm
import Derived.Test.YtkcceaplmgdnfaaGreatDoorC10
set_option linter.all false
namespace Go.cG
section
open Go.Conc
open Go.ConcN (sumTo upd sumTo_upd upd_ne upd_same)
structure bH where
 b:Nat
 n:Nat
 cl:Nat
 cF:Nat
 fb:Nat
 fo:Nat
 gb:Nat
 mb:Nat
 GI:gn->Prop
 res:Nat->AV
 val:adA
 nm:zv
 ng:IL
 hb:0<b/\(cl=0\/cl=b+n)
 hn:n<=900
 d1:cF≠fb
 d2:cF≠gb
 d3:cF≠mb
 d4:fb≠gb
 d5:fb≠mb
 d6:gb≠mb
def bH.dir(A:bH):Bool:=A.cl==0
def bH.cell(A:bH)(j:Nat):Nat:=A.fo+2+j
def LP{A:bH}(h:A.dir=true):A.cl=0:=by simpa[bH.dir]using h
def vK{A:bH}(h:A.dir=false):A.cl=A.b+A.n:=by have:=A.hb;simp[bH.dir]at h;omega
def gV:acP:=λ_ _ _=>False
def LQ:Nat->adn:=λ_=>none
def bH.Tk(A:bH)(j:Nat)(f:Nat->adn):Prop:=if A.dir then ∃v,f=λi=>if i=A.cell j then some v else none else f=LQ
def bE(fo:Nat):Nat->adn:=λi=>if i=fo then some (.int .i32 0)else if i=fo+1 then some (.int .u32 0)else none
section
variable(P:adS)(A:bH)(Fin:acP)
def Q4(j:Nat)(k:aj)(O:ak)(g:adF)(N:acP):Prop:=
 ∃ kind c rest e,kind≠.early/\g=G (Frame.enter P A.nm.lock #[.pointer (some ⟨A.fb,A.fo,none⟩)] kind) (c::rest)/\O A.fb=none/\k.sh A.fb=some e/\(A.dir=true->A.cell j<e.2)/\
   ∀b x a f,k.Le b->kK b x a->A.GI a->O A.mb=none->A.Tk j f->N b ((O.set A.mb x).set A.fb (.part f)) (ki kind c rest (.tuple #[]))
def HG(j:Nat)(k:aj)(O:ak)(g:adF)(N:acP):Prop:=
 ∃ kind c rest f x a,kind≠.early/\g=G (Frame.enter P A.nm.unlock #[.pointer (some ⟨A.fb,A.fo,none⟩)] kind) (c::rest)/\O A.fb=some (.part f)/\O A.mb=some x/\kK k x a/\A.GI a/\(A.dir=true->k.cell A.fb (A.cell j)=some (A.val j))/\
   N k ((O.del A.mb).del A.fb) (ki kind c rest (.tuple #[]))
def lh:Mo:=⟨false,false,λk O g N=>N=gV/\∃a fn tmps todo,P.funcs[a]?=some fn/\fn.results=#[]/\g=G (Frame.enter P A.ng.done #[.pointer (some ⟨A.gb,0,none⟩)] .deferred) [kP P a tmps todo,cE P]⟩
def Ff(N:acP):acP:=if A.dir then T P (lh P A) gV else N
def iE(j:Nat):Mo:=⟨false,false,λk O g N=>Q4 P A j k O g N\/HG P A j k O g (Ff P A N)\/(A.dir=false/\N=gV/\O A.fb=none/\∃a z v,(∀w,Sat k O w->stepG P false g w=.comm a #[scase A.cF v z] true .send w #[])/\V k v (A.res j)/\T P (lh P A) gV k O (Go.Conc.served a undef))⟩
def su:Mo:=⟨false,false,λk O g N=>N=gV/\∃a n,mayWake P g=true/\(∀w s r b,Sat k O w->w.heap[A.cF]?=some (.chan 0 #[] false s r b)->stepG P false g w=.go a {w with heap:=w.heap.setIfInBounds A.cF (.chan 0 #[] true s r b)} #[⟨.obj A.cF,false,true⟩,⟨.obj A.cF,true,true⟩])/\QuitsD P n 0 a⟩
def xV:Mo:=⟨false,false,λk O g N=>N=gV/\∃c rest,g=G (Frame.enter P A.ng.wait #[.pointer (some ⟨A.gb,0,none⟩)] .normal) (c::rest)/\∀a,k.Le a->T P (su P A) gV a O (ki .normal c rest (.tuple #[]))⟩
def UO(k:aj)(O:ak)(c:Frame)(rest:adt):Prop:=(∃e,k.sh A.fb=some e)/\∀b x a,k.Le b->(∀j,j<A.n->b.cell A.fb (A.cell j)=some (A.val j))->kK b x a->A.GI a->Fin b ((O.set A.mb x).set A.fb (.part (bE A.fo))) (ki .normal c rest (.tuple #[]))
def dM(k:aj)(O:ak)(g a:adF)(z:Value):Prop:=∀w,Sat k O w->stepG P true g w=.comm a #[rcase A.cF z] true (.recv true) w #[]
def rS:Nat->adH->Mo
 | 0,R=>⟨true,false,λk O g N=>N=gV/\∃b z,dM P A k O g b z/\dM P A k O b b z/\b.status=.running/\(∃e,k.sh A.fb=some e)/\
    ∀c x a,k.Le c->kK c x a->A.GI a->Fin c ((O.set A.mb x).set A.fb (.part (bE A.fo))) (Go.Conc.served b (.tuple #[z,.bool false]))⟩
 | m + 1,R=>⟨true,false,λk O g N=>N=gV/\∃b z,dM P A k O g b z/\dM P A k O b b z/\b.status=.running/\
     ∀j∈R,∀c v,k.Le c->V c v (A.res j)->T P (rS m (R.erase j)) gV c O (Go.Conc.served b (.tuple #[v,.bool true]))⟩
def pH:Nat->Mo
 |0=>if A.dir then⟨true,false,λk O g N=>N=gV/\∃c rest,g=G (Frame.enter P A.ng.wait #[.pointer (some ⟨A.gb,0,none⟩)] .normal) (c::rest)/\UO A Fin k O c rest⟩else⟨true,false,λk O g N=>N=gV/\∃a child,(∀w,Sat k O w->stepG P true g w=.spawn a child w #[])/\T P (xV P A) gV k ak.bot child/\T P (rS P A Fin A.n (List.range A.n)) gV k O a⟩
 | m + 1=>⟨true,false,λk O g N=>N=gV/\∃c rest,g=G (Frame.enter P A.ng.add #[.pointer (some ⟨A.gb,0,none⟩),.int .i64 1] .normal) (c::rest)/\
     T P ⟨true,false,λk O g N=>N=gV/\∃a child,(∀w,Sat k O w->stepG P true g w=.spawn a child w #[])/\T P (iE P A (A.n-(m+1))) gV k ak.bot child/\T P (pH m) gV k O a⟩ gV k O (ki .normal c rest (.tuple #[]))⟩
def FN(m:Nat):Mo:=⟨true,false,λk O g N=>N=gV/\∃a child,(∀w,Sat k O w->stepG P true g w=.spawn a child w #[])/\T P (iE P A (A.n-(m+1))) gV k ak.bot child/\T P (pH P A Fin m) gV k O a⟩
structure wA where
 m:Mo
 k:aj
 O:ak
 g:adF
 N:acP
 h0:g.status=.running
 ht:m.dh k O g N
 c:∀k' O' g',N k' O' g'->TT P m k' O' g'
variable {P} in
def wA.node(y:wA P):Node P:=⟨y.m,y.k,y.O,y.g,.dh y.N y.h0 y.ht y.c⟩
inductive bn where
 |idle
 |run (h:Bool) (X:Node P)
 |lk (p:tj) (Y:wA P)
 |un (p:tj) (Y:wA P)
 |wait
 |zg
 |dn (p:wP)
 |gone
inductive jB where
 |none|eC|wt (p:wP)|jC|gone
inductive oQ where
 |add (j:Nat)|bz (j:Nat) (p:wP)|spawn (j:Nat)|recv|parked|off
structure MS where
 d:Bool
 ms:oQ
 sp:Nat
 w:Nat->bn P
 c:jB
 sh:Mu.Sh
 gc:Nat
 gv:Nat
 gm:Nat
def tj.abs:tj->Mu.Pc
 |.ld=>.out|.iC=>.iC|.rd l=>.rd l|.sq o l=>.sq o l|.sw o l=>.sw o l|.kJ o l=>.kJ o l|.t1 sv=>.gN sv|.gN sv=>.gN sv|.tq=>.tq|.up sv=>.up sv|.add o sv=>.add o sv
 |.le=>.held|.la=>.held|.back=>.held|.Ht=>.held|.ur=>.held|.ud=>.held|.held=>.held|.jq o=>.jq o|.wq=>.wq|.give=>.give|.ue=>.out|.Dj=>.out
variable{P}
def bn.pc:bn P->Mu.Pc
 |.run true _=>.held
 |.lk p _=>p.abs
 |.un p _=>p.abs
 |_=>.out
def bn.owns:bn P->Bool
 |.run h _=>h
 |.un .Ht _=>true
 |.un .ur _=>true
 |_=>false
def Dl:tj->Bool
 |.ld=>true|.iC=>true|.rd _=>true|.sq ..=>true|.sw ..=>true|.kJ ..=>true|.t1 _=>true|.gN _=>true|.tq=>true|.up _=>true|.add ..=>true|.le=>true|.la=>true
 |_=>false
def zz:tj->Bool
 |.Ht=>true|.ur=>true|.ud=>true|.held=>true|.jq _=>true|.wq=>true|.give=>true|.ue=>true
 |_=>false
def bn.deaf:bn P->Nat
 |.lk .ld _=>0|.lk .la _=>0|.lk _ _=>1
 |.un .Ht _=>0|.un .ur _=>0|.un .ud _=>0|.un _ _=>1
 |.dn .d1=>0|.dn .d2=>0|.dn _=>1
 |_=>0
def tw:wP->Nat
 |.a0=>0|.a2=>1|.a4=>1|.ae=>1
 |.w0=>0|.w1=>1|.we=>1|.wa=>0|.w2 _=>1|.w3=>1|.w4=>1|.w5=>1
 |_=>0
def bn.cx:bn P->Nat
 |.idle=>0|.run ..=>20|.lk ..=>20|.un ..=>20|.wait=>19|.zg=>18
 |.dn .d1=>12|.dn .d2=>11|.dn .d4=>10|.dn .d5=>4|.dn .d6=>3|.dn _=>2|.gone=>0
def jB.cx(gc:Nat):jB->Nat
 |.none=>0|.eC=>14
 |.wt .w0=>13|.wt .w1=>10|.wt (.w2 k)=>if gc=k then 9 else 11|.wt .w3=>8|.wt .w4=>7|.wt .w5=>6|.wt .we=>5|.wt _=>4
 |.jC=>3|.gone=>0
def oQ.cx:oQ->Nat
 |.add j=>40*j+200|.bz j .a0=>40*j+199|.bz j .a2=>40*j+198|.bz j .a4=>40*j+197|.bz j _=>40*j+196
 |.spawn j=>40*j+225|.recv=>100|.parked=>99|.off=>0
def MS.cx(n:Nat)(s:MS P):Nat:=s.ms.cx+sumTo n (λj=>(s.w j).cx)+s.c.cx s.gc
def BU(n:Nat):Nat:=4*(6*(18*n+1)+16)+20
def bn.ex(n:Nat):bn P->Nat
 |.run ..=>2*BU n|.lk .ld _=>BU n|.lk (.t1 _) _=>1|.lk .le _=>2|.lk .la _=>1
 |.un .Ht _=>5|.un .ur _=>4|.un .ud _=>3|.un .ue _=>1|_=>0
def MS.inner(n:Nat)(s:MS P):Nat:=4*Mu.meas n (λj=>(s.w j).pc) s.sh+sumTo n (λj=>(s.w j).ex n)
def bn.nd:bn P->Option (Node P)
 |.run _ X=>some X|.lk _ Y=>some Y.node|.un _ Y=>some Y.node|_=>none
end
def IP{P:adS}(a b:Option (Node P)):Prop:=∃x y,a=some x/\b=some y/\Relation.TransGen pN x y
def LR{P:adS}:∀a:Option (Node P),Acc IP a:=by
 have key:∀x:Node P,Acc (Relation.TransGen pN) x->Acc IP (some x):=by
  intro x b;induction b with
  |intro x _ c=>exact⟨_,λy ⟨u,v,d,f,h⟩=>by simp_all⟩
 intro a;cases a with
 |none=>exact⟨_,λy ⟨u,v,_,e,_⟩=>by cases e⟩
 |some x=>exact key x ((WellFounded.intro Dd).transGen.apply x)
def LS{α:Type}(R:α->α->Prop)(n:Nat)(f' f:Nat->α):Prop:=∃i,i<n/\(∀j,j≠i->f' j=f j)/\R (f' i) (f i)
def Dm{α:Type}{R:α->α->Prop}(d:∀a,Acc R a):∀(n:Nat) (f:Nat->α),Acc (LS R n) f
 |0,f=>⟨_,λy ⟨i,e,_⟩=>by omega⟩
 | n + 1,f=>by
   have key:∀x:α,Acc R x->∀f:Nat->α,f n=x->Acc (LS R (n+1)) f:=by
    intro x g;induction g with
    | intro x _ h=>
      intro f m;have j:=Dm d n f;induction j with
      | intro f _ b=>
        refine⟨_,λf' ⟨i,e,c,k⟩=>?_⟩;by_cases l:i=n
        . grind
        . exact b f' ⟨i,by omega,c,k⟩ (by grind)
   simp_all
def MS.gq{P:adS}(n:Nat)(s' s:MS P):Prop:=s'.cx n<s.cx n\/(s'.cx n=s.cx n/\(LS IP n (λj=>(s'.w j).nd) (λj=>(s.w j).nd)\/((λj=>(s'.w j).nd)=(λj=>(s.w j).nd)/\s'.inner n<s.inner n)))
def Pz{P:adS}(n:Nat):WellFounded (MS.gq (P:=P) n):=by
 have c:WellFounded (LS (IP (P:=P)) n):=⟨Dm LR n⟩;have d:=(Prod.lex ⟨Nat.lt,Nat.lt_wfRel.wf⟩ (Prod.lex ⟨LS (IP (P:=P)) n,c⟩ ⟨Nat.lt,Nat.lt_wfRel.wf⟩)).wf;refine Subrelation.wf (r:=InvImage _ (λs:MS P=>(s.cx n,(λj=>(s.w j).nd),s.inner n))) ?_ (InvImage.wf _ d);intro s' s h;rcases h with h|⟨h,b|⟨b,a⟩⟩
 . exact Prod.Lex.left _ _ h
 . show Prod.Lex _ _ (_,_) (_,_)
   grind
 . show Prod.Lex _ _ (_,_) (_,_)
   rw[h,b];exact Prod.Lex.right _ (Prod.Lex.right _ a)
section
variable{P:adS}
def bn.iP:bn P->Bool
 |.zg=>true|.dn _=>true|.gone=>true|_=>false
def bn.iF:bn P->Bool
 |.idle=>false|.run h _=>h|.lk ..=>false|_=>true
def bn.rel(x:bn P):Bool:=x.iF && !x.owns
def bn.cnt:bn P->Nat
 |.run ..=>1|.lk ..=>1|.un ..=>1|.wait=>1|.zg=>1|.dn .d1=>1|.dn .d2=>1|.dn .d4=>1|_=>0
def bn.busy:bn P->Bool
 |.run ..=>true|.lk ..=>true|.un ..=>true|.wait=>true|.zg=>true|.dn .d1=>true|_=>false
def bn.last:bn P->Bool
 |.dn .d5=>true|.dn .d6=>true|.dn .d7=>true|_=>false
def bn.jD:bn P->Bool
 |.idle=>true|_=>false
def bn.ok:bn P->Bool
 |.lk p _=>Dl p
 |.un p _=>zz p
 |.dn p=>(match p with|.d1=>true|.d2=>true|.d4=>true|.d5=>true|.d6=>true|.d7=>true|_=>false)
 |_=>true
def jB.busy:jB->Bool
 |.eC=>true|.wt _=>true|.jC=>true|_=>false
def jB.ok:jB->Bool
 |.wt p=>(match p with|.w0=>true|.w1=>true|.w2 _=>true|.w3=>true|.w4=>true|.w5=>true|.we=>true|.wa=>true|_=>false)
 |_=>true
def jB.waits:jB->Bool
 |.wt .w3=>true|.wt .w4=>true|_=>false
def jB.LU:jB->Bool
 |.wt .w5=>true|.wt .we=>true|.wt .wa=>true|.jC=>true|.gone=>true|_=>false
def jB.isNone:jB->Bool
 |.none=>true|_=>false
def jB.eG:jB->Bool
 |.gone=>true|_=>false
def oQ.pend:oQ->Nat
 |.bz _ .a4=>1|.bz _ .ae=>1|.spawn _=>1|_=>0
structure bO(n:Nat)(s:MS P):Prop where
 g1:s.gc=sumTo n (λj=>(s.w j).cnt)+s.ms.pend
 g2:s.gv<=1
 FO:s.gv=1->s.c.waits=true/\s.gm=0
 g3:∀j,j<n->(s.w j=.dn .d5\/s.w j=.dn .d6)->s.gv=1/\s.gc=0
 HH:∀i j,i<n->j<n->(s.w i).last=true->(s.w j).last=true->i=j
 g4:∀j,j<n->s.w j=.dn .d7->s.gv=0/\s.gc=0/\s.gm=0/\s.c.waits=true
 g5:s.gm<=1/\(s.gm=1->s.c.waits=true/\s.gv=0/\s.gc=0/\∀j,j<n->(s.w j).last=false)
 g6:s.c.waits=true->s.gv=0->s.gm=0->∃j,j<n/\s.w j=.dn .d7
 g7:s.gv=1->s.gc=0->∃j,j<n/\(s.w j=.dn .d5\/s.w j=.dn .d6)
 g8:s.c.LU=true->s.gc=0/\s.gv=0/\s.gm=0/\∀j,j<n->s.w j=.gone
 g9:∀k,s.c=.wt (.w2 k)->k≠0
 ok:∀j,j<n->(s.w j).ok=true
 TB:s.c.ok=true
 sp:s.sp<=n
 idle:∀j,j<n->((s.w j).jD=true↔s.sp<=j)
 ms:match s.ms with
  |.add j=>s.sp+j=n/\s.c=.none
  |.bz j p=>s.sp+j=n/\s.c=.none/\1<=j/\(p=.a0\/p=.a2\/p=.a4\/p=.ae)
  |.spawn j=>s.sp+j+1=n/\s.c=.none
  |.recv=>s.sp=n/\s.c≠.none
  |.parked=>s.sp=n/\s.c≠.none/\s.c≠.gone/\∀j,j<n->s.w j≠.wait
  |.off=>s.sp=n/\s.c≠.none
 early:s.d=false->s.c=.none->∀j,j<n->(s.w j).iP=false
 mu:Mu.Inv n (λj=>(s.w j).pc) s.sh
end
variable(P:adS)(A:bH)(Fin:acP)
def MS.rem(n:Nat)(s:MS P):adH:=(List.range n).filter λj=>!(s.w j).iP
def dE(s:MS P)(i:Nat):Prop:=(i=0/\(match s.ms with|.add _=>True|.spawn _=>True|.recv=>True|_=>False))\/(∃j,j<A.n/\i=A.b+j/\(match s.w j with|.run ..=>True|.zg=>True|_=>False))\/(i=A.cl/\(match s.c with|.eC=>True|.jC=>True|_=>False))
def gK(s:MS P)(i:Nat):Prop:=(i=0/\(match s.ms with|.bz ..=>True|_=>False))\/(∃j,j<A.n/\i=A.b+j/\(match s.w j with|.lk ..=>True|.un ..=>True|.dn _=>True|_=>False))\/(i=A.cl/\(match s.c with|.wt _=>True|_=>False))
def fD(s:MS P)(i:Nat):Prop:=(i=0/\s.ms=.parked)\/(∃j,j<A.n/\i=A.b+j/\s.w j=.wait)
def cq(s:MS P)(i:Nat):Mo:=
 if i=0 then(match s.ms with|.add j=>pH P A Fin j|.spawn j=>FN P A Fin j|_=>rS P A Fin (MS.rem P A.n s).length (MS.rem P A.n s))
 else if i<A.b+A.n then(match s.w (i-A.b)with|.run ..=>iE P A (i-A.b)|_=>lh P A)else(match s.c with|.eC=>xV P A|_=>su P A)
def FP(s:MS P)(i:Nat):(cq P A Fin s i).main=(i==0):=by
 have c:∀m R,(rS P A Fin m R).main=true:=λm R=>by cases m<;>rfl
 have b:∀m,(pH P A Fin m).main=true:=λm=>by
  cases m with
  |zero=>unfold pH;grind
  |succ m=>rfl
 unfold cq;by_cases a:i=0
 . subst a
   simp only[aaA,beq_self_eq_true];split
   . exact b _
   . rfl
   simp_all
 . have:(i==0)=false:=by simp_all
   rw[aay a,this];split
   . split<;>rfl
   . split<;>rfl
def HI(j:Nat)(x:bn P)(k:aj)(O:ak)(g:adF):Prop:=
 match x with
 |.lk p Y=>∃kind c rest e,kind≠.early/\oy P A.nm A.fb A.fo kind p (c::rest) g/\Y.m=iE P A j/\O A.fb=none/\k.sh A.fb=some e/\(A.dir=true->A.cell j<e.2)/\∀b x a f,k.Le b->kK b x a->A.GI a->O A.mb=none->A.Tk j f->Y.N b ((O.set A.mb x).set A.fb (.part f)) (ki kind c rest (.tuple #[]))
 | .un p Y=>∃kind c rest,kind≠.early/\oy P A.nm A.fb A.fo kind p (c::rest) g/\Y.m=iE P A j/\
    ((p=.Ht\/p=.ur)->∃f x a,O A.fb=some (.part f)/\O A.mb=some x/\kK k x a/\A.GI a/\(A.dir=true->k.cell A.fb (A.cell j)=some (A.val j))/\Ff P A Y.N k ((O.del A.mb).del A.fb) (ki kind c rest (.tuple #[])))/\
    (¬(p=.Ht\/p=.ur)->Ff P A Y.N k O (ki kind c rest (.tuple #[])))
 |.dn p=>∃d fn tmps todo,P.funcs[d]?=some fn/\fn.results=#[]/\rQ P A.ng A.gb .deferred p [kP P d tmps todo,cE P] g
 |_=>False
def TC(x:jB)(k:aj)(O:ak)(g:adF):Prop:=
 match x with
 |.wt p=>∃c rest,rQ P A.ng A.gb .normal p (c::rest) g/\if A.dir then UO A Fin k O c rest else ∀a,k.Le a->T P (su P A) gV a O (ki .normal c rest (.tuple #[]))
 |_=>False
def Wi(x:oQ)(k:aj)(O:ak)(g:adF):Prop:=
 match x with
 |.bz j p=>∃c rest,rQ P A.ng A.gb .normal p (c::rest) g/\T P (FN P A Fin (j-1)) gV k O (ki .normal c rest (.tuple #[]))
 |_=>False
def UQ(s:MS P)(i:Nat)(k:aj)(O:ak)(g:adF):Prop:=(i=0/\Wi P A Fin s.ms k O g)\/(∃j,j<A.n/\i=A.b+j/\HI P A j (s.w j) k O g)\/(i=A.cl/\TC P A Fin s.c k O g)
def R2(s:MS P)(i:Nat):Prop:=(∃j sv Y,j<A.n/\i=A.b+j/\s.w j=.lk (.gN sv) Y/\s.sh.ms=0)\/(i=A.cl/\s.c=.wt .w4/\s.gm=0)
def Xi(s:MS P)(i:Nat)(k:aj)(O:ak)(g:adF):Prop:=
 (i=0/\∃a z,g=parked a #[rcase A.cF z] (.recv true)/\dM P A k O a a z/\a.status=.running/\(rS P A Fin (MS.rem P A.n s).length (MS.rem P A.n s)).dh k O a gV)\/
 (∃j,j<A.n/\i=A.b+j/\∃a z v,g=parked a #[scase A.cF v z] .send/\V k v (A.res j)/\O A.fb=none/\T P (lh P A) gV k O (Go.Conc.served a undef)/\A.dir=false)
def dN(s:MS P)(i:Nat):Nat:=
 if i=0 then(match s.ms with|.bz _ p=>tw p|.off=>(match s.c with|.wt p=>tw p|_=>0)|_=>0)
 else if i<A.b+A.n then(s.w (i-A.b)).deaf else(match s.c with|.wt p=>tw p|_=>0)
def ln(w:World):Prop:=(∃v,w.cell? ⟨A.gb,0,none⟩=some v)/\(∃v,w.cell? ⟨A.gb,1,none⟩=some v)/\∃v,w.cell? ⟨A.fb,A.fo,none⟩=some v
def zh(A:bH):Loc->Prop
 |.cell a=>a.spot=none/\((a.block=A.fb/\(a.off=A.fo\/a.off=A.fo+1))\/(a.block=A.gb/\(a.off=0\/a.off=1)))
 |.obj r=>r=A.cF/\A.dir=false
 |_=>False
def dZ(s:MS P)(i:Nat):Prop:=(∃j,j<A.n/\i=A.b+j/\(s.w j).busy=true)\/(i=A.cl/\s.c.busy=true)
def bS(s:MS P)(i:Nat):Prop:=i=0\/(∃j,j<s.sp/\i=A.b+j)\/(i=A.cl/\s.c≠.none)
abbrev wB(s:MS P):Prop:=(A.dir=true->s.c≠.none->s.ms=.off)/\(A.dir=true->s.ms≠.recv/\s.ms≠.parked/\s.c≠.eC/\s.c≠.jC/\s.c≠.gone)/\(A.dir=false->s.ms≠.off)
structure de(Z:Base)(s:MS P)(kk:adN)(OO:adM)(J M:adC)(gsz:Nat)(w:World)(t:Trace):Prop where
 I:bO A.n s
 size:gsz=A.b+s.sp+(if s.c.isNone||A.dir then 0 else 1)
 dd:s.d=A.dir
 off:wB P A s
 zi:A.dir=true->∀j,j<A.n->((s.w j).iF=false->(∀i,(kk i).cell A.fb (A.cell j)=none)/\∀m a ad,touchAt t m=some a->a.loc=.cell ad->ad.block=A.fb/\ad.off=A.cell j->m<Z.N0)/\((s.w j).rel=true->(kk (A.b+j)).cell A.fb (A.cell j)=some (A.val j))
 Ao:A.dir=false->∃x tm,w.heap[A.cF]?=some (.chan 0 #[] s.c.eG x x tm)
 mu:ShM A.fb A.fo w s.sh
 gr:rP A.gb w s.gc s.gv s.gm
 vL:∃c e,w.heap[A.fb]?=some (.cells c e (0,0))
 zB:∃c e,w.heap[A.gb]?=some (.cells c e (0,0))
 gL:∀i,(A.dir=false->OO i A.cF=none)/\OO i A.gb=none
 eD:∀i,(kk i).cell A.fb A.fo=none/\(kk i).cell A.fb (A.fo+1)=none/\(kk i).cell A.gb 0=none/\(kk i).cell A.gb 1=none
 tok:∀i x,OO i A.fb=some x->∃j f,j<A.n/\i=A.b+j/\(s.w j).owns=true/\x=.part f/\∀l,f l≠none->A.dir=true/\l=A.cell j
 zC:∀j,j<A.n->(s.w j).owns=true->OO (A.b+j) A.fb≠none
 OY:(∀j,j<A.n->(s.w j).owns=false)->∃x a,OO Z.lk A.mb=some x/\kK (kk Z.lk) x a/\A.GI a
 OZ:∀c,OO Z.lk c≠none->c=A.mb/\∀j,j<A.n->(s.w j).owns=false
 hJ:∀i,J i↔dZ P A s i
 hM:∀p,M p->t.heard p/\Z.N0<=p/\((t.act? p=some (.mark (.releaseMerge ⟨A.gb,0,none⟩))/\(s.c=.none\/s.c=.eC\/∃q,s.c=.wt q))\/(s.c=.gone/\t.act? p=some (.close A.cF)))
 shut:s.c=.gone->∃p,M p/\t.act? p=some (.close A.cF)/\t.heard p
 quiet:∀m a,touchAt t m=some a->zh A a.loc->a.kind=.plain->∀i,bS P A s i->Knows t i m
 said:∀m a,touchAt t m=some a->zh A a.loc->a.kind=.said->Knows t (if s.c.isNone then 0 else A.cl) m
 old:∀i,bS P A s i->∀m a,m<Z.N0->touchAt t m=some a->a.loc.isMemory=true -> ¬Z.Shun a.loc->Knows t i m
 norel:∀m a,Z.N0<=m->t.act? m≠some (.mark (.release a))
 Dp:∀i,i≠Z.lk -> ¬bS P A s i->kk i=aj.bot/\OO i=ak.bot
 te:∀a,zh A a->(∃c,a=.cell c/\c.block=A.gb)->Z.Shun a
 jZ:∀c:Addr,c.block=A.fb/\(c.off=A.fo\/c.off=A.fo+1\/(A.dir=true/\∃j,j<A.n/\c.off=A.cell j)) -> ¬Z.Shun (.cell c)
 fq:(A.dir=false->Z.W0.heap.size<=A.cF)/\Z.W0.heap.size<=A.fb/\Z.W0.heap.size<=A.gb
 la:Z.la=⟨A.fb,A.fo,none⟩
 n0:Z.N0<=t.size
def Node.R3{P:adS}:Node P->Prop
 |⟨_,_,_,_,.dh ..⟩=>True
 |_=>False
def vM{P:adS}(x X:Node P):Prop:=∀y,(y=x\/Relation.TransGen pN y x)->y.R3->(y=X\/Relation.TransGen pN y X)
def vM.sub{P:adS}{x y X:Node P}(h:vM x X)(a:pN y x):vM y X:=λz b c=>h z (b.elim (λe=>.inr (by rw[e];exact .single a)) (λe=>.inr (e.tail a))) c
def vM.refl{P:adS}(X:Node P):vM X X:=λy a _=>a
def PA(s:MS P)(i:Nat)(x:Node P):Prop:=∀j h X,j<A.n->i=A.b+j->s.w j=.run h X->vM x X
def bX(Z:Base)(a:A.b+A.n+1<=Z.lk):rN P where
 S:=MS P
 r:=MS.gq A.n
 wf:=Pz A.n
 mo:=cq P A Fin
 main:=FP P A Fin
 top:=A.b+A.n+1
 lk:=Z.lk
 Ul:=a
 Live:=dE P A
 Walk:=gK P A
 At:=UQ P A Fin
 Ah:=R2 P A
 oI:=fD P A
 FC:=Xi P A Fin
 deaf:=dN P A
 Wd:=ln A
 Ex:=de P A Z
 Pl:=PA P A
 tie:=λs i x y hs h j b X c d e=>(h j b X c d e).sub hs
end
section
open Go.Conc
open Go.ConcN (sumTo upd sumTo_upd upd_ne upd_same)
def xW{t:Trace}(u:Trace){p:Nat}{x:MemAct}(h:t.act? p=some x)(b:t.heard p):(t++u).act? p=some x/\(t++u).heard p:=by have a:=lt_of_act? h;exact⟨by rw[act?_old a];exact h,(heard_old a).2 b⟩
structure Dq(b o:Nat)(w w':World):Prop where
 cell:∀l,l=o\/l=o+1->w'.cell? ⟨b,l,none⟩=w.cell? ⟨b,l,none⟩
 fz:∀l,w'.frozen? ⟨b,l,none⟩=w.frozen? ⟨b,l,none⟩
def Dq.of_heap{b o:Nat}{w w':World}(h:w'.heap[b]?=w.heap[b]?):Dq b o w w':=⟨λl _=>by simp only[World.cell?,h],λl=>by simp only[World.frozen?,h]⟩
def ShM.same{b o:Nat}{w w':World}{s:Mu.Sh}(h:ShM b o w s)(e:Dq b o w w'):ShM b o w' s:=⟨by rw[e.cell _ (.inl rfl)];exact h.cw,by rw[e.cell _ (.inr rfl)];exact h.cs,λi=>by rw[e.fz];exact h.fz i⟩
def rP.same{b:Nat}{w w':World}{c v m:Nat}(h:rP b w c v m)(e:Dq b 0 w w'):rP b w' c v m:=⟨by rw[e.cell _ (.inl rfl)];exact h.cw,by rw[e.cell _ (.inr rfl)];exact h.cs,λi=>by rw[e.fz];exact h.fz i⟩
def dV{t u:Trace}{m:Nat}{a:Touch}(h:touchAt (t++u) m=some a):(touchAt t m=some a/\m<t.size)\/∃op∈u,op.act.touch?=some a:=by
 obtain⟨x,d,b⟩:=touch_of h;rcases getElem?_append_cases d with⟨e,c⟩|⟨_,f⟩
 . exact .inl ⟨by rw[touchAt_of c];exact b,e⟩
 grind
def qX{t u:Trace}{m:Nat}{x:MemAct}(h:(t++u).act? m=some x):(t.act? m=some x/\m<t.size)\/∃op∈u,op.act=x:=by
 unfold Trace.act? at h;obtain⟨y,b,rfl⟩:=aaH.1 h;rcases getElem?_append_cases b with⟨c,a⟩|⟨_,d⟩
 . exact .inl ⟨by simp[Trace.act?,a],c⟩
 grind
section
variable{P:adS}{A:bH}{Fin:acP}{Z:Base}{s:MS P}{kk kk':adN}{OO OO':adM}{J M:adC}{gsz:Nat}{w w':World}{t:Trace}
def de.kr(h:de P A Z s kk OO J M gsz w t)(u:Trace)(j:∀op∈u,∀a,op.act.touch?=some a->zh A a.loc->a.kind≠.plain):∀m a,touchAt (t++u) m=some a->zh A a.loc->a.kind=.plain->∀i,bS P A s i->Knows (t++u) i m:=λm a c d e i f=>by
 rcases dV c with⟨b,_⟩|⟨op,g,b⟩
 . exact(h.quiet m a b d e i f).app u
 grind
def de.oR(h:de P A Z s kk OO J M gsz w t)(u:Trace)(i:∀op∈u,∀a,op.act.touch?=some a->zh A a.loc->a.kind≠.said):∀m a,touchAt (t++u) m=some a->zh A a.loc->a.kind=.said->Knows (t++u) (if s.c.isNone then 0 else A.cl) m:=λm a d e f=>by
 rcases dV d with⟨b,_⟩|⟨op,g,b⟩
 . exact(h.said m a b e f).app u
 grind
def de.qk(h:de P A Z s kk OO J M gsz w t)(u:Trace):∀i,bS P A s i->∀m a,m<Z.N0->touchAt (t++u) m=some a->a.loc.isMemory=true -> ¬Z.Shun a.loc->Knows (t++u) i m:=λi g m a e j b k=>by
 have c:m<t.size:=aaU e h.n0
 have l:touchAt t m=some a:=by obtain⟨x,f,d⟩:=touch_of j;rw[acx c]at f;rw[touchAt_of f];exact d
 exact(h.old i g m a e l b k).app u
def de.jE(h:de P A Z s kk OO J M gsz w t)(u:Trace)(f:∀op∈u,∀a,op.act≠.mark (.release a)):∀m a,Z.N0<=m->(t++u).act? m≠some (.mark (.release a)):=λm a c e=>by
 rcases qX e with⟨b,_⟩|⟨op,d,b⟩
 . exact h.norel m a c b
 simp_all
def de.vN(h:de P A Z s kk OO J M gsz w t)(u:Trace):∀p,M p->(t++u).heard p/\Z.N0<=p/\(((t++u).act? p=some (.mark (.releaseMerge ⟨A.gb,0,none⟩))/\(s.c=.none\/s.c=.eC\/∃q,s.c=.wt q))\/(s.c=.gone/\(t++u).act? p=some (.close A.cF))):=λp e=>by
 obtain⟨b,i,a⟩:=h.hM p e;rcases a with⟨a,d⟩|⟨a,d⟩
 . obtain⟨f,g⟩:=xW u a b
   simp_all
 . obtain⟨f,g⟩:=xW u d b
   simp_all
def de.mR(h:de P A Z s kk OO J M gsz w t)(u:Trace):s.c=.gone->∃p,M p/\(t++u).act? p=some (.close A.cF)/\(t++u).heard p:=λa=>by
 obtain⟨p,e,b,d⟩:=h.shut a;obtain⟨f,g⟩:=xW u b d
 grind
def FQ(I:bO A.n s){i:Nat}(d:dE P A s i):bS P A s i:=by
 rcases d with⟨h,_⟩|⟨j,b,c,f⟩|⟨b,c⟩
 . exact .inl h
 . refine .inr (.inl ⟨j,?_,c⟩)
   have a:=I.idle j b;cases e:s.w j with
   |idle=>simp_all
   |_=>rw[e]at a;simp[bn.jD]at a;omega
 . refine .inr (.inr ⟨b,λe=>?_⟩)
   simp_all
def LV{i:Nat}(a:dE P A s i):i<A.b+A.n+1:=by
 have:=A.hb;rcases a with⟨h,_⟩|⟨j,c,d,e⟩|⟨c,d⟩<;>omega
def de.PB(h:de P A Z s kk OO J M gsz w t){i l:Nat}(a:aV (OO i) A.fb l):A.dir=true/\∃j,j<A.n/\(i=A.b+j/\(s.w j).owns=true)/\l=A.cell j:=by
 obtain⟨x,c⟩:=a.own;obtain⟨j,f,d,e,k,rfl,p⟩:=h.tok i x c;rcases a with⟨o,q⟩|⟨m,q,_⟩|⟨g,q,r⟩
 . simp_all
 . simp_all
 . rw[c]at q;cases q;grind
def Ap{x:bn P}(h:x.owns=true):x.iF=true:=by cases x<;>simp_all [bn.owns,bn.iF]
def zE(h:de P A Z s kk OO J M gsz w t){i:Nat}{e:Event}(n:jm (kk i) (OO i) w.heap.size e){a:Touch}(p:(MemAct.ofEvent e).touch?=some a):¬zh A a.loc:=λb=>by
 have q:A.fb<w.heap.size:=by obtain⟨c,e,k⟩:=h.vL;grind
 have u:A.gb<w.heap.size:=by obtain⟨c,e,k⟩:=h.zB;grind
 have g:∀l,(l=A.fo\/l=A.fo+1) -> ¬aV (OO i) A.fb l:=λl f m=>by obtain⟨_,_,_,_,e⟩:=h.PB m;unfold bH.cell at e;omega
 have j:∀l,¬aV (OO i) A.gb l:=λl=>dY (h.gL i).2
 obtain⟨v,y,z,B⟩:=h.eD i
 rcases kg n p with⟨C,f,m⟩|⟨r,f,d⟩
 . rw[f]at b
   obtain⟨_,b⟩:=b
   grind
 . rw[f]at b
   obtain⟨b,hd⟩:r=A.cF/\A.dir=false:=b;subst b
   rcases d with⟨o,d⟩|d
   . rw[(h.gL i).1 hd]at d;cases d
   . obtain⟨x,D,k⟩:=h.Ao hd
     simp_all
def zF{k:aj}{O:ak}{B:Nat}{e:Event}(b:jm k O B e)(a:Addr):MemAct.ofEvent e≠.mark (.release a):=by
 obtain⟨loc,wr,c⟩:=e;cases loc with
 |mark m=>simp only[jm]at b;cases m<;>simp_all [j9,nk,MemAct.ofEvent]
 |cell d=>simp[MemAct.ofEvent]
 |obj r=>cases wr<;>cases c<;>simp[MemAct.ofEvent]
 |_=>simp[jm]at b
def de.own(h:de P A Z s kk OO J M gsz w t)(hZ:A.b+A.n+1<=Z.lk){i:Nat}(V:dE P A s i){k':aj}{O':ak}{es:adz}(D:Eff (kk i) (OO i) w k' O' w' es)(u:Trace)
 (H:∀op∈u,∃e,jm (kk i) (OO i) w.heap.size e/\op.act=.ofEvent e):de P A Z s (bR kk i k') (bR OO i O') J M gsz w' (t++u):=by
 have K:i≠Z.lk:=by have:=LV V;omega
 have Q:=FQ h.I V;have W:A.fb<w.heap.size:=by obtain⟨c,e,d⟩:=h.vL;grind
 have X:A.gb<w.heap.size:=by obtain⟨c,e,d⟩:=h.zB;grind
 have hC:A.dir=false->A.cF<w.heap.size:=λhd=>by obtain⟨x,tm,d⟩:=h.Ao hd;grind
 have R:=D.keep A.gb X (h.gL i).2
 have S:Dq A.fb A.fo w w'/\∃c e,w'.heap[A.fb]?=some (.cells c e (0,0)):=by
  cases q:OO i A.fb with
  |none=>have:=D.keep A.fb W q;exact⟨.of_heap this,by rw[this];exact h.vL⟩
  | some x=>
    obtain⟨j,f,_,_,_,rfl,hf⟩:=h.tok i x q;obtain⟨c,e,d⟩:=h.vL;obtain⟨c',N,h3,h4⟩:=D.part A.fb f W q c e d;refine⟨⟨λl V=>?_,λl=>?_⟩,c',e,N⟩
    . simp only[World.cell?,d,N];rw[h4 l (abk λhh=>by have:=(hf l hh).2;unfold bH.cell at this;omega)]
    . simp only[World.frozen?,d,N]
 have p:∀c,c<w.heap.size->OO i c=none->O' c=none:=λc hc hn=>by
  cases q:O' c with
  |none=>rfl
  | some x=>
    rcases D.own c x q with⟨y,hy,_⟩|hy
    . simp_all
    . omega
 have z:∀l,(l=A.fo\/l=A.fo+1) -> ¬aV (OO i) A.fb l:=λl V hc=>by obtain⟨_,_,_,_,e⟩:=h.PB hc;unfold bH.cell at e;omega
 have a7:∀l,l<A.n->(s.w l).iF=false -> ¬aV (OO i) A.fb (A.cell l):=λl _ O hc=>by
  obtain⟨_,j,_,⟨_,T⟩,e⟩:=h.PB hc;obtain rfl:l=j:=by unfold bH.cell at e;omega
  rw[Ap T]at O;cases O
 have E:∀c l,c<w.heap.size -> ¬aV (OO i) c l->(kk i).cell c l=none->k'.cell c l=none:=λc l hc av hn=>by
  cases q:k'.cell c l with
  |none=>rfl
  | some v=>
    rcases D.cell c l v q with d|d|d
    . simp_all
    . simp_all
    . omega
 obtain⟨a8,a9,ab,al⟩:=h.eD i
 have U:∀op∈u,∀a,op.act.touch?=some a -> ¬zh A a.loc:=λop k a G=>by obtain⟨e,B,C⟩:=H op k;rw[C]at G;exact zE h B G
 refine⟨h.I,h.size,h.dd,h.off,λhd l F=>⟨λO=>⟨λj=>?_,λm a ad G e e'=>?_⟩,λhr=>?_⟩,λhd=>by rw[D.keep A.cF (hC hd) ((h.gL i).1 hd)];exact h.Ao hd,h.mu.same S.1,h.gr.same (.of_heap R),S.2,by rw[R];exact h.zB,λj=>?_,λj=>?_,λj x Y=>?_,λj hj T=>?_,λT=>?_,λc hc=>?_,h.hJ,h.vN u,h.mR u,
  h.kr u (λop k a G hs=>absurd hs (U op k a G)),h.oR u (λop k a G hs=>absurd hs (U op k a G)),h.qk u,h.jE u (λop k a=>by obtain⟨e,B,C⟩:=H op k;rw[C];exact zF B a),λj hj hb=>?_,h.te,h.jZ,h.fq,h.la,by simp;exact aaG h.n0 (abu _ _)⟩
 . have d:=((h.zi hd l F).1 O).1 j
   by_cases e:j=i
   . subst e;rw[au];simp_all
   . rw[az _ _ e];exact d
 . rcases dV G with⟨d,_⟩|⟨op,k,d⟩
   . exact((h.zi hd l F).1 O).2 m a ad d e e'
   . obtain⟨ev,B,C⟩:=H op k
     rw[C]at d
     rcases kg B d with⟨ad,L,hc⟩|⟨r,L,_⟩
     . rw[e]at L
       cases L;rw[e'.1,e'.2]at hc
       rcases hc with hc|hc|⟨_,v,hc⟩
       . simp_all
       . omega
       . have:=((h.zi hd l F).1 O).1 i
         simp_all
     simp_all
 . have d:=(h.zi hd l F).2 hr
   by_cases e:A.b+l=i
   . rw[e,au];rw[e]at d;exact D.le.1 _ _ _ d
   . rw[az _ _ e];exact d
 . by_cases e:j=i
   . subst e;rw[au];exact⟨λhd=>p _ (hC hd) ((h.gL j).1 hd),p _ X (h.gL j).2⟩
   . rw[az _ _ e];exact h.gL j
 . by_cases e:j=i
   . subst e;rw[au]
     exact⟨E _ _ W (z _ (.inl rfl)) a8,E _ _ W (z _ (.inr rfl)) a9,E _ _ X (dY (h.gL j).2) ab,E _ _ X (dY (h.gL j).2) al⟩
   . rw[az _ _ e];exact h.eD j
 . by_cases e:j=i
   . subst e;rw[au]at Y
     rcases D.own _ x Y with⟨y,hy,hb⟩|hy
     . obtain⟨l,f,d,N,h3,rfl,h4⟩:=h.tok j y hy
       cases x with
       |obj o=>exact hb.elim
       |tail m=>exact hb.elim
       |part g=>exact⟨l,g,d,N,h3,rfl,λa q=>h4 a (hb a q)⟩
     . omega
   . rw[az _ _ e]at Y;exact h.tok j x Y
 . have d:=h.zC j hj T
   by_cases e:A.b+j=i
   . rw[e,au]
     rw[e]at d;cases q:OO i A.fb with
     |none=>simp_all
     | some x=>
       obtain⟨_,f,_,_,_,rfl,_⟩:=h.tok i x q;obtain⟨f',N⟩:=D.tok _ f q
       grind
   . rw[az _ _ e];exact d
 . rw[az _ _ (za K),az _ _ (za K)];exact h.OY T
 . rw[az _ _ (za K)]at hc;exact h.OZ c hc
 . have e:j≠i:=λe=>hb (e ▸ Q)
   rw[az _ _ e,az _ _ e];exact h.Dp j hj hb
def de.still(h:de P A Z s kk OO J M gsz w t)(u:Trace)(i:∀op∈u,op.act.touch?=none/\∀a,op.act≠.mark (.release a)):de P A Z s kk OO J M gsz w (t++u):=
 ⟨h.I,h.size,h.dd,h.off,λhd l c=>⟨λf=>⟨((h.zi hd l c).1 f).1,λm a j d e k=>(dV d).elim (λg=>((h.zi hd l c).1 f).2 m a j g.1 e k) (λ⟨op,b,g⟩=>by simp_all)⟩,(h.zi hd l c).2⟩,h.Ao,h.mu,h.gr,h.vL,h.zB,h.gL,h.eD,h.tok,h.zC,h.OY,h.OZ,h.hJ,h.vN u,h.mR u,h.kr u (λop b a d=>by simp_all),h.oR u (λop b a d=>by simp_all),
   h.qk u,h.jE u (λop b=>(i op b).2),h.Dp,h.te,h.jZ,h.fq,h.la,by simp;exact aaG h.n0 (abu _ _)⟩
def bf(B:A.b+A.n+1<=Z.lk):Ai (bX P A Fin Z B) where
 own:=λa o _ he u _ _ q=>de.own a B o he u q
 slip:=λa u _ hu=>de.still a u hu
 draw:=λ{s kk OO J M n w t} a d=>by have a:de P A Z s kk OO J M n w t:=a;exact⟨a.I,a.size,a.dd,a.off,a.zi,a.Ao,a.mu.heap rfl,a.gr.same (.of_heap rfl),a.vL,a.zB,a.gL,a.eD,a.tok,a.zC,a.OY,a.OZ,a.hJ,a.hM,a.shut,a.quiet,a.said,a.old,a.norel,a.Dp,a.te,a.jZ,a.fq,a.la,a.n0⟩
 th := λ{s kk OO J M n w t j g} a C k O f=>by
  have a:de P A Z s kk OO J M n w t:=a
  have r:s.c.eG=false:=by
   rcases C with⟨_,hm⟩|⟨l,o,_,hw⟩
   . have:=a.I.ms
     rw[hm]at this;have:=this.2.2.1;cases e:s.c<;>simp_all [jB.eG]
   . cases e:s.c with
     | gone=>
       have:=(a.I.g8 (by rw[e];rfl)).2.2.2 l o
       simp_all
     |_=>rfl
  have hd:A.dir=false:=by
   cases e:A.dir with
   |false=>rfl
   | true=>
     rcases f with⟨h0,_⟩|⟨l,_,_,m,z,v,_,_,_,_,hd⟩
     . have:=A.hb
       rcases C with⟨_,hm⟩|⟨l,o,h,hw⟩
       . exact absurd hm (a.off.2.1 e).2.1
       . omega
     simp_all
  obtain⟨x,D,y⟩:=a.Ao hd;rw[r]at y;rcases f with⟨_,m,z,rfl,_⟩|⟨l,_,_,m,z,v,rfl,_⟩
  . exact again_recv_open y
  . exact again_send_open y
 wd:=λ{s kk OO J M n w t} a=>by have a:de P A Z s kk OO J M n w t:=a;exact⟨⟨_,a.gr.cw⟩,⟨_,a.gr.cs⟩,⟨_,a.mu.cw⟩⟩
 kU:=λ{s i k O g} f=>by
  rcases f with⟨_,f⟩|⟨j,_,_,f⟩|⟨_,f⟩
  . cases e:s.ms with
    |bz j p=>rw[e]at f;obtain⟨c,rest,h,_⟩:=f;exact h.running
    |_=>rw[e]at f;exact f.elim
  . cases e:s.w j with
    |lk p Y=>rw[e]at f;obtain⟨kind,c,rest,_,_,h,_⟩:=f;exact h.running
    |un p Y=>rw[e]at f;obtain⟨kind,c,rest,_,h,_⟩:=f;exact h.running
    |dn p=>rw[e]at f;obtain⟨E,fn,tmps,todo,_,_,h⟩:=f;exact h.running
    |_=>rw[e]at f;exact f.elim
  . cases e:s.c with
    |wt p=>rw[e]at f;obtain⟨c,rest,h,_⟩:=f;exact h.running
    |_=>rw[e]at f;exact f.elim
end
end
section
open Go.Conc
open Go.ConcN (sumTo upd sumTo_upd upd_ne upd_same)
variable{P:adS}
def MS.aW(s:MS P)(j:Nat)(x:bn P)(sh:Mu.Sh):MS P:={s with w:=λi=>if i=j then x else s.w i,sh:=sh}
section
variable{s:MS P}{j n:Nat}{x:bn P}{sh:Mu.Sh}
def aX:(s.aW j x sh).w j=x:=by simp[MS.aW]
def cy{i:Nat}(h:i≠j):(s.aW j x sh).w i=s.w i:=by simp[MS.aW,h]
def HJ:(λi=>((s.aW j x sh).w i).pc)=Mu.set (λi=>(s.w i).pc) j x.pc:=by
 funext i;by_cases h:i=j
 . subst h;rw[aX,Mu.an]
 . rw[cy h,Mu.ai _ _ h]
def tx(F:bn P->Nat)(hj:j<n):sumTo n (λi=>F ((s.aW j x sh).w i))+F (s.w j)=sumTo n (λi=>F (s.w i))+F x:=by
 have e:(λi=>F ((s.aW j x sh).w i))=upd (λi=>F (s.w i)) j (F x):=by
  funext i;by_cases h:i=j
  . subst h;rw[aX,upd_same]
  . rw[cy h,upd_ne _ _ h]
 rw[e];have:=sumTo_upd (λi=>F (s.w i)) (F x) id hj
 simp_all
def bn.work:bn P->Bool
 |.run ..=>true|.lk ..=>true|.un ..=>true|_=>false
def bC{x:bn P}(h:x.work=true):x.cnt=1/\x.cx=20/\x.iP=false/\x.last=false/\x.jD=false/\x.busy=true/\x≠.gone/\x≠.wait/\∀p,x≠.dn p:=by cases x<;>simp_all [bn.work,bn.cnt,bn.cx,bn.iP,bn.last,bn.jD,bn.busy]
def bn.BV:bn P->Bool
 |.run ..=>true|.lk ..=>true|.un ..=>true|.zg=>true|.dn .d1=>true|.dn .d2=>true|.dn .d4=>true|_=>false
def xX{x:bn P}(h:x.BV=true):x.cnt=1/\x.last=false/\x.jD=false/\x≠.gone/\x≠.wait/\∀p,(p=.d5\/p=.d6\/p=.d7)->x≠.dn p:=by
 cases x with
 |dn p=>cases p<;>simp_all [bn.BV,bn.cnt,bn.last,bn.jD]
 |_=>simp_all [bn.BV,bn.cnt,bn.last,bn.jD]
def bO.same(I:bO n s)(hj:j<n)(o:(s.w j).BV=true)(q:x.BV=true)(r:x.iP=(s.w j).iP\/s.d=true)(G:x.ok=true)(t:Mu.Inv n (Mu.set (λi=>(s.w i).pc) j x.pc) sh):bO n (s.aW j x sh):=by
 obtain⟨H,a4,u,J,K,L⟩:=xX o;obtain⟨M,N,v,O,Q,g⟩:=xX q;have m:=tx (s:=s) (x:=x) (sh:=sh) bn.cnt hj
 have look:∀{i:Nat}{y:bn P},(s.aW j x sh).w i=y->x≠y->i≠j/\s.w i=y:=λ{i y} h z=>by
  by_cases e:i=j
  . subst e;rw[aX]at h;simp_all
  . rw[cy e]at h;simp_all
 have back:∀{i:Nat}{y:bn P},s.w i=y->(s.w j)≠y->(s.aW j x sh).w i=y:=λ{i y} h z=>by
  by_cases e:i=j
  . simp_all
  . rw[cy e];exact h
 have b:∀{i:Nat},((s.aW j x sh).w i).last=(s.w i).last:=λ{i}=>by
  by_cases e:i=j
  . grind
  . rw[cy e]
 refine⟨?_,I.g2,I.FO,λi a h=>?_,λi l a A h f=>?_,λi a h=>?_,⟨I.g5.1,λh=>?_⟩,λh f k=>?_,λh f=>?_,λh=>?_,I.g9,λi a=>?_,I.TB,I.sp,λi a=>?_,?_,λhd h i a=>?_,by rw[HJ];exact t⟩
 . have:=I.g1
   show s.gc=sumTo n (λi=>((s.aW j x sh).w i).cnt)+s.ms.pend;omega
 . exact I.g3 i a (h.imp (λh=>(look h (g _ (by simp))).2) (λh=>(look h (g _ (by simp))).2))
 . rw[b]at h f;exact I.HH i l a A h f
 . exact I.g4 i a (look h (g _ (by simp))).2
 . obtain⟨B,C,D,E⟩:=I.g5.2 h
   exact⟨B,C,D,λi a=>by grind⟩
 . obtain⟨i,a,F⟩:=I.g6 h f k
   grind
 . obtain⟨i,a,F⟩:=I.g7 h f
   grind
 . obtain⟨_,_,_,E⟩:=I.g8 h
   simp_all
 . by_cases e:i=j
   . grind
   . rw[cy e];exact I.ok i a
 . by_cases e:i=j
   . subst e
     rw[aX,v];have:=I.idle i a;rw[u]at this;exact this
   . rw[cy e];exact I.idle i a
 . have:=I.ms
   show match s.ms with
   |.add l=>s.sp+l=n/\s.c=.none
   |.bz l p=>s.sp+l=n/\s.c=.none/\1<=l/\(p=.a0\/p=.a2\/p=.a4\/p=.ae)
   |.spawn l=>s.sp+l+1=n/\s.c=.none
   |.recv=>s.sp=n/\s.c≠.none
   |.parked=>s.sp=n/\s.c≠.none/\s.c≠.gone/\∀i,i<n->(s.aW j x sh).w i≠.wait
   |.off=>s.sp=n/\s.c≠.none
   grind
 . by_cases e:i=j
   . subst e;rw[aX,r.resolve_right λe=>by have hd:s.d=false:=hd;grind];exact I.early hd h i a
   . rw[cy e];exact I.early hd h i a
def Aq{x:bn P}(h:x.work=true):x.BV=true:=by cases x<;>simp_all [bn.work,bn.BV]
def bO.work(I:bO n s)(hj:j<n)(a:(s.w j).work=true)(b:x.work=true)(c:x.ok=true)(d:Mu.Inv n (Mu.set (λi=>(s.w i).pc) j x.pc) sh):bO n (s.aW j x sh):=I.same hj (Aq a) (Aq b) (.inl (by rw[(bC a).2.2.1,(bC b).2.2.1])) c d
def R4(F:bn P->Nat)(hj:j<n)(h:F x=F (s.w j)):sumTo n (λi=>F ((s.aW j x sh).w i))=sumTo n (λi=>F (s.w i)):=by have:=tx (s:=s) (x:=x) (sh:=sh) F hj;omega
def Dr(hj:j<n)(a:(s.w j).work=true)(b:x.work=true):(s.aW j x sh).cx n=s.cx n:=by
 have:=R4 (s:=s) (x:=x) (sh:=sh) bn.cx hj (by rw[(bC a).2.1,(bC b).2.1]);show s.ms.cx+sumTo n (λi=>((s.aW j x sh).w i).cx)+s.c.cx s.gc=_;rw[this];rfl
def BW(hj:j<n)(a:(s.w j).work=true)(b:x.work=true)(h:IP x.nd (s.w j).nd):MS.gq n (s.aW j x sh) s:=.inr ⟨Dr hj a b,.inl ⟨j,hj,λi c=>by show((s.aW j x sh).w i).nd=_;rw[cy c],by simp only[aX];exact h⟩⟩
def wQ(hj:j<n)(a:(s.w j).work=true)(b:x.work=true)(h:x.nd=(s.w j).nd)(hi:4*Mu.meas n (Mu.set (λi=>(s.w i).pc) j x.pc) sh+x.ex n<4*Mu.meas n (λi=>(s.w i).pc) s.sh+(s.w j).ex n):MS.gq n (s.aW j x sh) s:=by
 refine .inr ⟨Dr hj a b,.inr ⟨?_,?_⟩⟩
 . funext i
   by_cases e:i=j
   . subst e;rw[aX];exact h
   . rw[cy e]
 . have:=tx (s:=s) (x:=x) (sh:=sh) (bn.ex n) hj
   show 4*Mu.meas n (λi=>((s.aW j x sh).w i).pc) sh+sumTo n (λi=>((s.aW j x sh).w i).ex n)<4*Mu.meas n (λi=>(s.w i).pc) s.sh+sumTo n (λi=>(s.w i).ex n);rw[HJ];omega
def HK(I:bO n s)(hj:j<n)(a:(s.w j).work=true)(b:x.work=true)(h:x.nd=(s.w j).nd)(c:(x.pc,sh)∈Mu.mv (s.w j).pc s.sh)(d:x.ex n<=3):MS.gq n (s.aW j x sh) s:=by
 have:=(Mu.Iz (pcs:=λi=>(s.w i).pc) hj (I.mu.j0 j hj) c).1;exact wQ hj a b h (by omega)
def bO.mv(I:bO n s)(hj:j<n)(a:(s.w j).work=true)(b:x.work=true)(c:x.ok=true)(d:(x.pc,sh)∈Mu.mv (s.w j).pc s.sh):bO n (s.aW j x sh):=I.work hj a b c (I.mu.step hj d)
def jF(pcs:Nat->Mu.Pc)(i:Nat):Mu.set pcs i (pcs i)=pcs:=by
 funext l;by_cases e:l=i
 . subst e;exact Mu.an _ _ _
 . exact Mu.ai _ _ e
def l9(hj:j<n)(a:(s.w j).work=true)(b:x.work=true)(h:x.nd=(s.w j).nd)(c:x.pc=(s.w j).pc)(d:x.ex n<(s.w j).ex n):MS.gq n (s.aW j x s.sh) s:=by
 refine wQ hj a b h ?_;rw[c,jF (λi=>(s.w i).pc)];omega
def bO.still(I:bO n s)(hj:j<n)(a:(s.w j).work=true)(b:x.work=true)(c:x.ok=true)(d:x.pc=(s.w j).pc):bO n (s.aW j x s.sh):=I.work hj a b c (by rw[d,jF (λi=>(s.w i).pc)];exact I.mu)
def fV(F:Mu.Pc->Nat){pcs:Nat->Mu.Pc}{i:Nat}(a:pcs i=.out)(h:F .iC=F .out):(λl=>F (Mu.set pcs i .iC l))=λl=>F (pcs l):=by
 funext l;by_cases e:l=i
 . subst e;rw[Mu.an,a,h]
 . rw[Mu.ai _ _ e]
def PC{n:Nat}{pcs:Nat->Mu.Pc}{s:Mu.Sh}{i:Nat}(h:Mu.Inv n pcs s)(a:pcs i=.out):Mu.Inv n (Mu.set pcs i .iC) s:=by
 obtain⟨⟨m,c,d,f,g⟩,j,o⟩:=h;refine⟨⟨λl k=>?_,?_,?_,?_,?_⟩,j,λl k old sv b=>?_⟩
 . by_cases e:l=i
   . subst e;rw[Mu.an];trivial
   . rw[Mu.ai _ _ e];grind
 . rw[fV Mu.bZ a rfl];exact c
 . rw[fV Mu.fM a rfl,fV Mu.cI a rfl,fV Mu.nv a rfl,fV Mu.di a rfl,fV Mu.cH a rfl];exact d
 . rw[fV Mu.fM a rfl,fV Mu.cI a rfl,fV Mu.nv a rfl,fV Mu.di a rfl,fV Mu.cH a rfl];exact f
 . rw[fV Mu.iD a rfl];exact g
 . by_cases e:l=i
   . subst e;rw[Mu.an]at b;cases b
   . rw[Mu.ai _ _ e]at b;grind
def Ds{n:Nat}{pcs:Nat->Mu.Pc}{s:Mu.Sh}{i:Nat}(hi:i<n)(a:pcs i=.out):Mu.meas n (Mu.set pcs i .iC) s=Mu.meas n pcs s+(6*(18*n+1)+16):=by
 have C:=Mu.gE Mu.gO pcs i .iC hi;have R:=Mu.gE (Mu.jP s.w) pcs i .iC hi;rw[a]at C R;have b:Mu.gO .out=0:=rfl;have c:Mu.gO .iC=6:=rfl;have d:Mu.jP s.w .out=0:=rfl;have e:Mu.jP s.w .iC=16:=rfl;rw[b,c]at C;rw[d,e]at R;have f:Mu.phi n (Mu.set pcs i .iC) s=Mu.phi n pcs s+6:=by unfold Mu.phi;omega
 unfold Mu.meas
 grind
def LW(hj:j<n)(a:(s.w j).work=true)(b:x.work=true)(h:x.nd=(s.w j).nd)(c:(s.w j).pc=.out)(d:x.pc=.iC)(e:(s.w j).ex n=BU n)(f:x.ex n=0):MS.gq n (s.aW j x s.sh) s:=by refine wQ hj a b h ?_;rw[d,Ds hj c,e,f];unfold BU;omega
def bO.Yn(I:bO n s)(hj:j<n)(a:(s.w j).work=true)(b:x.work=true)(c:x.ok=true)(d:(s.w j).pc=.out)(e:x.pc=.iC):bO n (s.aW j x s.sh):=I.work hj a b c (by rw[e];exact PC I.mu d)
end
end
open Go.Conc
open Go.ConcN (sumTo upd sumTo_upd upd_ne upd_same)
section
variable{P:adS}{A:rN P}{Z:Base}{s s':A.S}{f f':Nat->Node P}{q q':adI}{kk kk':adN}{OO OO':adM}{J J' M M':adC}{gs:acX}{w w':World}{t u:Trace}{i:Nat}{g g1:adF}
structure Beside(A:rN P)(s s':A.S)(f f':Nat->Node P)(q q':adI)(kk kk':adN)(OO OO':adM)(J J':adC)(w':World)(i:Nat)(g g1:adF):Prop where
 ef:∀j,j≠i->f' j=f j
 eq:∀j,j≠i->q' j=q j
 ek:∀j,j≠i->j<A.top->kk' j=kk j
 eO:∀j,j≠i->j<A.top->OO' j=OO j
 eJ:∀j,j≠i->A.Live s j->J j->J' j
 live:∀j,j≠i->(A.Live s' j↔A.Live s j)
 walk:∀j,j≠i->(A.Walk s' j↔A.Walk s j)
 held:∀j,j≠i->(A.oI s' j↔A.oI s j)
 mo:∀j,j≠i->A.Live s j->A.mo s' j=A.mo s j
 at':∀j k O x,j≠i->A.Walk s j->A.At s j k O x->A.At s' j k O x
 deaf:∀j,j≠i->A.Walk s j->A.deaf s' j=A.deaf s j
 Ah:∀j,j≠i->A.Walk s j->A.Ah s j->A.Ah s' j\/∀x,A.At s j (kk j) (OO j) x->woken P g g1 w' (blk x)=x
 TD:∀j k O x,j≠i->A.oI s j->A.FC s j k O x->A.FC s' j k O x
 tie:∀j x,j≠i->A.Live s j->A.Pl s j x->A.Pl s' j x
structure Self(P:adS)(A:rN P)(s':A.S)(f':Nat->Node P)(q':adI)(kk':adN)(OO':adM)(J':adC)(t':Trace)(i:Nat)(g1:adF):Prop where
 live:A.Live s' i->i<A.top/\g1=(f' i).g/\(f' i).m=A.mo s' i/\(f' i).k=kk' i/\(f' i).O=OO' i/\(f' i).g.status=.running/\Deaf t' i=0/\(i=0\/J' i)/\A.Pl s' i (f' i)
 walk:A.Walk s' i -> ¬A.Live s' i/\i<A.top/\Deaf t' i=A.deaf s' i/\∃g',A.At s' i (kk' i) (OO' i) g'/\Ln P A.Wd (A.Ah s' i) (q' i) g1 g'
 held:A.oI s' i -> ¬A.Live s' i/\¬A.Walk s' i/\i<A.top/\Deaf t' i=0/\g1.status=.blocked/\A.FC s' i (kk' i) (OO' i) g1
 rest:¬A.Live s' i -> ¬A.Walk s' i -> ¬A.oI s' i->i≠0/\QuitsD P (q' i) (Deaf t' i) g1
def bD.step(B:Ai A)(v:bD A Z s f q kk OO J M gs w t)(hi:gs[i]?=some g)(C:∀op∈u,op.g=i)(U:cB Z kk' OO' J' M' w' (t++u))(V:A.Ex s' kk' OO' J' M' gs.size w' (t++u))
 (W:∀j x,A.oI s j->A.FC s j (kk j) (OO j) x->x.again w'=x) (hb:Beside A s s' f f' q q' kk kk' OO OO' J J' w' i g g1) (E:Self P A s' f' q' kk' OO' J' (t++u) i g1):
 bD A Z s' f' q' kk' OO' J' M' ((gs.map (woken P g g1 w')).setIfInBounds i g1) w' (t++u):=by
 have X:i<gs.size:=(zs.1 hi).1;have F:=v.Pm B (i:=i) (a:=g) (a':=g1) (x:=g1) (w':=w') W;have p:((gs.map (woken P g g1 w')).setIfInBounds i g1)[i]?=some g1:=LF (by simp_all)
 have G:∀j,j≠i->Deaf (t++u) j=Deaf t j:=λj d=>Deaf_other t (za d) _ C
 refine⟨v.lk,U,λj d=>?_,λj d=>?_,λj d=>?_,λj x I N O Q=>?_,λj d=>?_,by simp_all⟩
 . by_cases e:j=i
   . subst e
     obtain⟨l,n,m⟩:=E.live d
     simp_all
   . have b:=(hb.live j e).1 d
     obtain⟨l,n,pm,m,D,z,r,R⟩:=v.live j b;rw[hb.ef j e,hb.ek j e l,hb.eO j e l,G j e,hb.mo j e b];exact⟨l,F.live j e b,pm,m,D,z,r,R.1.imp id (hb.eJ j e b),hb.tie j _ e b R.2⟩
 . by_cases e:j=i
   . subst e
     obtain⟨l,n,m,g',D,z⟩:=E.walk d
     grind
   . have b:=(hb.walk j e).1 d
     obtain⟨l,n,m,x,Y,D,z,r⟩:=v.walk j b;refine⟨λh=>l ((hb.live j e).1 h),n,by rw[G j e,hb.deaf j e b];exact m,?_⟩
     rw[hb.ek j e n,hb.eO j e n,hb.eq j e];obtain⟨y,y',o,K,r3⟩:=F.walk j e b
     by_cases hd:∃x,A.Ah s j/\y=blk x/\A.At s j (kk j) (OO j) x/\q j=0
     . obtain⟨x0,S,H,d3,d4⟩:=hd
       rcases hb.Ah j e b S with h|h
       . exact⟨y,x0,o,hb.at' j _ _ _ e b d3,.inl ⟨h,H,d4⟩⟩
       ·
        have c:((gs.map (woken P g g1 w')).setIfInBounds i g1)[j]?=some (woken P g g1 w' x):=by grind
        obtain⟨T,a2⟩:=B.kU z
        rcases r with⟨_,rfl,_⟩|r
        . rw[h _ z]at c
          rw[c]at o;have:=aaS o;rw[H]at this;have k:Y.status=.blocked:=by rw[this];rfl
          simp_all
        . rw[woken_run (r.first T)]at c
          rw[c]at o;have hh:=aaS o;have k:x.status=.blocked:=by rw[hh,H];rfl
          rw[r.first T]at k;cases k
     . rcases r3 with⟨S,rfl,H⟩|r3
       . simp_all
       . exact⟨y,y',o,hb.at' j _ _ _ e b K,.inr r3⟩
 . by_cases e:j=i
   . subst e
     obtain⟨l,n,m,D,z,r⟩:=E.held d
     simp_all
   . have b:=(hb.held j e).1 d
     obtain⟨l,n,m,D,_⟩:=v.held j b;obtain⟨x,o,K,r3⟩:=F.held j e b;refine⟨λh=>l ((hb.live j e).1 h),λh=>n ((hb.walk j e).1 h),m,by simp_all,x,o,K,?_⟩
     rw[hb.ek j e m,hb.eO j e m];exact hb.TD j _ _ _ e b r3
 . by_cases e:j=i
   . subst e
     rw[p]at I;obtain rfl:=aaS I;exact E.rest N O Q
   . rw[hb.eq j e,G j e]
     exact F.rest j x e I (λh=>N ((hb.live j e).2 h)) (λh=>O ((hb.walk j e).2 h)) (λh=>Q ((hb.held j e).2 h))
 . have L:gs.size<=j:=by simp_all
   rw[G j (by omega)];exact v.above j L
end
def knows_own{t u:Trace}{i m:Nat}{op:MemOp}(h:u[m]?=some op)(a:op.g=i):Knows (t++u) i (t.size+m):=⟨t.size+m,op,dz h,a,.inl rfl⟩
section
variable{Z:Base}{kk:adN}{OO:adM}{J M:adC}{w w':World}{t u:Trace}{i:Nat}
def BX(kk:adN)(OO:adM)(B:Nat)(t:Trace)(i:Nat)(u:Trace):Prop:=∀op∈u,∀a,op.act.touch?=some a->a.kind=.atomic/\(a.loc.isMemory=true->La kk OO B a.loc)/\∀n b,touchAt t n=some b->b.loc=a.loc->b.kind=.plain->Knows t i n
def cB.Q5(h:cB Z kk OO J M w t)(d:∀op∈u,op.g=i)(y:w'.heap.size=w.heap.size)(z:Calm Z w w')(hb:∀b,Kept kk OO w w' b)(A:∀op∈u,op.act.low w.heap.size)(q:BX kk OO w.heap.size t i u)
 (l:∀m op a,u[m]?=some op->op.act.touch?=some a->a.loc.isMemory=true->Told Z J M (t++u) (t.size+m) a):cB Z kk OO J M w' (t++u):=
 h.uH (λa b=>a=b) y z hb A (λa b e n x _ _ _ B=>by subst e;exact B.app u) (λj b n v h=>⟨j,rfl,h⟩) (λj b s h=>⟨j,rfl,h⟩) (λj b x h=>⟨j,rfl,h,λ_ h=>h⟩) h.jA
  (fun said=>noRace_append (h.clean said) d λn a o op c b hb C=>by
    obtain⟨f,k,D⟩:=q op c b hb;obtain⟨E,_,_,F⟩:=C
    simp_all)
  (λop c a o r=>(q op c a o).2.1 r) l
  (λn a o r h=>h.elim (λ⟨j,f,k⟩=>.inr (.inl ⟨j,f,k.app _⟩)) (λ⟨p,f,k⟩=>.inr (.inr (.inl ⟨p,f,k.app _⟩))))
def cB.sync(h:cB Z kk OO J M w t)(hJ:i=0\/J i)(c:∀op∈u,op.g=i)(f:w'.heap.size=w.heap.size)(j:Calm Z w w')(hb:∀b,Kept kk OO w w' b)(k:∀op∈u,op.act.low w.heap.size)(l:BX kk OO w.heap.size t i u):cB Z kk OO J M w' (t++u):=
 h.Q5 c f j hb k l λm op a d n o=>by
  have e:Knows (t++u) i (t.size+m):=knows_own d (c op (abd d));rcases hJ with rfl|hJ
  . exact .inl e
  . exact .inr (.inl ⟨i,hJ,e⟩)
end
section
variable{P:adS}{A:bH}{Z:Base}{s:MS P}{kk:adN}{OO:adM}{J M:adC}{gsz:Nat}{w w':World}{t u:Trace}{j:Nat}{x:bn P}{sh:Mu.Sh}
def oT(hj:j<A.n)(h:x.busy=(s.w j).busy)(i:Nat):dZ P A (s.aW j x sh) i↔dZ P A s i:=by
 have:∀l,((s.aW j x sh).w l).busy=(s.w l).busy:=λl=>by
  by_cases e:l=j
  . subst e;rw[aX,h]
  . rw[cy e]
 unfold dZ;simp only[this];rfl
def LX{a:Touch}{l:Nat}{ad:Addr}(h:zh A a.loc)(e:a.loc=.cell ad)(b:ad.block=A.fb/\ad.off=A.cell l):False:=by rw[e]at h;obtain⟨_,h⟩:=h;have:=A.d4;rw[b.1,b.2]at h;unfold bH.cell at h;omega
def de.FT(h:de P A Z s kk OO J M gsz w t){s':MS P}(d:A.dir=true->∀l,l<A.n->(s'.w l).iF=(s.w l).iF/\(s'.w l).owns=(s.w l).owns)(p:∀op∈u,∀a,op.act.touch?=some a->zh A a.loc):
 A.dir=true->∀j,j<A.n->((s'.w j).iF=false->(∀i,(kk i).cell A.fb (A.cell j)=none)/\∀m a ad,touchAt (t++u) m=some a->a.loc=.cell ad->ad.block=A.fb/\ad.off=A.cell j->m<Z.N0)/\((s'.w j).rel=true->(kk (A.b+j)).cell A.fb (A.cell j)=some (A.val j)):=λhd l c=>by
 obtain⟨q,r⟩:=d hd l c;rw[bn.rel,q,r];exact⟨λk=>⟨((h.zi hd l c).1 k).1,λm a ad v e o=>(dV v).elim (λf=>((h.zi hd l c).1 k).2 m a ad f.1 e o) (λ⟨op,g,f⟩=>(LX (p op g a f) e o).elim)⟩,(h.zi hd l c).2⟩
def de.xY(h:de P A Z s kk OO J M gsz w t)(hj:j<A.n)(k:x.busy=(s.w j).busy)(E:x.owns=(s.w j).owns)(o:A.dir=true->x.iF=(s.w j).iF)(F:bO A.n (s.aW j x sh))(p:ShM A.fb A.fo w' sh)
 (d:∀b,b≠A.fb->w'.heap[b]?=w.heap[b]?) (q:∃c e,w'.heap[A.fb]?=some (.cells c e (0,0))) (z:∀op∈u,(∀a,op.act.touch?=some a->a.kind=.atomic/\zh A a.loc)/\∀a,op.act≠.mark (.release a)):
 de P A Z (s.aW j x sh) kk OO J M gsz w' (t++u):=by
 have m:∀l,((s.aW j x sh).w l).owns=(s.w l).owns:=λl=>by
  by_cases e:l=j
  . subst e;rw[aX,E]
  . rw[cy e]
 refine⟨F,h.size,h.dd,h.off,h.FT (λhd l _=>⟨?_,m l⟩) (λop g a r=>((z op g).1 a r).2),λhd=>by rw[d _ A.d1];exact h.Ao hd,p,h.gr.same (.of_heap (d _ (za A.d4))),q,by rw[d _ (za A.d4)];exact h.zB,h.gL,h.eD,λi y G=>?_,λl B v=>h.zC l B (by simp_all),λv=>h.OY λl B=>by simp_all,λc H=>?_,
  λi=>by rw[h.hJ i];exact(oT hj k i).symm,h.vN u,h.mR u,h.kr u (λop g a r _ I=>?_),h.oR u (λop g a r _ I=>?_),h.qk u,h.jE u (λop g=>(z op g).2),h.Dp,h.te,h.jZ,h.fq,h.la,by simp;exact aaG h.n0 (abu _ _)⟩
 . by_cases e:l=j
   . subst e;rw[aX,o hd]
   . rw[cy e]
 . obtain⟨l,f,C,D,L,K⟩:=h.tok i y G
   exact⟨l,f,C,D,by simp_all,K⟩
 . obtain⟨C,D⟩:=h.OZ c H
   simp_all
 . grind
 grind
def de.work(h:de P A Z s kk OO J M gsz w t)(hj:j<A.n)(k:(s.w j).work=true)(l:x.work=true)(m:x.owns=(s.w j).owns)(f:A.dir=true->x.iF=(s.w j).iF)(o:bO A.n (s.aW j x sh))(g:ShM A.fb A.fo w' sh)
 (d:∀b,b≠A.fb->w'.heap[b]?=w.heap[b]?) (i:∃c e,w'.heap[A.fb]?=some (.cells c e (0,0))) (p:∀op∈u,(∀a,op.act.touch?=some a->a.kind=.atomic/\zh A a.loc)/\∀a,op.act≠.mark (.release a)):
 de P A Z (s.aW j x sh) kk OO J M gsz w' (t++u):=
 h.xY hj (by rw[(bC k).2.2.2.2.2.1,(bC l).2.2.2.2.2.1]) m f o g d i p
end
section
variable{P:adS}
def BY {y:Sy} {s:jT} {fr:Frame} {f:FuncId} {l:adP} {e:adq->Sem Value} {cs:adt} (b:FR y s fr) (h:bb s=some (f,l)) (c:Ext P f e):mayWake P (G fr cs)=true:=by
 obtain⟨ops,i,rest,kk,o,as,d,g,p,j,q,a,r⟩:=dv b h;obtain⟨fn,k,t,u,v,w⟩:=c.ex;have m:fr.mode = .run:=by rw[a];rfl
 have n:fr.todo = .inRegion ops (i :: rest) :: kk:=by rw[a];rfl
 unfold mayWake;simp only[G,m,n,g,aaX,j,Frame.eval,k,Option.any_some]
 grind
def IQ{n:zv}{b o:Nat}{kind:adK}{cs:adt}{g:adF}(C:gF P n)(X:gJ P n)(h:oy P n b o kind .give cs g):mayWake P g=true:=by
 obtain⟨c,y,fr,d,e,i,a,f,rfl⟩:=h;rcases e with rfl|rfl
 . exact BY a (C.WT b o kind) X.oO
 . exact BY a (C.WU b o kind) X.oO
def oU{b o:Nat}{w w':World}(h:MW b o w w')(a:∃c e,w.heap[b]?=some (.cells c e (0,0))):
 w'.heap.size=w.heap.size/\(∀r,r≠b->w'.heap[r]?=w.heap[r]?)/\∃c e c',w.heap[b]?=some (.cells c e (0,0))/\w'.heap[b]?=some (.cells c' e (0,0))/\c'.size=c.size/\∀n,n≠o->n≠o+1->c'[n]?=c[n]?:=by
 obtain⟨c,e,a⟩:=a;rcases h.2 with h|⟨i,v,f,g,h⟩
 . grind
 . refine⟨by simp_all,λr d=>?_,c,e,c.setIfInBounds i v,a,?_,by simp,λn j k=>?_⟩
   . rw[h];simp only[World.setCell,abg,aay (za d)]
   . rw[h];simp[World.setCell,abg,a]
   grind
end
section
variable{P:adS}{A:bH}{Z:Base}{s:MS P}{kk:adN}{OO:adM}{J M:adC}{gsz:Nat}{w w':World}{t:Trace}{j:Nat}{x:bn P}{sh:Mu.Sh}
def de.calm(h:de P A Z s kk OO J M gsz w t)(a:MW A.fb A.fo w w'):Calm Z w w':=by obtain⟨d,c,_⟩:=oU a h.vL;have:=h.fq.2.1;exact⟨a.1,λb hb=>c b (by omega)⟩
def de.kept(h:de P A Z s kk OO J M gsz w t)(a:MW A.fb A.fo w w'):∀b,Kept kk OO w w' b:=λb=>by
 obtain⟨u,d,c,e,f,j,k,l,v⟩:=oU a h.vL;by_cases hb:b=A.fb
 . subst hb
   refine .inr (.inr ⟨c,f,e,j,k,l,λi x m=>by obtain⟨_,g,_,_,_,rfl,o⟩:=h.tok i x m;exact⟨g,rfl,λn p=>by have:=(o n p).2;unfold bH.cell at this;grind⟩,λn=>?_⟩);by_cases q:n=A.fo
   . subst q;exact .inr λi=>(h.eD i).1
   . by_cases r:n=A.fo+1
     . subst r;exact .inr λi=>(h.eD i).2.1
     simp_all
 . exact .inl (d b hb)
def de.US(h:de P A Z s kk OO J M gsz w t){n:Nat}(a:n=A.fo\/n=A.fo+1):La kk OO w.heap.size (.cell ⟨A.fb,n,none⟩):=by
 have b:A.fb<w.heap.size:=by obtain⟨c,e,f⟩:=h.vL;grind
 refine⟨b,λi=>⟨λd=>?_,?_⟩⟩
 . obtain⟨_,_,_,_,e⟩:=h.PB d
   have e:n=A.fo+2+_:=e;omega
 . rcases a with rfl|rfl
   . exact(h.eD i).1
   . exact(h.eD i).2.1
def nW{b o:Nat}{e:Event}(d:(e.loc=.mark .disable\/e.loc=.mark .enable)\/∃i,(i=o\/i=o+1)/\e.loc=.cell ⟨b,i,none⟩/\e.sync=true):
 (∀a,(MemAct.ofEvent e).touch?=some a->a.kind=.atomic/\∃i,(i=o\/i=o+1)/\a.loc=.cell ⟨b,i,none⟩)/\(∀a,MemAct.ofEvent e≠.mark (.release a))/\∀B,b<B->(MemAct.ofEvent e).low B:=by
 obtain⟨loc,wr,j⟩:=e;rcases d with(h|h)|⟨i,k,h,c⟩
 . simp only at h;subst h
   simp[MemAct.ofEvent,MemAct.touch?,MemAct.low]
 . simp only at h;subst h
   simp[MemAct.ofEvent,MemAct.touch?,MemAct.low]
 . simp only at h c;subst h;subst c
   refine⟨λa f=>?_,by simp[MemAct.ofEvent],λB g=>by simpa[MemAct.ofEvent,MemAct.low,Loc.low]using g⟩;simp only[MemAct.ofEvent,MemAct.touch?,kn]at f
   grind
def de.LY(h:de P A Z s kk OO J M gsz w t){es:ads}(p:EvM A.fb A.fo es){i:Nat}(hi:bS P A s i)(fn:FuncId)(pos:String):
 BX kk OO w.heap.size t i (MemOp.ofEvents i fn pos es)/\(∀op∈MemOp.ofEvents i fn pos es,op.act.low w.heap.size)/\∀op∈MemOp.ofEvents i fn pos es,(∀a,op.act.touch?=some a->a.kind=.atomic/\zh A a.loc)/\∀a,op.act≠.mark (.release a):=by
 have v:A.fb<w.heap.size:=by obtain⟨c,e,f⟩:=h.vL;grind
 refine⟨λop d a k=>?_,λop d=>?_,λop d=>?_⟩<;>obtain⟨e,l,rfl⟩:=zR d<;>obtain⟨o,q,x⟩:=nW (p e l)
 . obtain⟨f,n,g,j⟩:=o a k
   refine⟨f,λ_=>by rw[j];exact h.US g,λm b hb r u=>h.quiet m b hb ?_ u i hi⟩
   rw[r,j];exact⟨rfl,.inl ⟨rfl,g⟩⟩
 . grind
 . refine⟨λa k=>?_,q⟩
   obtain⟨f,n,g,j⟩:=o a k;exact⟨f,by rw[j];exact⟨rfl,.inl ⟨rfl,g⟩⟩⟩
end
structure fy{P:adS}(A:bH)(s s':MS P)(i:Nat):Prop where
 w:∀l,l<A.n->A.b+l≠i->s'.w l=s.w l
 c:i≠A.cl->s'.c=s.c
 ms:i≠0->s'.ms=s.ms
 sp:s'.sp=s.sp
 d:s'.d=s.d
 iP:(∀l,l<A.n->(s'.w l).iP=(s.w l).iP)\/((dE P A s 0->∃m,s.ms=.add m\/s.ms=.spawn m)/\s.ms≠.parked)
section
variable{P:adS}{A:bH}{Fin:acP}{Z:Base}{s s':MS P}{f f':Nat->Node P}{q q':adI}{kk kk':adN}{OO OO':adM}{J J' M:adC}{gs:acX}{gsz:Nat}{w w':World}{t u:Trace}{i:Nat}{g g1:adF}
def xZ(h:∀l,l<A.n->(s'.w l).iP=(s.w l).iP):MS.rem P A.n s'=MS.rem P A.n s:=by unfold MS.rem;exact abK λl a=>by grind
def fy.live(h:fy A s s' i){j:Nat}(hj:j≠i):dE P A s' j↔dE P A s j:=by
 constructor<;>rintro(⟨b,a⟩|⟨l,a,d,f⟩|⟨b,a⟩)
 . exact .inl ⟨b,by rw[<-h.ms (λe=>hj (b.trans e.symm))];exact a⟩
 . exact .inr (.inl ⟨l,a,d,by rw[<-h.w l a (λe=>hj (d.trans e))];exact f⟩)
 . exact .inr (.inr ⟨b,by rw[<-h.c (λe=>hj (b.trans e.symm))];exact a⟩)
 . exact .inl ⟨b,by rw[h.ms (λe=>hj (b.trans e.symm))];exact a⟩
 . exact .inr (.inl ⟨l,a,d,by rw[h.w l a (λe=>hj (d.trans e))];exact f⟩)
 . exact .inr (.inr ⟨b,by rw[h.c (λe=>hj (b.trans e.symm))];exact a⟩)
def fy.walk(h:fy A s s' i){j:Nat}(hj:j≠i):gK P A s' j↔gK P A s j:=by
 constructor<;>rintro(⟨b,a⟩|⟨l,a,d,f⟩|⟨b,a⟩)
 . exact .inl ⟨b,by rw[<-h.ms (λe=>hj (b.trans e.symm))];exact a⟩
 . exact .inr (.inl ⟨l,a,d,by rw[<-h.w l a (λe=>hj (d.trans e))];exact f⟩)
 . exact .inr (.inr ⟨b,by rw[<-h.c (λe=>hj (b.trans e.symm))];exact a⟩)
 . exact .inl ⟨b,by rw[h.ms (λe=>hj (b.trans e.symm))];exact a⟩
 . exact .inr (.inl ⟨l,a,d,by rw[h.w l a (λe=>hj (d.trans e))];exact f⟩)
 . exact .inr (.inr ⟨b,by rw[h.c (λe=>hj (b.trans e.symm))];exact a⟩)
def fy.held(h:fy A s s' i){j:Nat}(hj:j≠i):fD P A s' j↔fD P A s j:=by
 constructor<;>rintro(⟨b,a⟩|⟨l,a,c,d⟩)
 . exact .inl ⟨b,by rw[<-h.ms (λe=>hj (b.trans e.symm))];exact a⟩
 . exact .inr ⟨l,a,c,by rw[<-h.w l a (λe=>hj (c.trans e))];exact d⟩
 . exact .inl ⟨b,by rw[h.ms (λe=>hj (b.trans e.symm))];exact a⟩
 . exact .inr ⟨l,a,c,by rw[h.w l a (λe=>hj (c.trans e))];exact d⟩
def ma(K:A.b+A.n+1<=Z.lk)(t:fy A s s' i)(L:∀j,j≠i->f' j=f j)(M:∀j,j≠i->q' j=q j)(N:∀j,j≠i->j<A.b+A.n+1->kk' j=kk j)(Q:∀j,j≠i->j<A.b+A.n+1->OO' j=OO j)(R:∀j,j≠i->J j->J' j)
 (o:((s.sh.ms=0->s'.sh.ms=0)/\(s.gm=0->s'.gm=0))\/(mayWake P g=true/\(g1.status=.running\/g1.status=.finished))) (S:∀{i k O y},UQ P A Fin s i k O y->y.status=.running/\y.offers=none):
 Beside (bX P A Fin Z K) s s' f f' q q' kk kk' OO OO' J J' w' i g g1:=by
 have hb:=A.hb;have wl:∀{j l:Nat},l<A.n->j≠i->j=A.b+l->s'.w l=s.w l:=λ{j l} E a e=>t.w l E (λh=>a (e.trans h))
 have x:∀{j:Nat},j≠i->j=0->s'.ms=s.ms:=λa e=>t.ms (λh=>a (e.trans h.symm))
 have H:∀{j:Nat},j≠i->j=A.cl->s'.c=s.c:=λa e=>t.c (λh=>a (e.trans h.symm))
 refine⟨L,M,N,Q,λj a _ h=>R j a h,λj a=>t.live a,λj a=>t.walk a,λj a=>t.held a,λj a E=>?_,λj k O y a _ F=>?_,λj a I=>?_,λj a I hd=>?_,λj k O y a T F=>?_,λj y a _ U=>?_⟩
 . show cq P A Fin s' j=cq P A Fin s j
   unfold cq;by_cases d:j=0
   . rcases t.iP with u|⟨u,_⟩
     . simp only[aaB d,x a d,xZ u]
     . subst d
       obtain⟨m,e|e⟩:=u E<;>simp only[aaA,x a rfl,e]
   rcases E with⟨G,_⟩|⟨l,p,r,_⟩|⟨G,_⟩
   . omega
   . have e:j-A.b=l:=by omega
     grind
   grind
 . rcases F with⟨d,h⟩|⟨l,p,r,B⟩|⟨d,h⟩
   . exact .inl ⟨d,by grind⟩
   . exact .inr (.inl ⟨l,p,r,by grind⟩)
   . exact .inr (.inr ⟨d,by grind⟩)
 . show dN P A s' j=dN P A s j
   unfold dN;rcases I with⟨d,h1⟩|⟨l,p,r,_⟩|⟨d,_⟩
   . grind
   . grind
   grind
 . rcases o with⟨o,v⟩|⟨hm,u⟩
   . refine .inl ?_
     rcases hd with⟨l,sv,Y,p,r,B,C⟩|⟨d,B,C⟩
     . exact .inl ⟨l,sv,Y,p,r,by grind,o C⟩
     . exact .inr ⟨d,by grind,v C⟩
   . refine .inr λy V=>?_
     obtain⟨W,a2⟩:=S V;have H:(mayWake P g && g1.status !=.blocked && g1.status !=.waiting)=true:=by grind
     unfold Go.Conc.woken;rw[aaB H,Aj W a2]
 . rcases F with⟨d,D,z,p,r,B,C⟩|h
   . rcases t.iP with u|⟨_,u⟩
     . exact .inl ⟨d,D,z,p,r,B,by rw[xZ u];exact C⟩
     . rcases T with⟨_,h7⟩|⟨l,_,h7,_⟩
       . simp_all
       . omega
   . exact .inr h
 . exact λl b X p r B=>U l b X p r (by grind)
variable{j:Nat}{x:bn P}{sh:Mu.Sh}
def xY(hj:j<A.n)(h:x.iP=(s.w j).iP\/((dE P A s 0->∃m,s.ms=.add m\/s.ms=.spawn m)/\s.ms≠.parked)):fy A s (s.aW j x sh) (A.b+j):=⟨λl _ a=>cy (by omega),λ_=>rfl,λ_=>rfl,rfl,rfl,h.imp_left λh l _=>by
 by_cases e:l=j
 . subst e;rw[aX,h]
 . rw[cy e]⟩
def qm(c:A.b+A.n+1<=Z.lk)(hj:j<A.n)(d:x.iP=(s.w j).iP)(e:∀i,i≠A.b+j->f' i=f i)(l:∀i,i≠A.b+j->q' i=q i)(m:∀i,i≠A.b+j->i<A.b+A.n+1->kk' i=kk i)(o:∀i,i≠A.b+j->i<A.b+A.n+1->OO' i=OO i)(p:∀i,i≠A.b+j->J i->J' i)
 (a:(s.sh.ms=0->sh.ms=0)\/(mayWake P g=true/\g1.status=.running)) (r:∀{i k O y},UQ P A Fin s i k O y->y.status=.running/\y.offers=none):
 Beside (bX P A Fin Z c) s (s.aW j x sh) f f' q q' kk kk' OO OO' J J' w' (A.b+j) g g1:=
 ma c (xY hj (.inl d)) e l m o p (a.imp (λh=>⟨h,id⟩) λh=>⟨h.1,.inl h.2⟩) r
def mS(c:A.b+A.n+1<=Z.lk)(hj:j<A.n)(d:(s.w j).work=true)(e:x.work=true)(h:∀i,i≠A.b+j->f' i=f i)(l:∀i,i≠A.b+j->q' i=q i)(m:∀i,i≠A.b+j->i<A.b+A.n+1->kk' i=kk i)(o:∀i,i≠A.b+j->i<A.b+A.n+1->OO' i=OO i)(p:∀i,J i->J' i)
 (a:(s.sh.ms=0->sh.ms=0)\/(mayWake P g=true/\g1.status=.running)) (r:∀{i k O y},UQ P A Fin s i k O y->y.status=.running/\y.offers=none):
 Beside (bX P A Fin Z c) s (s.aW j x sh) f f' q q' kk kk' OO OO' J J' w' (A.b+j) g g1:=
 qm c hj (by rw[(bC e).2.2.1,(bC d).2.2.1]) h l m o (λi _=>p i) a r
end
def bn.ku{P:adS}:bn P->Bool
 |.lk ..=>true|.un ..=>true|_=>false
def iZ{P:adS}{x:bn P}(h:x.ku=true):x.work=true:=by cases x<;>simp_all [bn.ku,bn.work]
section
variable{P:adS}{A:bH}{Fin:acP}{Z:Base}{s:MS P}{f:Nat->Node P}{q:adI}{kk:adN}{OO:adM}{J M:adC}{gs:acX}{w w':World}{t:Trace}{j:Nat}{x:bn P}{sh:Mu.Sh}{g g1:adF}
def wR(hj:j<A.n)(h:(s.w j).busy=true):dZ P A s (A.b+j):=.inl ⟨j,hj,rfl,h⟩
def iQ(I:bO A.n s)(hj:j<A.n)(h:(s.w j).jD=false):bS P A s (A.b+j):=by
 refine .inr (.inl ⟨j,?_,rfl⟩);have:=I.idle j hj
 simp_all
def ja(hj:j<A.n)(h:(s.w j).ku=true):gK P A s (A.b+j):=.inr (.inl ⟨j,hj,rfl,by cases e:s.w j<;>simp_all [bn.ku]⟩)
def mT(hj:j<A.n)(h:(s.w j).ku=true):¬dE P A s (A.b+j):=by
 have:=A.hb;rintro(⟨e,_⟩|⟨l,a,c,d⟩|⟨e,_⟩)
 . omega
 . obtain rfl:l=j:=by omega
   cases e:s.w l<;>simp_all [bn.ku]
 . omega
def qo(hj:j<A.n)(h:(s.w j).ku=true):¬fD P A s (A.b+j):=by
 have:=A.hb;rintro(⟨e,_⟩|⟨l,c,d,a⟩)
 . omega
 . obtain rfl:l=j:=by omega
   rw[a]at h;cases h
def eM(hj:j<A.n):dN P A s (A.b+j)=(s.w j).deaf:=by
 have:=A.hb;unfold dN
 grind
def Dt(u:A.b+A.n+1<=Z.lk)(L:bD (bX P A Fin Z u) Z s f q kk OO J M gs w t)(hj:j<A.n)(K:(s.w j).work=true){d:Nat}(N:Deaf t (A.b+j)=d)(Q:¬fD P A s (A.b+j))(h2:x.ku=true)(ho:x.owns=(s.w j).owns)(R:A.dir=true->x.iF=(s.w j).iF)(hI:bO A.n (s.aW j x sh))(hL:MS.gq A.n (s.aW j x sh) s)
 (hg:gs[A.b+j]?=some g){es:ads}(S:stepG P false g w=.go g1 w' es) (o:MW A.fb A.fo w w') (T:ShM A.fb A.fo w' sh) (U:EvM A.fb A.fo es) (hd:deafBehind d es=x.deaf)
 (hs:∃n g',jr P (ln A) n g1 g'/\HI P A j x (kk (A.b+j)) (OO (A.b+j)) g') (v:(s.sh.ms=0->sh.ms=0)\/(mayWake P g=true/\g1.status=.running)) (sl:acS):
 ∃ops m',runT P (crowd gs w sl) (A.b+j)=(.next m',ops)/\∃s' f' q' kk' OO' J' M' gs' z V,m'=crowd gs' z V/\MS.gq A.n s' s/\bD (bX P A Fin Z u) Z s' f' q' kk' OO' J' M' gs' z (t++ops):=by
 obtain⟨n,g',C,W⟩:=hs;have hb:=A.hb;have B:=bf (P:=P) (A:=A) (Fin:=Fin) (Z:=Z) u;have w2:=iZ h2;have p:de P A Z s kk OO J M gs.size w t:=L.ex;have X:(A.b+j==0)=false:=by simp;omega
 have D:=runT_crowd_go (P:=P) (sl:=sl) (i:=A.b+j) hg (by rw[X];exact S)
 have E:bS P A s (A.b+j):=iQ p.I hj (bC K).2.2.2.2.1;obtain⟨y1,y2,y3⟩:=p.LY U E g.frame.fn g.frame.place;have m:∀op∈MemOp.ofEvents (A.b+j) g.frame.fn g.frame.place es,op.g=A.b+j:=λop Y=>by obtain⟨e,_,rfl⟩:=zR Y;rfl
 obtain⟨m1,m2,c,e,c',m3,m4,_⟩:=oU o p.vL;have hP:=L.cN.sync (i:=A.b+j) (.inr ((p.hJ _).2 (wR hj (bC K).2.2.2.2.2.1))) m m1 (p.calm o) (p.kept o) y2 y1;have F:de P A Z (s.aW j x sh) kk OO J M gs.size w' (t++MemOp.ofEvents (A.b+j) g.frame.fn g.frame.place es):=p.work hj K w2 ho R hI T m2 ⟨c',e,m4⟩ y3
 have r:Beside (bX P A Fin Z u) s (s.aW j x sh) f f q (upd q (A.b+j) n) kk kk OO OO J J w' (A.b+j) g g1:=mS u hj K w2 (λ_ _=>rfl) (λi hi=>upd_ne q n hi) (λ_ _ _=>rfl) (λ_ _ _=>rfl) (λ_ h=>h) v (λ{i k O y} hA=>B.kU (s:=s) (i:=i) (k:=k) (O:=O) (g:=y) hA)
 have a:((s.aW j x sh).w j).ku=true:=by rw[aX];exact h2
 refine⟨_,_,D,s.aW j x sh,f,upd q (A.b+j) n,kk,OO,J,M,_,_,_,rfl,hL,?_⟩;refine bD.step B L hg m hP F (λl y G hA=>?_) r ⟨λG=>absurd G (mT hj a),λ_=>⟨mT hj a,?_,?_,g',?_,?_⟩,λhh=>absurd hh (qo hj a),λ_ hn _=>absurd (ja hj a) hn⟩
 . have H:l≠A.b+j:=λe=>Q (e ▸ G)
   exact B.th F ((r.held l H).2 G) _ _ (r.TD l _ _ _ H G hA)
 . show A.b+j<A.b+A.n+1;omega
 . rw[Deaf_own,N]
   show deafBehind d es=dN P A (s.aW j x sh) (A.b+j);rw[eM hj,aX];exact hd
 . exact .inr (.inl ⟨j,hj,rfl,by rw[aX];exact W⟩)
 . exact .inr (by rw[upd_same];exact C)
def ya(d:A.b+A.n+1<=Z.lk)(u:bD (bX P A Fin Z d) Z s f q kk OO J M gs w t)(hj:j<A.n)(e:(s.w j).ku=true)(y:x.ku=true)(z:x.owns=(s.w j).owns)(h:A.dir=true->x.iF=(s.w j).iF)(B:bO A.n (s.aW j x sh))(C:MS.gq A.n (s.aW j x sh) s)
 (D:gs[A.b+j]?=some g){es:ads}(i:stepG P false g w=.go g1 w' es) (k:MW A.fb A.fo w w') (l:ShM A.fb A.fo w' sh) (m:EvM A.fb A.fo es) (hd:deafBehind (s.w j).deaf es=x.deaf)
 (E:∃n g',jr P (ln A) n g1 g'/\HI P A j x (kk (A.b+j)) (OO (A.b+j)) g') (a:(s.sh.ms=0->sh.ms=0)\/(mayWake P g=true/\g1.status=.running)) (sl:acS):
 ∃ops v,runT P (crowd gs w sl) (A.b+j)=(.next v,ops)/\∃s' f' q' kk' OO' J' M' gs' c o,v=crowd gs' c o/\MS.gq A.n s' s/\bD (bX P A Fin Z d) Z s' f' q' kk' OO' J' M' gs' c (t++ops):=by
 have p:=ja (P:=P) (A:=A) (s:=s) hj e;obtain⟨_,_,r,_⟩:=u.walk _ p;exact Dt d u hj (iZ e) (r.trans (eM hj)) (qo hj e) y z h B C D i k l m hd E a sl
end
namespace Mu
section
variable{n:Nat}{pcs:Nat->Pc}{s:Sh}{i:Nat}
def PD{f:Pc->Nat}(h:∀p,f p<=1)(pcs:Nat->Pc)(n:Nat):fF n (λi=>f (pcs i))<=n:=by
 have:=FB (f:=λi=>f (pcs i)) (c:=1) (λi=>h _) n;omega
def Inv.Xj(h:Inv n pcs s):s.w.N<=n+1/\s.ms<=1:=by
 have b:=PD (f:=cH) (λp=>by cases p<;>simp[cH]) pcs n
 cases e:s.w.S with
 | false=>
   obtain⟨c,_,a⟩:=h.j2 e;have:s.w.K.toNat<=1:=by cases s.w.K<;>simp
   omega
 | true=>
   obtain⟨_,_,a,d⟩:=h.j3 e;have:(!s.w.L).toNat<=1:=by cases s.w.L<;>simp
   omega
def Inv.PE(h:Inv n pcs s)(hi:i<n)(a:pcs i=.held):s.w.L=true:=by
 have:bZ (pcs i)<=fF n (λj=>bZ (pcs j)):=iY (λj=>bZ (pcs j)) hi;rw[h.j1,a,show bZ .held=1 from rfl]at this
 grind
def Inv.R5(h:Inv n pcs s)(hi:i<n){old:Wd}{sv:Bool}(a:pcs i=.add old sv):s.w.L=false/\s.w.S=true/\s.w.N≠0:=by
 have:di (pcs i)<=fF n (λj=>di (pcs j)):=iY (λj=>di (pcs j)) hi;rw[a,show di (.add old sv)=1 from rfl]at this;cases e:s.w.S with
 |false=>obtain⟨_,b,_⟩:=h.j2 e;omega
 | true=>
   obtain⟨_,_,c,d⟩:=h.j3 e
   grind
end
def BZ:Pc->Bool
 |.rd _=>true|.sq ..=>true|.sw ..=>true|.kJ ..=>true|.gN _=>true|.tq=>true|.up _=>true|.add ..=>true|.held=>true|_=>false
def FU:Pc->Bool
 |.out=>true|.jq _=>true|.wq=>true|.give=>true|_=>false
def Q6(old:Wd)(l:Lo):BZ (nx old l)=true:=by unfold nx;split<;>rfl
def UT{old:Wd}{l:Lo}{p:Pc}(h:p∈hd old l):BZ p=true:=by
 unfold hd at h;rw[aaC]at h;rcases h with h|h
 . split at h
   . rw[lb]at h;subst h;split<;>rfl
   . cases h
 . rw[lb]at h;subst h;rfl
def UU{p q:Pc}{s s':Sh}(b:p=.iC\/(BZ p=true/\p≠.held))(h:(q,s')∈mv p s)(e:q≠.bad):BZ q=true:=by
 rcases b with rfl|⟨b,c⟩
 . simp only[mv]at h
   split at h<;>(rw[lb,zH]at h;obtain⟨rfl,rfl⟩:=h;rfl)
 cases p<;>simp only[BZ,LK]at b
 case rd l=>simp only[mv,lb,zH]at h;obtain⟨rfl,rfl⟩:=h;exact Q6 _ _
 case sq old l=>simp only[mv,aaL,zH]at h;obtain⟨a,d,rfl,rfl⟩:=h;exact UT d
 case sw old l=>simp only[mv]at h;split at h<;>(rw[lb,zH]at h;obtain⟨rfl,rfl⟩:=h;rfl)
 case kJ old l=>
  simp only[mv]at h;split at h
  . simp_all
  split at h
  . rw[lb,zH]at h;obtain⟨rfl,rfl⟩:=h;split<;>rfl
  . rw[lb,zH]at h;obtain⟨rfl,rfl⟩:=h;rfl
 case gN sv=>
  simp only[mv]at h;split at h
  . cases h
  . rw[lb,zH]at h;obtain⟨rfl,rfl⟩:=h;split<;>rfl
 case tq=>
  simp only[mv,aaQ,zH,abR,or_false]at h;rcases h with⟨rfl,rfl⟩|⟨rfl,rfl⟩<;>rfl
 case up sv=>
  simp only[mv]at h;split at h
  . split at h
    . simp_all
    . rw[lb,zH]at h;obtain⟨rfl,rfl⟩:=h;rfl
  . rw[lb,zH]at h;obtain⟨rfl,rfl⟩:=h;exact Q6 _ _
 case add old sv=>simp only[mv,lb,zH]at h;obtain⟨rfl,rfl⟩:=h;rfl
 simp_all
def UW{p q:Pc}{s s':Sh}(a:p=.held\/(FU p=true/\p≠.out))(h:(q,s')∈mv p s)(c:q≠.bad):FU q=true:=by
 rcases a with rfl|⟨a,b⟩
 . simp only[mv]at h
   split at h
   . simp_all
   . rw[lb,zH]at h
     obtain⟨rfl,rfl⟩:=h;split
     . rfl
     split
     . rfl
     split<;>rfl
 cases p<;>simp only[FU,LK]at a
 case out=>simp_all
 case jq old=>simp only[mv]at h;split at h<;>(rw[lb,zH]at h;obtain⟨rfl,rfl⟩:=h;rfl)
 case wq=>simp only[mv,lb,zH]at h;obtain⟨rfl,rfl⟩:=h;split<;>rfl
 case give=>simp only[mv,lb,zH]at h;obtain⟨rfl,rfl⟩:=h;rfl
def Q7{p q:Pc}{s s':Sh}(b:p≠.give)(h:(q,s')∈mv p s)(a:s.ms=0):s'.ms=0:=by
 cases p<;>simp only[mv]at h
 case out=>cases h
 case bad=>cases h
 case give=>simp_all
 case sq=>grind
 case tq=>grind
 all_goals repeat' split at h
 all_goals first
  |(cases h;done)
  |(rw[lb,zH]at h;obtain⟨_,rfl⟩:=h;first|exact a|(show s.ms-1=0;omega))
end Mu
def uS:tj->Bool
 |.iC=>true|.rd _=>true|.sq ..=>true|.sw ..=>true|.kJ ..=>true|.gN _=>true|.tq=>true|.up _=>true|.add ..=>true|.held=>true|.jq _=>true|.wq=>true|.give=>true
 |_=>false
def LZ{q:Mu.Pc}{p:tj}(h:To q p):p.abs=q:=by cases h<;>rfl
def UX{q:Mu.Pc}{p:tj}(h:To q p)(a:Mu.BZ q=true):Dl p=true/\p≠.ld/\p≠.la:=by cases h<;>simp_all [Mu.BZ,Dl]
def UY{q:Mu.Pc}{p:tj}(h:To q p)(a:Mu.FU q=true):zz p=true/\p≠.Ht/\p≠.ur/\p≠.ud:=by cases h<;>simp_all [Mu.FU,zz]
def L0{q:Mu.Pc}{p:tj}(h:To q p):q≠.bad:=by cases h<;>simp
section
variable{P:adS}{nm:zv}(C:gF P nm)(X:gJ P nm){n:Nat}{pcs:Nat->Mu.Pc}{s:Mu.Sh}{i:Nat}{p:tj}{b o:Nat}{kind:adK}{Wd:adr}{cs:adt}{g:adF}{w:World}{main:Bool}
include C X in
def Du(I:Mu.Inv n pcs s)(hi:i<n)(v:n<=900)(c:pcs i=p.abs)(f:uS p=true)(a:ShM b o w s)(h:oy P nm b o kind p cs g):
 lZ P nm b o kind Wd cs g w main p.abs s\/((∃sv,p=.gN sv)/\s.ms=0/\stepG P main g w=.go {g with status:=.blocked} w #[]):=by
 obtain⟨x,k⟩:=I.Xj;have hb:s.w.N<=1000:=by omega
 have j:∀{q s'},(q,s')∈Mu.mv (pcs i) s->Mu.loc q:=λ{q s'} f=>by
  have:=(I.step hi f).j0 i hi
  rwa [Mu.an]at this
 have d:Mu.loc (pcs i):=I.j0 i hi;rw[c]at j d;cases p<;>simp only[uS,LK]at f
 case iC=>exact .inl (IF C X a h)
 case rd l=>exact .inl (Pr C X a hb (j (q:=Mu.nx s.w l) (s':=s) (by simp[tj.abs,Mu.mv])) h)
 case sq old l=>exact .inl (Ps C X a d h)
 case sw old l=>exact .inl (Pt C X a d h)
 case kJ old l=>exact .inl (LC C X a d h)
 case gN sv=>
  by_cases e:s.ms=0
  . exact .inr ⟨⟨sv,rfl⟩,e,Dk C X a e h⟩
  . exact .inl (IG C X a e h)
 case tq=>exact .inl (Pu C X a h)
 case up sv=>exact .inl (Pv C X a hb (λq s' m=>j m) h)
 case add old sv=>obtain⟨r,t,u⟩:=I.R5 hi c;exact .inl (LG C X a hb r t u h)
 case held=>exact .inl (IH C X a hb (I.PE hi c) h)
 case jq old=>exact .inl (II C X a h)
 case wq=>exact .inl (LH C X a hb h)
 case give=>exact .inl (IJ C X a (by omega) h)
end
section
variable{P:adS}{A:bH}{Fin:acP}{Z:Base}{s:MS P}{f:Nat->Node P}{q:adI}{kk:adN}{OO:adM}{J M:adC}{gs:acX}{w:World}{t:Trace}{j:Nat}{g:adF}
def Goes(P:adS)(A:bH)(Fin:acP)(Z:Base)(f:A.b+A.n+1<=Z.lk)(s:MS P)(gs:acX)(w:World)(t:Trace)(sl:acS)(i:Nat):Prop:=∃ops e,runT P (crowd gs w sl) i=(.next e,ops)/\∃s' f' q' kk' OO' J' M' a c d,e=crowd a c d/\MS.gq A.n s' s/\bD (bX P A Fin Z f) Z s' f' q' kk' OO' J' M' a c (t++ops)
def FV(P:adS)(A:bH)(s:MS P)(gs:acX)(w:World)(sl:acS)(i:Nat)(g:adF):Prop:=R2 P A s i/\runT P (crowd gs w sl) i=(.next (crowd (gs.setIfInBounds i (blk g)) w sl),#[])
def Dv(e:gs[A.b+j]?=some g)(a:stepG P false g w=.go {g with status:=.blocked} w #[])(sl:acS):runT P (crowd gs w sl) (A.b+j)=(.next (crowd (gs.setIfInBounds (A.b+j) (blk g)) w sl),#[]):=by
 have hb:=A.hb;have c:(A.b+j==0)=false:=by simp;omega
 have h:=runT_crowd_go (P:=P) (sl:=sl) (i:=A.b+j) e (by rw[c];exact a)
 have d:woken P g {g with status:=.blocked} w=id:=funext λo=>by unfold Go.Conc.woken;simp
 rw[d,Array.map_id]at h;exact h
variable(C:gF P A.nm)(X:gJ P A.nm)
include C X in
def PF(G:A.b+A.n+1<=Z.lk)(H:bD (bX P A Fin Z G) Z s f q kk OO J M gs w t)(hj:j<A.n){p:tj}{Y:wA P}(a:s.w j=.lk p Y)(K:gs[A.b+j]?=some g)(V:HI P A j (.lk p Y) (kk (A.b+j)) (OO (A.b+j)) g)(W:p≠.la)(sl:acS):
 Goes P A Fin Z G s gs w t sl (A.b+j)\/FV P A s gs w sl (A.b+j) g:=by
 have m:de P A Z s kk OO J M gs.size w t:=H.ex;have a7:Dl p=true:=by have:=m.I.ok j hj;rw[a]at this;exact this
 have L:(s.w j).ku=true:=by rw[a];rfl
 have v:=iZ L;have l:(s.w j).pc=p.abs:=by rw[a];rfl
 have hn:=A.hn;have hb:=A.hb;have ay:(A.b+j==0)=false:=by simp;omega
 obtain⟨kind,c,rest,e,Q,R,S,T,o,r,U⟩:=V
 by_cases N:uS p=true
 . rcases Du (Wd:=ln A) (main:=false) C X m.I.mu hj hn l N m.mu R with⟨g1,w',es,qq,s',z,i,B,D,⟨hr,E,⟨k,d⟩,F⟩,a8,a9,ab,ad⟩|⟨⟨sv,rfl⟩,u,i⟩
   . left
     have al:Mu.BZ qq=true:=Mu.UU (by cases p<;>simp_all [Dl,uS,tj.abs,Mu.BZ]) B (L0 D)
     obtain⟨k1,k2,k3⟩:=UX D al;have y:((bn.lk z Y).pc,s')∈Mu.mv (s.w j).pc s.sh:=by rw[l,show(bn.lk z Y).pc=z.abs from rfl,LZ D];exact B
     have av:(s.w j).deaf=1:=by rw[a];cases p<;>simp_all [bn.deaf,uS,Dl]
     have ax:(bn.lk z Y).deaf=1:=by cases z<;>simp_all [bn.deaf]
     refine ya (x:=.lk z Y) G H hj L rfl (by rw[a];rfl) (λ_=>by rw[a];rfl) (m.I.mv hj v rfl k1 y) (HK m.I hj v rfl (by rw[a];rfl) y ?_) K i a8 a9 ab (by rw[ad,av,ax]) ⟨k,E,d,kind,c,rest,e,Q,F,S,T,o,r,U⟩ (.inl λu=>Mu.Q7 ?_ B u) sl
     . cases z<;>simp_all [bn.ex]
     . cases p<;>simp_all [uS,Dl,tj.abs]
   . right
     exact⟨.inl ⟨j,sv,Y,hj,rfl,a,u⟩,Dv K i sl⟩
 . cases p<;>simp only[uS,Dl,not_true_eq_false,LK]at N a7
   case ld=>obtain⟨g1,i,hr,E,⟨k,d⟩,F⟩:=BN (Wd:=ln A) (main:=false) (w:=w) C X R;left;exact ya (x:=.lk .iC Y) (sh:=s.sh) G H hj L rfl (by rw[a];rfl) (λ_=>by rw[a];rfl) (m.I.Yn hj v rfl rfl l rfl) (LW hj v rfl (by rw[a];rfl) l rfl (by rw[a];rfl) rfl) K i (bg rfl) m.mu (λe O=>by simp at O;subst O;exact .inl (.inl rfl)) (by rw[a];rfl) ⟨k,E,d,kind,c,rest,e,Q,F,S,T,o,r,U⟩ (.inl λu=>u) sl
   case t1 sv=>obtain⟨g1,i,hr,E,⟨k,d⟩,F⟩:=Pp (Wd:=ln A) (main:=false) (w:=w) C X R;left;exact ya (x:=.lk (.gN sv) Y) (sh:=s.sh) G H hj L rfl (by rw[a];rfl) (λ_=>by rw[a];rfl) (m.I.still hj v rfl rfl (by rw[l];rfl)) (l9 hj v rfl (by rw[a];rfl) (by rw[l];rfl) (by rw[a];simp[bn.ex])) K i (bg rfl ⟨⟨w.tick,rfl⟩,rfl⟩) (m.mu.heap rfl) fN (by rw[a];rfl) ⟨k,E,d,kind,c,rest,e,Q,F,S,T,o,r,U⟩ (.inl λu=>u) sl
   case le=>
    obtain⟨g1,i,hr,E,⟨k,d⟩,F⟩:=Hy (Wd:=ln A) (main:=false) (w:=w) C X (λw h=>h.2.2) R
    left;exact ya (x:=.lk .la Y) (sh:=s.sh) G H hj L rfl (by rw[a];rfl) (λ_=>by rw[a];rfl) (m.I.still hj v rfl rfl (by rw[l];rfl)) (l9 hj v rfl (by rw[a];rfl) (by rw[l];rfl) (by rw[a];simp[bn.ex])) K i (bg rfl) m.mu (λe O=>by simp at O;subst O;exact .inl (.inr rfl)) (by rw[a];rfl) ⟨k,E,d,kind,c,rest,e,Q,F,S,T,o,r,U⟩ (.inl λu=>u) sl
   case la=>exact absurd rfl W
end
section
variable{P:adS}{A:bH}{Fin:acP}{Z:Base}{s:MS P}{f:Nat->Node P}{q:adI}{kk:adN}{OO:adM}{J M:adC}{gs:acX}{w:World}{t:Trace}{j:Nat}{g:adF}
variable(C:gF P A.nm)(X:gJ P A.nm)
include C X in
def PG(B:A.b+A.n+1<=Z.lk)(L:bD (bX P A Fin Z B) Z s f q kk OO J M gs w t)(hj:j<A.n){p:tj}{Y:wA P}(a:s.w j=.un p Y)(Q:gs[A.b+j]?=some g)(R:HI P A j (.un p Y) (kk (A.b+j)) (OO (A.b+j)) g)(S:p≠.ur)(T:p≠.ue)(sl:acS):
 Goes P A Fin Z B s gs w t sl (A.b+j):=by
 have m:de P A Z s kk OO J M gs.size w t:=L.ex;have F:zz p=true:=by have:=m.I.ok j hj;rw[a]at this;exact this
 have N:(s.w j).ku=true:=by rw[a];rfl
 have D:=iZ N;have i:(s.w j).pc=p.abs:=by rw[a];rfl
 have hn:=A.hn;have hb:=A.hb;obtain⟨kind,c,rest,U,O,V,W,G⟩:=R
 by_cases u:uS p=true
 . have a7:¬(p=.Ht\/p=.ur):=by rintro(rfl|rfl)<;>cases u
   have hN:=G a7
   rcases Du (Wd:=ln A) (main:=false) C X m.I.mu hj hn i u m.mu O with⟨g1,w',es,qq,s',o,l,y,z,⟨hr,H,⟨k,d⟩,K⟩,a8,a9,ab,ad⟩|⟨⟨sv,rfl⟩,E,l⟩
   . have al:Mu.FU qq=true:=Mu.UW (by cases p<;>simp_all [zz,uS,tj.abs,Mu.FU]) y (L0 z)
     obtain⟨k1,k2,k3,k4⟩:=UY z al;have r:((bn.un o Y).pc,s')∈Mu.mv (s.w j).pc s.sh:=by rw[i,show(bn.un o Y).pc=o.abs from rfl,LZ z];exact y
     have av:(s.w j).deaf=1:=by rw[a];cases p<;>simp_all [bn.deaf,uS,zz]
     have ax:(bn.un o Y).deaf=1:=by cases o<;>simp_all [bn.deaf]
     have ay:(s.w j).owns=false:=by rw[a];cases p<;>simp_all [bn.owns,uS,zz]
     have aC:(bn.un o Y).owns=false:=by cases o<;>simp_all [bn.owns]
     refine ya (x:=.un o Y) B L hj N rfl (by rw[ay,aC]) (λ_=>by rw[a];rfl) (m.I.mv hj D rfl k1 r) (HK m.I hj D rfl (by rw[a];rfl) r ?_) Q l a8 a9 ab (by rw[ad,av,ax]) ⟨k,H,d,kind,c,rest,U,K,V,λh=>absurd h (λh=>h.elim k2 k3),λ_=>hN⟩ ?_ sl
     . cases o<;>simp_all [bn.ex]
     . by_cases aE:p=.give
       . subst aE;exact .inr ⟨IQ C X O,hr⟩
       . refine .inl λE=>Mu.Q7 ?_ y E
         cases p<;>simp_all [uS,zz,tj.abs]
   . exact absurd F (by simp[zz])
 . cases p<;>simp only[uS,zz,not_true_eq_false,LK]at u F
   case Ht=>
    obtain⟨v,hv⟩:=((bf (P:=P) (A:=A) (Fin:=Fin) (Z:=Z) B).wd m).2.2;obtain⟨g1,l,hr,H,⟨k,d⟩,K⟩:=xQ (Wd:=ln A) (main:=false) (w:=w) C X (λw h=>h.2.2) hv O
    exact ya (x:=.un .ur Y) (sh:=s.sh) B L hj N rfl (by rw[a];rfl) (λ_=>by rw[a];rfl) (m.I.still hj D rfl rfl (by rw[i];rfl)) (l9 hj D rfl (by rw[a];rfl) (by rw[i];rfl) (by rw[a];simp[bn.ex])) Q l (bg rfl) m.mu fN (by rw[a];rfl) ⟨k,H,d,kind,c,rest,U,K,V,λ_=>W (.inl rfl),λh=>absurd (.inr rfl) h⟩ (.inl λE=>E) sl
   case ud=>
    have hN:=G (by rintro(h|h)<;>cases h)
    obtain⟨g1,l,hr,H,⟨k,d⟩,K⟩:=Hv (Wd:=ln A) (main:=false) (w:=w) C X O;exact ya (x:=.un .held Y) (sh:=s.sh) B L hj N rfl (by rw[a];rfl) (λ_=>by rw[a];rfl) (m.I.still hj D rfl rfl (by rw[i];rfl)) (l9 hj D rfl (by rw[a];rfl) (by rw[i];rfl) (by rw[a];simp[bn.ex])) Q l (bg rfl) m.mu (λe he=>by simp at he;subst he;exact .inl (.inl rfl)) (by rw[a];rfl) ⟨k,H,d,kind,c,rest,U,K,V,λh=>absurd h (by simp),λ_=>hN⟩ (.inl λE=>E) sl
   case ur=>exact absurd rfl S
   case ue=>exact absurd rfl T
end
def TT.R6{P:adS}{m:Mo}{K:aj}{O:ak}{g1 a:adF}(h:sk P (λ_=>True) g1 a)(e:TT P m K O a):TT P m K O g1:=.step (λb c d=>b=K/\c=O/\d=a) h.1 (λb c d f=>by obtain⟨rfl,rfl,rfl⟩:=f;exact e) (λw g=>⟨a,w,#[],K,O,h.2 _ w trivial,Eff.refl _ _ _,g,rfl,rfl,rfl⟩)
def TT.Dw{P:adS}{m:Mo}{K:aj}{O:ak}{g1 a:adF}(h:sk P (λ_=>True) g1 a)(b:TT P m K O a){z:Node P}(c:pN z ⟨m,K,O,g1,TT.R6 h b⟩):z=⟨m,K,O,a,b⟩:=by
 unfold TT.R6 at c;cases c with
 |step _ _ _ _ d=>obtain⟨rfl,rfl,rfl⟩:=d;rfl
def TT.pre{P:adS}{m:Mo}{K:aj}{O:ak}:∀{k:Nat}{g1 a:adF},jr P (λ_=>True) k g1 a->(X:TT P m K O a)->∃T:TT P m K O g1,vM ⟨m,K,O,g1,T⟩ ⟨m,K,O,a,X⟩
 |0,g1,a,h,X=>by obtain rfl:g1=a:=h;exact⟨X,.refl _⟩
 | k + 1,g1,a,⟨d,c,h⟩,X=>by
   obtain⟨b,g⟩:=TT.pre h X;refine⟨TT.R6 c b,λy hy f=>?_⟩;rcases hy with rfl|hy
   . exact f.elim
   . have:y=⟨m,K,O,d,b⟩\/Relation.TransGen pN y ⟨m,K,O,d,b⟩:=by
      cases hy with
      |single h=>exact .inl (TT.Dw c b h)
      | tail i j=>
        have e:=TT.Dw c b j
        simp_all
     exact g y this f
section
variable{P:adS}{A:bH}{Fin:acP}{Z:Base}{s:MS P}{f:Nat->Node P}{q:adI}{kk:adN}{OO:adM}{J M:adC}{gs:acX}{w:World}{t:Trace}{j:Nat}{g:adF}
def kz(hj:j<A.n){h:Bool}{X:Node P}(e:s.w j=.run h X):dE P A s (A.b+j):=.inr (.inl ⟨j,hj,rfl,by simp_all⟩)
def uT(hj:j<A.n){h:Bool}{X:Node P}(e:s.w j=.run h X):¬gK P A s (A.b+j):=by
 have:=A.hb;rintro(⟨e,_⟩|⟨l,a,c,d⟩|⟨e,_⟩)
 . omega
 . simp_all
 . omega
def j7(hj:j<A.n){h:Bool}{X:Node P}(e:s.w j=.run h X):¬fD P A s (A.b+j):=by
 have:=A.hb;rintro(⟨e,_⟩|⟨l,a,c,d⟩)
 . omega
 simp_all
def nX(hj:j<A.n){h:Bool}{X:Node P}(e:s.w j=.run h X):cq P A Fin s (A.b+j)=iE P A j:=by
 have:=A.hb;unfold cq
 grind
variable(C:gF P A.nm)(X:gJ P A.nm)(F:mI P A.nm)
include C X F in
def PH(z:A.b+A.n+1<=Z.lk)(D:bD (bX P A Fin Z z) Z s f q kk OO J M gs w t)(hj:j<A.n){Y:wA P}(E:s.w j=.un .ue Y)(hg:gs[A.b+j]?=some g)(W:HI P A j (.un .ue Y) (kk (A.b+j)) (OO (A.b+j)) g)(d:A.dir=false)(sl:acS):
 Goes P A Fin Z z s gs w t sl (A.b+j):=by
 have p:de P A Z s kk OO J M gs.size w t:=D.ex;have B:=bf (P:=P) (A:=A) (Fin:=Fin) (Z:=Z) z;have h1:(s.w j).ku=true:=by rw[E];rfl
 have u:=iZ h1;have hb:=A.hb;have a7:(A.b+j==0)=false:=by simp;omega
 obtain⟨kind,c,rest,hk,hM,hm,ax,a8⟩:=W;have G:=a8 (by simp)
 rw[show Ff P A Y.N=Y.N by simp[Ff,d]]at G
 obtain⟨g1,a9,hr,g2,H,K⟩:=BO (Wd:=λ_=>True) (main:=false) (w:=w) C X hM
 obtain⟨k,ab⟩:=H.trans (l8 F K hk);obtain⟨T,hU⟩:=TT.pre ab (Y.c _ _ _ G);obtain⟨x,v⟩:∃x:bn P,x=.run false ⟨Y.m,kk (A.b+j),OO (A.b+j),_,Y.c _ _ _ G⟩:=⟨_,rfl⟩;have V:x.work=true:=by rw[v];rfl
 have a:∀sh,((s.aW j x sh).w j)=.run false ⟨Y.m,kk (A.b+j),OO (A.b+j),_,Y.c _ _ _ G⟩:=λsh=>by rw[aX,v]
 have ad:EvM A.fb A.fo #[⟨.mark .enable,false,true⟩]:=λe he=>by simp at he;subst he;exact .inl (.inr rfl)
 have L:=runT_crowd_go (P:=P) (sl:=sl) (i:=A.b+j) hg (by rw[a7];exact a9)
 have Q:bS P A s (A.b+j):=iQ p.I hj (bC u).2.2.2.2.1;obtain⟨y1,y2,y3⟩:=p.LY ad Q g.frame.fn g.frame.place;have o:∀op∈MemOp.ofEvents (A.b+j) g.frame.fn g.frame.place #[⟨.mark .enable,false,true⟩],op.g=A.b+j:=λop al=>by obtain⟨e,_,rfl⟩:=zR al;rfl
 have hJ:J (A.b+j):=(p.hJ _).2 (wR hj (bC u).2.2.2.2.2.1);have hP:=D.cN.sync (i:=A.b+j) (.inr hJ) o rfl ⟨⟨.refl _,rfl⟩,λ_ _=>rfl⟩ (λb=>.inl rfl) y2 y1
 have hI:bO A.n (s.aW j x s.sh):=p.I.still hj u V (by rw[v];rfl) (by rw[v,E];rfl)
 have hL:MS.gq A.n (s.aW j x s.sh) s:=BW hj u V ⟨_,_,by rw[v];rfl,by rw[E];rfl,.single (pN.dh Y.N Y.h0 Y.ht Y.c G)⟩
 have R:de P A Z (s.aW j x s.sh) kk OO J M gs.size w (t++MemOp.ofEvents (A.b+j) g.frame.fn g.frame.place #[⟨.mark .enable,false,true⟩]):=p.work hj u V (by rw[v,E];rfl) (λh=>by rw[d]at h;cases h) hI p.mu (λ_ _=>rfl) p.vL y3
 have r:Beside (bX P A Fin Z z) s (s.aW j x s.sh) f (bR f (A.b+j) ⟨Y.m,kk (A.b+j),OO (A.b+j),g1,T⟩) q q kk kk OO OO J J w (A.b+j) g g1:=mS z hj u V (λi hi=>az _ _ hi) (λi hi=>rfl) (λ_ _ _=>rfl) (λ_ _ _=>rfl) (λ_ h=>h) (.inl λh=>h) (λ{i k O y} K=>B.kU (s:=s) (i:=i) (k:=k) (O:=O) (g:=y) K)
 have S:=ja (P:=P) (A:=A) (s:=s) hj h1;refine⟨_,_,L,s.aW j x s.sh,bR f (A.b+j) ⟨Y.m,kk (A.b+j),OO (A.b+j),g1,T⟩,q,kk,OO,J,M,_,_,_,rfl,hL,?_⟩;refine bD.step B D hg o hP R (λl y hl K=>?_) r ⟨λ_=>?_,λh=>absurd h (uT hj (a _)),λh=>absurd h (j7 hj (a _)),λh=>absurd (kz hj (a _)) h⟩
 . have U:l≠A.b+j:=λe=>(D.held l hl).2.1 (by rw[e];exact S)
   exact B.th R ((r.held l U).2 hl) _ _ (r.TD l _ _ _ U hl K)
 . rw[au]
   refine⟨by show A.b+j<A.b+A.n+1;omega,rfl,?_,rfl,rfl,hr,?_,.inr hJ,λl b X' h3 h4 h5=>?_⟩
   . show Y.m=cq P A Fin (s.aW j x s.sh) (A.b+j)
     rw[nX hj (a _)];exact hm
   . obtain⟨_,_,av,_⟩:=D.walk _ S
     rw[Deaf_own,av];show deafBehind (dN P A s (A.b+j)) _=0;rw[eM hj,E];rfl
   . obtain rfl:l=j:=by omega
     rw[a]at h5;cases h5;exact hU
end
section
variable{Z:Base}{kk:adN}{OO:adM}{J M:adC}{w:World}{t:Trace}
def jb(kk:adN)(lk i:Nat):adN:=bR kk i ((kk i).join (kk lk))
def iG(OO:adM)(lk i mb:Nat)(x:Own):adM:=bR (bR OO i ((OO i).set mb x)) lk ak.bot
def cB.UZ(h:cB Z kk OO J M w t){i mb:Nat}{x:Own}(hi:i≠Z.lk)(L:OO Z.lk mb=some x)(ho:∀c,OO Z.lk c≠none->c=mb)(N:Z.la.block<w.heap.size)(hd:Deaf t i=0)(hold:∀m a,m<Z.N0->touchAt t m=some a->a.loc.isMemory=true -> ¬Z.Shun a.loc->Knows t i m)(V:∀m a,Z.N0<=m->t.act? m≠some (.mark (.release a)))(fn:FuncId)(pos:String):
 cB Z (jb kk Z.lk i) (iG OO Z.lk i mb x) J M w (t++MemOp.ofEvents i fn pos #[⟨.mark (.acquire Z.la),false,true⟩]):=by
 obtain⟨u,S⟩:∃u,u=MemOp.ofEvents i fn pos #[⟨.mark (.acquire Z.la),false,true⟩]:=⟨_,rfl⟩;have G:u=#[⟨i,fn,pos,.mark (.acquire Z.la)⟩]:=by rw[S,ofEvents_eq];simp[MemAct.ofEvent]
 rw[<-S];have A:kL u:=λop d=>by grind
 have W:∀op∈u,op.act.touch?=none:=λop d=>by rw[G]at d;simp at d;subst d;rfl
 have H:∀op∈u,op.g=i:=λop d=>by grind
 have I:∀m a,Z.N0<=m->(t++u).act? m≠some (.mark (.release a)):=λm a O e=>by
  rcases qX e with⟨o,_⟩|⟨op,d,o⟩
  . grind
  grind
 have X:OO i mb=none:=h.jA Z.lk i mb x (za hi) L;have eK:∀l,l≠i->jb kk Z.lk i l=kk l:=λl Y=>az _ _ Y
 have q:jb kk Z.lk i i=(kk i).join (kk Z.lk):=au _ _ _;have eO:∀l,l≠i->l≠Z.lk->iG OO Z.lk i mb x l=OO l:=λl o B=>by unfold iG;rw[az _ _ B,az _ _ o]
 have C:iG OO Z.lk i mb x i=(OO i).set mb x:=by unfold iG;rw[az _ _ hi,au]
 have D:iG OO Z.lk i mb x Z.lk=ak.bot:=by unfold iG;rw[au]
 refine h.uH (λa b=>a=b\/(a=Z.lk/\b=i)) rfl ⟨⟨.refl _,rfl⟩,λ_ _=>rfl⟩ (λb=>.inl rfl) (λop d=>by rw[G]at d;simp at d;subst d;simpa[MemAct.low]using N) (λa b e n y P O hz E=>?_) (λl b n v K=>?_) (λl b sv K=>?_) (λl b y f=>?_) (λa l b y r f=>?_)
  (λsaid=>noRace_append (h.clean said) H λn a Q op d b hb _=>by grind) (λop d a Q=>by grind) (λm op a d Q=>by grind)
  (λn a Q O h=>h.elim (λ⟨j,o,B⟩=>.inr (.inl ⟨j,o,B.app _⟩)) (λ⟨p,o,B⟩=>.inr (.inr (.inl ⟨p,o,B.app _⟩))))
 . rcases e with rfl|⟨rfl,rfl⟩
   . exact E.app u
   . refine(oH hi).2 ?_
     unfold Iy at E;rw[aaB rfl]at E
     rcases E with E|⟨p,h0,o,B,h3⟩
     . exact(hold n y E P O hz).app u
     . exact nu (y:=⟨b,fn,pos,.mark (.acquire Z.la)⟩) (m:=0) A (by grind) rfl hd o B (λk E=>I k _ (by omega)) h3
 . by_cases e:l=i
   . subst e;rw[q]at K
     exact(aj.nP K).elim (λh=>⟨l,.inl rfl,h⟩) (λh=>⟨Z.lk,.inr ⟨rfl,rfl⟩,h⟩)
   grind
 . by_cases e:l=i
   . subst e;rw[q]at K
     exact(aj.Hl K).elim (λh=>⟨l,.inl rfl,h⟩) (λh=>⟨Z.lk,.inr ⟨rfl,rfl⟩,h⟩)
   grind
 . by_cases e:l=i
   . subst e;rw[C]at f
     by_cases z:b=mb
     . subst z
       simp only[ak.set,aaA,kn]at f;subst f;exact⟨Z.lk,.inr ⟨rfl,rfl⟩,L,λsv R=>by rw[q];exact(aj.xH (h.sat l) (h.sat Z.lk)).2 b sv R⟩
     . simp only[ak.set,z,Rp]at f
       exact⟨l,.inl rfl,f,λsv R=>by rw[q];exact(aj.s8 _ _).2 b sv R⟩
   . by_cases T:l=Z.lk
     . subst T;rw[D]at f;cases f
     . rw[eO l e T]at f;grind
 . by_cases F:a=Z.lk
   . subst F;rw[D]at f;cases f
   by_cases s:l=Z.lk
   . subst s;rw[D];rfl
   by_cases U:a=i
   . subst U
     rw[C]at f;rw[eO l (za r) s]
     by_cases z:b=mb
     . subst z;exact h.jA Z.lk l b x (za s) L
     . simp only[ak.set,z,Rp]at f;exact h.jA a l b y r f
   . rw [eO a U F]at f
     by_cases el:l=i
     . subst el
       rw[C]
       by_cases z:b=mb
       . subst z
         have:=h.jA Z.lk a b x (za F) L
         simp_all
       . simp only[ak.set,z,Rp];exact h.jA a l b y r f
     . rw[eO l el s];exact h.jA a l b y r f
end
section
variable{Z:Base}{kk:adN}{OO:adM}{J M:adC}{w:World}{t:Trace}
def oV(kk:adN)(lk i:Nat):adN:=bR kk lk (kk i)
def fP(OO:adM)(lk i mb fb:Nat)(x:Own):adM:=bR (bR OO i (((OO i).del mb).del fb)) lk (ak.bot.set mb x)
def cB.U1(h:cB Z kk OO J M w t){i mb fb:Nat}{x:Own}(hi:i≠Z.lk)(T:OO i mb=some x)(ho:∀c,OO Z.lk c=none)(N:Z.la.block<w.heap.size)(hd:Deaf t i=0)(fn:FuncId)(pos:String):
 cB Z (oV kk Z.lk i) (fP OO Z.lk i mb fb x) J M w (t++MemOp.ofEvents i fn pos #[⟨.mark (.releaseMerge Z.la),false,true⟩]):=by
 obtain⟨u,R⟩:∃u,u=MemOp.ofEvents i fn pos #[⟨.mark (.releaseMerge Z.la),false,true⟩]:=⟨_,rfl⟩;have F:u=#[⟨i,fn,pos,.mark (.releaseMerge Z.la)⟩]:=by rw[R,ofEvents_eq];simp[MemAct.ofEvent]
 rw[<-R];have s:kL u:=λop d=>by grind
 have U:∀op∈u,op.act.touch?=none:=λop d=>by rw[F]at d;simp at d;subst d;rfl
 have G:∀op∈u,op.g=i:=λop d=>by grind
 have z:u[0]?=some ⟨i,fn,pos,.mark (.releaseMerge Z.la)⟩:=by grind
 have eK:∀l,l≠Z.lk->oV kk Z.lk i l=kk l:=λl V=>az _ _ V
 have W:oV kk Z.lk i Z.lk=kk i:=au _ _ _;have eO:∀l,l≠i->l≠Z.lk->fP OO Z.lk i mb fb x l=OO l:=λl H I=>by unfold fP;rw[az _ _ I,az _ _ H]
 have k:fP OO Z.lk i mb fb x i=((OO i).del mb).del fb:=by unfold fP;rw[az _ _ hi,au]
 have A:fP OO Z.lk i mb fb x Z.lk=ak.bot.set mb x:=by unfold fP;rw[au]
 have K:∀b y,(((OO i).del mb).del fb) b=some y->b≠mb/\OO i b=some y:=λb y f=>by
  by_cases q:b=fb
  . simp[ak.del,q]at f
  by_cases r:b=mb
  . simp[ak.del,r]at f
  . exact⟨r,by simpa[ak.del,q,r]using f⟩
 have L:∀b y,(ak.bot.set mb x) b=some y->b=mb/\y=x:=λb y f=>by
  by_cases e:b=mb
  . subst e;simp only[ak.set,aaA,kn]at f;simp_all
  . simp only[ak.set,e,Rp]at f;cases f
 have B:∀b,OO i b=none->(((OO i).del mb).del fb) b=none:=λb X=>by
  by_cases q:b=fb
  . simp[ak.del,q]
  by_cases r:b=mb
  . grind
  . simpa[ak.del,q,r]using X
 refine h.uH (λa b=>a=b\/(a=i/\b=Z.lk)) rfl ⟨⟨.refl _,rfl⟩,λ_ _=>rfl⟩ (λb=>.inl rfl) (λop d=>by rw[F]at d;simp at d;subst d;simpa[MemAct.low]using N) (λa b e n y Y hm hz S=>?_) (λl b n v hv=>?_) (λl b sv hv=>?_) (λl b y f=>?_) (λa l b y o f=>?_)
  (λsaid=>noRace_append (h.clean said) G λn a O op d b hb _=>by grind) (λop d a O=>by grind) (λm op a d O=>by grind)
  (λn a O hm h=>h.elim (λ⟨j,H,I⟩=>.inr (.inl ⟨j,H,I.app _⟩)) (λ⟨p,H,I⟩=>.inr (.inr (.inl ⟨p,H,I.app _⟩))))
 . rcases e with rfl|⟨rfl,rfl⟩
   . exact S.app u
   . have P:Knows t a n:=(oH hi).1 S
     unfold Iy;rw[aaB rfl];exact .inr ⟨t.size+0,by have:=h.n0;omega,by rw[act?_of (dz z)],heard_new s z hd,lU P z rfl⟩
 . grind
 . grind
 . by_cases r:l=Z.lk
   . subst r;rw[A]at f
     grind
   by_cases e:l=i
   . subst e;rw[k]at f
     grind
   . rw[eO l e r]at f;grind
 . by_cases C:a=Z.lk
   . subst C;rw[A]at f
     obtain⟨rfl,rfl⟩:=L b y f
     by_cases el:l=i
     . subst el;rw[k]
       by_cases q:b=fb
       . simp[ak.del,q]
       . simp[ak.del,q]
     . rw[eO l el (za o)];exact h.jA i l b y (za el) T
   by_cases D:l=Z.lk
   . subst D;rw[A]
     have Q:b≠mb:=by
      by_cases E:a=i
      . subst E;rw[k]at f;grind
      . rw[eO a E C]at f
        intro e;subst e;have:=h.jA a i b y E f
        grind
     simp only[ak.set,Q,Rp];rfl
   by_cases E:a=i
   . subst E
     rw[k]at f;rw[eO l (za o) D];exact h.jA a l b y o (K b y f).2
   . rw[eO a E C]at f
     by_cases el:l=i
     . subst el;rw[k];exact B b (h.jA a l b y o f)
     . rw[eO l el D];exact h.jA a l b y o f
end
section
variable{P:adS}{A:bH}{Fin:acP}{Z:Base}{s:MS P}{f:Nat->Node P}{q:adI}{kk:adN}{OO:adM}{J M:adC}{gs:acX}{gsz:Nat}{w:World}{t u:Trace}{j:Nat}{g:adF}{x:bn P}{xo:Own}
def IS{x:bn P}(h:x.owns=true):x.pc=.held:=by
 cases x with
 |run b X=>cases b<;>simp_all [bn.owns,bn.pc]
 |un p Y=>cases p<;>simp_all [bn.owns,bn.pc,tj.abs]
 |_=>simp_all [bn.owns]
def Dx(I:bO A.n s)(hj:j<A.n)(a:(s.w j).pc=.held){l:Nat}(b:l<A.n)(c:(s.w l).owns=true):l=j:=by
 by_cases e:l=j
 . exact e
 . have g:=I.mu.j1
   have d:=Mu.gE Mu.bZ (λi=>(s.w i).pc) j .out hj
   have f:Mu.bZ (Mu.set (λi=>(s.w i).pc) j .out l)<=Mu.fF A.n (λi=>Mu.bZ (Mu.set (λi=>(s.w i).pc) j .out i)):=Mu.iY (λi=>Mu.bZ (Mu.set (λi=>(s.w i).pc) j .out i)) b
   rw[Mu.ai _ _ e,IS c]at f;have h:Mu.bZ .held=1:=rfl;have k:Mu.bZ .out=0:=rfl;rw[a]at d;have:s.sh.w.L.toNat<=1:=by cases s.sh.w.L<;>simp
   omega
def kV(A:bH)(Z:Base)(OO:adM)(i:Nat)(x:Own)(a:Nat->adn):adM:=bR (iG OO Z.lk i A.mb x) i ((iG OO Z.lk i A.mb x i).set A.fb (.part a))
def bH.Tk.O0{f:Nat->adn}(h:A.Tk j f){l:Nat}(a:f l≠none):A.dir=true/\l=A.cell j:=by
 unfold bH.Tk at h;split at h
 . grind
 . subst h;exact absurd rfl a
def de.take{p:Nat->adn}(H:A.Tk j p)(hZ:A.b+A.n+1<=Z.lk)(h:de P A Z s kk OO J M gsz w t)(hj:j<A.n)(f:(s.w j).work=true)(K:x.work=true)(L:∀l,l<A.n->(s.w l).owns=false)(F:x.owns=true)(V:bO A.n (s.aW j x s.sh))(W:∀op∈u,op.act.touch?=none/\∀a,op.act≠.mark (.release a)):
 de P A Z (s.aW j x s.sh) (jb kk Z.lk (A.b+j)) (kV A Z OO (A.b+j) xo p) J M gsz w (t++u):=by
 have S:A.b+j≠Z.lk:=by omega
 have r:x.busy=(s.w j).busy:=by rw[(bC f).2.2.2.2.2.1,(bC K).2.2.2.2.2.1]
 have N:∀l,l≠A.b+j->jb kk Z.lk (A.b+j) l=kk l:=λl d=>az _ _ d
 have O:jb kk Z.lk (A.b+j) (A.b+j)=(kk (A.b+j)).join (kk Z.lk):=au _ _ _;have eO:∀l,l≠A.b+j->l≠Z.lk->kV A Z OO (A.b+j) xo p l=OO l:=λl f K=>by unfold kV iG;rw[az _ _ f,az _ _ K,az _ _ f]
 have z:kV A Z OO (A.b+j) xo p (A.b+j)=((OO (A.b+j)).set A.mb xo).set A.fb (.part p):=by unfold kV iG;rw[au,az _ _ S,au]
 have B:kV A Z OO (A.b+j) xo p Z.lk=ak.bot:=by unfold kV iG;rw[az _ _ (za S),au]
 have C:bS P A s (A.b+j):=iQ h.I hj (bC f).2.2.2.2.1
 have T:∀i,OO i A.fb=none:=λi=>by
  cases e:OO i A.fb with
  |none=>rfl
  | some y=>
    obtain⟨l,_,d,_,ho,_⟩:=h.tok i y e
    grind
 have g:∀{c n:Nat},(∀i,(kk i).cell c n=none)->(jb kk Z.lk (A.b+j) (A.b+j)).cell c n=none:=λ{c n} X=>by
  rw[O];cases e:((kk (A.b+j)).join (kk Z.lk)).cell c n with
  |none=>rfl
  |some v=>rcases aj.nP e with h|h<;>rw[X]at h<;>cases h
 refine⟨V,h.size,h.dd,h.off,λhd l d=>?_,h.Ao,h.mu,h.gr,h.vL,h.zB,λi=>?_,λi=>?_,λi y D=>?_,λl d k=>?_,λk=>?_,λc U=>?_,
  λi=>by rw[h.hJ i];exact(oT hj r i).symm,h.vN u,h.mR u,h.kr u (λop o a Q=>by simp_all),h.oR u (λop o a Q=>by simp_all),h.qk u,h.jE u (λop o=>(W op o).2),λi d hb=>?_,h.te,h.jZ,h.fq,h.la,by simp;exact aaG h.n0 (abu _ _)⟩
 . by_cases e:l=j
   . subst e
     rw[aX];exact⟨λE=>by(rw[Ap F]at E;cases E),λR=>by simp[bn.rel,F]at R⟩
   . rw[cy e]
     refine⟨λE=>⟨λi=>?_,λm a Y Q q q'=>(dV Q).elim (λf=>((h.zi hd l d).1 E).2 m a Y f.1 q q') (λ⟨op,o,f⟩=>by simp_all)⟩,λR=>?_⟩
     . have f:=((h.zi hd l d).1 E).1
       grind
     . rw[N _ (by omega)];exact(h.zi hd l d).2 R
 . by_cases e:i=A.b+j
   . subst e;rw[z]
     have:=h.gL (A.b+j);simp only[ak.set,A.d1,A.d3,za A.d4,A.d6,Rp];exact this
   by_cases G:i=Z.lk
   . subst G;rw[B];exact⟨λ_=>rfl,rfl⟩
   . rw[eO i e G];exact h.gL i
 . by_cases e:i=A.b+j
   . subst e
     exact⟨g λi=>(h.eD i).1,g λi=>(h.eD i).2.1,g λi=>(h.eD i).2.2.1,g λi=>(h.eD i).2.2.2⟩
   . rw[N i e];exact h.eD i
 . by_cases e:i=A.b+j
   . subst e;rw[z]at D
     simp only[ak.set,aaA,kn]at D;exact⟨j,p,hj,rfl,by rw[aX];exact F,D.symm,λ_=>H.O0⟩
   by_cases G:i=Z.lk
   . subst G;rw[B]at D;cases D
   simp_all
 . by_cases e:l=j
   . subst e;rw[z];simp[ak.set]
   . rw[cy e,L l d]at k;cases k
 . have:=k j hj
   rw[aX,F]at this;cases this
 . rw[B]at U;exact absurd rfl U
 . have e:i≠A.b+j:=λe=>hb (e ▸ C)
   rw[N i e,eO i e d];exact h.Dp i d hb
end
section
variable{P:adS}{A:bH}{Fin:acP}{Z:Base}{s:MS P}{f:Nat->Node P}{q:adI}{kk:adN}{OO:adM}{J M:adC}{gs:acX}{w:World}{t:Trace}{j:Nat}{g:adF}
variable(C:gF P A.nm)(X:gJ P A.nm)(F:mI P A.nm)
include C X F in
def PI(hZ:A.b+A.n+1<=Z.lk)(H:bD (bX P A Fin Z hZ) Z s f q kk OO J M gs w t)(hj:j<A.n){Y:wA P}(S:s.w j=.lk .la Y)(hg:gs[A.b+j]?=some g)(b5:HI P A j (.lk .la Y) (kk (A.b+j)) (OO (A.b+j)) g)(sl:acS):
 Goes P A Fin Z hZ s gs w t sl (A.b+j):=by
 have d:de P A Z s kk OO J M gs.size w t:=H.ex;have B:=bf (P:=P) (A:=A) (Fin:=Fin) (Z:=Z) hZ;have r:(s.w j).ku=true:=by rw[S];rfl
 have w1:=iZ r;have b6:(s.w j).pc=.held:=by rw[S];rfl
 have hb:=A.hb;have o:A.b+j≠Z.lk:=by omega
 have b7:(A.b+j==0)=false:=by simp;omega
 have U:∀l,l<A.n->(s.w l).owns=false:=λl E=>by
  cases e:(s.w l).owns with
  |false=>rfl
  |true=>obtain rfl:=Dx d.I hj b6 E e;rw[S]at e;cases e
 have L:∀i,OO i A.fb=none:=λi=>by
  cases e:OO i A.fb with
  |none=>rfl
  |some y=>obtain⟨l,_,E,_,ho,_⟩:=d.tok i y e;rw[U l E]at ho;cases ho
 obtain⟨xo,a,a9,b8,b9⟩:=d.OY U;obtain⟨kind,c,rest,e,hk,hM,hm,hO,ab,bm,hN⟩:=b5;obtain⟨cc,ee,al⟩:=d.vL
 have av:e=(ee,cc.size):=by have hs:=(H.cN.sat (A.b+j)).sh _ _ ab;simp only[World.shape?,al]at hs;exact(aaS hs).symm
 obtain⟨p,V,ax⟩:∃p,A.Tk j p/\∀n v,p n=some v->A.dir=true/\n=A.cell j/\cc[n]?=some v:=by
  unfold bH.Tk
  by_cases hd:A.dir=true
  . have:=bm hd
    rw[av]at this;refine⟨λi=>if i=A.cell j then some cc[A.cell j]else none,by rw[aaB hd];exact⟨_,rfl⟩,λn v G=>?_⟩
    simp only at G;split at G
    . next e=>subst e;exact⟨hd,rfl,by rw[<-G];exact aaM this⟩
    . cases G
  . exact⟨LQ,by rw[aay hd],λn v G=>by cases G⟩
 have ay:(kk Z.lk).Le ((kk (A.b+j)).join (kk Z.lk)):=aj.xH (H.cN.sat (A.b+j)) (H.cN.sat Z.lk);have u:=hN ((kk (A.b+j)).join (kk Z.lk)) xo a p (aj.s8 _ _) (b8.mono ay) b9 (H.cN.jA Z.lk (A.b+j) _ _ (za o) a9) V;obtain⟨g1,aC,hr,g2,aE,hA⟩:=Hx (Wd:=λ_=>True) (main:=false) (w:=w) C X hM
 obtain⟨k,bw⟩:=aE.trans (tv F hA hk);rw[<-d.la]at aC;have W:jb kk Z.lk (A.b+j) (A.b+j)=(kk (A.b+j)).join (kk Z.lk):=au _ _ _;have bA:kV A Z OO (A.b+j) xo p (A.b+j)=((OO (A.b+j)).set A.mb xo).set A.fb (.part p):=by unfold kV iG;rw[au,az _ _ o,au]
 rw[<-W,<-bA]at u;obtain⟨T,hU⟩:=TT.pre bw (Y.c _ _ _ u);obtain⟨x,hx⟩:∃x:bn P,x=.run true ⟨Y.m,jb kk Z.lk (A.b+j) (A.b+j),kV A Z OO (A.b+j) xo p (A.b+j),_,Y.c _ _ _ u⟩:=⟨_,rfl⟩;have w2:x.work=true:=by rw[hx];rfl
 have z:∀sh,((s.aW j x sh).w j)=.run true ⟨Y.m,jb kk Z.lk (A.b+j) (A.b+j),kV A Z OO (A.b+j) xo p (A.b+j),_,Y.c _ _ _ u⟩:=λsh=>by rw[aX,hx]
 have aL:=runT_crowd_go (P:=P) (sl:=sl) (i:=A.b+j) hg (by rw[b7];exact aC)
 have aO:=ja (P:=P) (A:=A) (s:=s) hj r
 have K:Deaf t (A.b+j)=0:=by obtain⟨_,_,K,_⟩:=H.walk _ aO;rw[K];show dN P A s (A.b+j)=0;rw[eM hj,S];rfl
 have Q:bS P A s (A.b+j):=iQ d.I hj (bC w1).2.2.2.2.1;have hJ:J (A.b+j):=(d.hJ _).2 (wR hj (bC w1).2.2.2.2.2.1);have b0:∀op∈MemOp.ofEvents (A.b+j) g.frame.fn g.frame.place #[⟨.mark (.acquire Z.la),false,true⟩],op.g=A.b+j:=λop D=>by obtain⟨e,_,rfl⟩:=zR D;rfl
 have b1:∀op∈MemOp.ofEvents (A.b+j) g.frame.fn g.frame.place #[⟨.mark (.acquire Z.la),false,true⟩],op.act.touch?=none/\∀a,op.act≠.mark (.release a):=λop D=>by obtain⟨e,he,rfl⟩:=zR D;simp at he;subst he;exact⟨rfl,λa h=>by simp[MemAct.ofEvent]at h⟩
 have b2:A.fb<w.heap.size:=by obtain⟨c,e,r⟩:=d.vL;exact(zs.1 r).1
 have bB:=H.cN.UZ o a9 (λc hc=>(d.OZ c hc).1) (by rw[d.la];exact b2) K (λm a hm ha b3 hz=>d.old _ Q m a hm ha b3 hz) d.norel g.frame.fn g.frame.place
 have a7:∀l,iG OO Z.lk (A.b+j) A.mb xo l A.fb=none:=λl=>by
  unfold iG
  by_cases e1:l=Z.lk
  . subst e1;rw[au];rfl
  by_cases e2:l=A.b+j
  . subst e2;rw[az _ _ e1,au];simp only[ak.set,A.d5,Rp];exact L _
  . rw[az _ _ e1,az _ _ e2];exact L _
 have b4:A.dir=true->(∀i,(kk i).cell A.fb (A.cell j)=none)/\∀m a R,touchAt t m=some a->a.loc=.cell R->R.block=A.fb/\R.off=A.cell j->m<Z.N0:=λhd=>(d.zi hd j hj).1 (by rw[S];rfl)
 have a8:∀n,p n≠none->A.dir=true/\n=A.cell j:=λn hn=>V.O0 hn
 have hP:=bB.Ui (f:=p) o a7 (λn v G i=>by
  obtain⟨hd,rfl,_⟩:=ax n v G;have r:=(b4 hd).1
  by_cases ei:i=A.b+j
  . subst ei
    rw[W];cases q:((kk (A.b+j)).join (kk Z.lk)).cell A.fb (A.cell j)with
    |none=>rfl
    |some v=>rcases aj.nP q with h|h<;>rw[r]at h<;>cases h
  . unfold jb;rw[az _ _ ei];exact r i) (λR r h2=>d.jZ R ⟨r,.inr (.inr ⟨(a8 _ h2).1,j,hj,(a8 _ h2).2⟩)⟩) (by
  refine⟨cc,ee,al,?_,λn v G=>(ax n v G).2.2⟩
  rw[W];refine(aj.s8 _ _).2 _ _ ?_;rw[ab,av]) (λm a R ha E r h2=>by
  obtain⟨hd,h3⟩:=a8 _ h2
  rcases dV ha with⟨h4,_⟩|⟨op,D,h4⟩
  . exact(d.old _ Q m a ((b4 hd).2 m a R h4 E ⟨r,h3⟩) h4 (by rw[E];rfl) (by rw[E];exact d.jZ R ⟨r,.inr (.inr ⟨hd,j,hj,h3⟩)⟩)).app _
  . rw[(b1 op D).1]at h4;cases h4) d.fq.2.1
 have hI:bO A.n (s.aW j x s.sh):=d.I.still hj w1 w2 (by rw[hx];rfl) (by rw[hx,S];rfl)
 have hL:MS.gq A.n (s.aW j x s.sh) s:=BW hj w1 w2 ⟨_,_,by rw[hx];rfl,by rw[S];rfl,.single (pN.dh Y.N Y.h0 Y.ht Y.c u)⟩
 have c5:=d.take (xo:=xo) V hZ hj w1 w2 U (by rw[hx];rfl) hI b1
 have c6:Beside (bX P A Fin Z hZ) s (s.aW j x s.sh) f (bR f (A.b+j) ⟨Y.m,jb kk Z.lk (A.b+j) (A.b+j),kV A Z OO (A.b+j) xo p (A.b+j),g1,T⟩) q q kk (jb kk Z.lk (A.b+j)) OO (kV A Z OO (A.b+j) xo p) J J w (A.b+j) g g1:=mS hZ hj w1 w2 (λi hi=>az _ _ hi) (λi hi=>rfl) (λi hi _=>az _ _ hi) (λi hi ht=>by unfold kV iG;rw[az _ _ hi,az _ _ (show i≠Z.lk by omega),az _ _ hi]) (λ_ h=>h) (.inl λh=>h) (λ{i k O y} hA=>B.kU (s:=s) (i:=i) (k:=k) (O:=O) (g:=y) hA)
 refine⟨_,_,aL,s.aW j x s.sh,bR f (A.b+j) ⟨Y.m,jb kk Z.lk (A.b+j) (A.b+j),kV A Z OO (A.b+j) xo p (A.b+j),g1,T⟩,q,jb kk Z.lk (A.b+j),kV A Z OO (A.b+j) xo p,J,M,_,_,_,rfl,hL,?_⟩;refine bD.step B H hg b0 hP c5 (λl y E hA=>?_) c6 ⟨λ_=>?_,λh=>absurd h (uT hj (z _)),λh=>absurd h (j7 hj (z _)),λh=>absurd (kz hj (z _)) h⟩
 . have c7:l≠A.b+j:=λe=>(H.held l E).2.1 (by rw[e];exact aO)
   exact B.th d E _ _ hA
 . rw[au]
   refine⟨by show A.b+j<A.b+A.n+1;omega,rfl,?_,rfl,rfl,hr,?_,.inr hJ,λl b X' h3 h4 h5=>?_⟩
   . show Y.m=cq P A Fin (s.aW j x s.sh) (A.b+j)
     rw[nX hj (z _)];exact hm
   . rw[Deaf_own,K];rfl
   . obtain rfl:l=j:=by omega
     rw[z]at h5;cases h5;exact hU
end

import Derived.Conc.CrowdComm
import Derived.Test.YtebcbkhnlnkolaaGreatDoorC9
set_option linter.all false
namespace Go.bU
section
open Go.Conc
open Go.ConcN (sumTo upd sumTo_upd upd_ne upd_same)
structure bY where
 b:Nat
 n:Nat
 cl:Nat
 cF:Nat
 fb:Nat
 fo:Nat
 gb:Nat
 mb:Nat
 GI:qF->Prop
 res:Nat->AV
 val:Nat->Value
 nm:Ev
 ng:Qp
 hb:0<b/\(cl=0\/cl=b+n)
 hn:n<=900
 d1:cF≠fb
 d2:cF≠gb
 d3:cF≠mb
 d4:fb≠gb
 d5:fb≠mb
 d6:gb≠mb
def bY.dir(A:bY):Bool:=A.cl==0
def bY.cell(A:bY)(j:Nat):Nat:=A.fo+2+j
def MK{A:bY}(h:A.dir=true):A.cl=0:=by simpa[bY.dir]using h
def wB{A:bY}(h:A.dir=false):A.cl=A.b+A.n:=by have:=A.hb;simp[bY.dir]at h;omega
def iD:adr:=λ_ _ _=>False
def ML:Nat->adD:=λ_=>none
def bY.Tk(A:bY)(j:Nat)(f:Nat->adD):Prop:=if A.dir then ∃v,f=λi=>if i=A.cell j then some v else none else f=ML
def bR(fo:Nat):Nat->adD:=λi=>if i=fo then some (.int .i32 0)else if i=fo+1 then some (.int .u32 0)else none
section
variable(P:adY)(A:bY)(Fin:adr)
def RS(j:Nat)(k:ar)(O:ak)(g:adP)(N:adr):Prop:=
 ∃ kind c rest e,kind≠.early/\g=G (Frame.enter P A.nm.lock #[.pointer (some ⟨A.fb,A.fo,none⟩)] kind) (c::rest)/\O A.fb=none/\k.sh A.fb=some e/\(A.dir=true->A.cell j<e.2)/\
   ∀b x a f,k.Le b->lz b x a->A.GI a->O A.mb=none->A.Tk j f->N b ((O.set A.mb x).set A.fb (.part f)) (kT kind c rest (.tuple #[]))
def IB(j:Nat)(k:ar)(O:ak)(g:adP)(N:adr):Prop:=
 ∃ kind c rest f x a,kind≠.early/\g=G (Frame.enter P A.nm.unlock #[.pointer (some ⟨A.fb,A.fo,none⟩)] kind) (c::rest)/\O A.fb=some (.part f)/\O A.mb=some x/\lz k x a/\A.GI a/\(A.dir=true->k.cell A.fb (A.cell j)=some (A.val j))/\
   N k ((O.del A.mb).del A.fb) (kT kind c rest (.tuple #[]))
def lT:Mo:=⟨false,false,λk O g N=>N=iD/\∃a fn tmps todo,P.funcs[a]?=some fn/\fn.results=#[]/\g=G (Frame.enter P A.ng.done #[.pointer (some ⟨A.gb,0,none⟩)] .deferred) [lG P a tmps todo,cU P]⟩
def Gd(N:adr):adr:=if A.dir then T P (lT P A) iD else N
def iX(j:Nat):Mo:=⟨false,false,λk O g N=>RS P A j k O g N\/IB P A j k O g (Gd P A N)\/(A.dir=false/\N=iD/\O A.fb=none/\∃a z v,(∀w,Sat k O w->stepG P false g w=.comm a #[scase A.cF v z] true .send w #[])/\V k v (A.res j)/\T P (lT P A) iD k O (Go.Conc.served a undef))⟩
def sY:Mo:=⟨false,false,λk O g N=>N=iD/\∃a n,mayWake P g=true/\(∀w s r b,Sat k O w->w.heap[A.cF]?=some (.chan 0 #[] false s r b)->stepG P false g w=.go a {w with heap:=w.heap.setIfInBounds A.cF (.chan 0 #[] true s r b)} #[⟨.obj A.cF,false,true⟩,⟨.obj A.cF,true,true⟩])/\QuitsD P n 0 a⟩
def yW:Mo:=⟨false,false,λk O g N=>N=iD/\∃c rest,g=G (Frame.enter P A.ng.wait #[.pointer (some ⟨A.gb,0,none⟩)] .normal) (c::rest)/\∀a,k.Le a->T P (sY P A) iD a O (kT .normal c rest (.tuple #[]))⟩
def VF(k:ar)(O:ak)(c:Frame)(rest:adK):Prop:=(∃e,k.sh A.fb=some e)/\∀b x a,k.Le b->(∀j,j<A.n->b.cell A.fb (A.cell j)=some (A.val j))->lz b x a->A.GI a->Fin b ((O.set A.mb x).set A.fb (.part (bR A.fo))) (kT .normal c rest (.tuple #[]))
def er(k:ar)(O:ak)(g a:adP)(z:Value):Prop:=∀w,Sat k O w->stepG P true g w=.comm a #[rcase A.cF z] true (.recv true) w #[]
def sD:Nat->adR->Mo
 | 0,R=>⟨true,false,λk O g N=>N=iD/\∃b z,er P A k O g b z/\er P A k O b b z/\b.status=.running/\(∃e,k.sh A.fb=some e)/\
    ∀c x a,k.Le c->lz c x a->A.GI a->Fin c ((O.set A.mb x).set A.fb (.part (bR A.fo))) (Go.Conc.served b (.tuple #[z,.bool false]))⟩
 | m + 1,R=>⟨true,false,λk O g N=>N=iD/\∃b z,er P A k O g b z/\er P A k O b b z/\b.status=.running/\
     ∀j∈R,∀c v,k.Le c->V c v (A.res j)->T P (sD m (R.erase j)) iD c O (Go.Conc.served b (.tuple #[v,.bool true]))⟩
def qp:Nat->Mo
 |0=>if A.dir then⟨true,false,λk O g N=>N=iD/\∃c rest,g=G (Frame.enter P A.ng.wait #[.pointer (some ⟨A.gb,0,none⟩)] .normal) (c::rest)/\VF A Fin k O c rest⟩else⟨true,false,λk O g N=>N=iD/\∃a child,(∀w,Sat k O w->stepG P true g w=.spawn a child w #[])/\T P (yW P A) iD k ak.bot child/\T P (sD P A Fin A.n (List.range A.n)) iD k O a⟩
 | m + 1=>⟨true,false,λk O g N=>N=iD/\∃c rest,g=G (Frame.enter P A.ng.add #[.pointer (some ⟨A.gb,0,none⟩),.int .i64 1] .normal) (c::rest)/\
     T P ⟨true,false,λk O g N=>N=iD/\∃a child,(∀w,Sat k O w->stepG P true g w=.spawn a child w #[])/\T P (iX P A (A.n-(m+1))) iD k ak.bot child/\T P (qp m) iD k O a⟩ iD k O (kT .normal c rest (.tuple #[]))⟩
def GR(m:Nat):Mo:=⟨true,false,λk O g N=>N=iD/\∃a child,(∀w,Sat k O w->stepG P true g w=.spawn a child w #[])/\T P (iX P A (A.n-(m+1))) iD k ak.bot child/\T P (qp P A Fin m) iD k O a⟩
structure JM where
 m:Mo
 k:ar
 O:ak
 g:adP
 N:adr
 h0:g.status=.running
 ht:m.dB k O g N
 c:∀k' O' g',N k' O' g'->TT P m k' O' g'
variable {P} in
def JM.node(y:JM P):Node P:=⟨y.m,y.k,y.O,y.g,.dB y.N y.h0 y.ht y.c⟩
inductive bD where
 |idle
 |run (h:Bool) (X:Node P)
 |lk (p:CP) (Y:JM P)
 |un (p:CP) (Y:JM P)
 |wait
 |Aj
 |dn (p:Iy)
 |gone
inductive kK where
 |none|eZ|wt (p:Iy)|j8|gone
inductive qA where
 |add (j:Nat)|bM (j:Nat) (p:Iy)|spawn (j:Nat)|recv|parked|off
structure MS where
 d:Bool
 ms:qA
 sp:Nat
 w:Nat->bD P
 c:kK
 sh:Mu.Sh
 gc:Nat
 gv:Nat
 gm:Nat
def CP.abs:CP->Mu.Pc
 |.ld=>.out|.iU=>.iU|.rd l=>.rd l|.sq o l=>.sq o l|.sw o l=>.sw o l|.lx o l=>.lx o l|.t1 sv=>.iq sv|.iq sv=>.iq sv|.tq=>.tq|.up sv=>.up sv|.add o sv=>.add o sv
 |.le=>.held|.la=>.held|.back=>.held|.Im=>.held|.ur=>.held|.ud=>.held|.held=>.held|.jM o=>.jM o|.wY=>.wY|.give=>.give|.ue=>.out|.EA=>.out
variable{P}
def bD.pc:bD P->Mu.Pc
 |.run true _=>.held
 |.lk p _=>p.abs
 |.un p _=>p.abs
 |_=>.out
def bD.owns:bD P->Bool
 |.run h _=>h
 |.un .Im _=>true
 |.un .ur _=>true
 |_=>false
def EI:CP->Bool
 |.ld=>true|.iU=>true|.rd _=>true|.sq ..=>true|.sw ..=>true|.lx ..=>true|.t1 _=>true|.iq _=>true|.tq=>true|.up _=>true|.add ..=>true|.le=>true|.la=>true
 |_=>false
def Az:CP->Bool
 |.Im=>true|.ur=>true|.ud=>true|.held=>true|.jM _=>true|.wY=>true|.give=>true|.ue=>true
 |_=>false
def bD.deaf:bD P->Nat
 |.lk .ld _=>0|.lk .la _=>0|.lk _ _=>1
 |.un .Im _=>0|.un .ur _=>0|.un .ud _=>0|.un _ _=>1
 |.dn .d1=>0|.dn .d2=>0|.dn _=>1
 |_=>0
def uj:Iy->Nat
 |.a0=>0|.a2=>1|.a4=>1|.ae=>1
 |.w0=>0|.w1=>1|.we=>1|.wa=>0|.w2 _=>1|.w3=>1|.w4=>1|.w5=>1
 |_=>0
def bD.cM:bD P->Nat
 |.idle=>0|.run ..=>20|.lk ..=>20|.un ..=>20|.wait=>19|.Aj=>18
 |.dn .d1=>12|.dn .d2=>11|.dn .d4=>10|.dn .d5=>4|.dn .d6=>3|.dn _=>2|.gone=>0
def kK.cM(gc:Nat):kK->Nat
 |.none=>0|.eZ=>14
 |.wt .w0=>13|.wt .w1=>10|.wt (.w2 k)=>if gc=k then 9 else 11|.wt .w3=>8|.wt .w4=>7|.wt .w5=>6|.wt .we=>5|.wt _=>4
 |.j8=>3|.gone=>0
def qA.cM:qA->Nat
 |.add j=>40*j+200|.bM j .a0=>40*j+199|.bM j .a2=>40*j+198|.bM j .a4=>40*j+197|.bM j _=>40*j+196
 |.spawn j=>40*j+225|.recv=>100|.parked=>99|.off=>0
def MS.cM(n:Nat)(s:MS P):Nat:=s.ms.cM+sumTo n (λj=>(s.w j).cM)+s.c.cM s.gc
def CY(n:Nat):Nat:=4*(6*(18*n+1)+16)+20
def bD.ex(n:Nat):bD P->Nat
 |.run ..=>2*CY n|.lk .ld _=>CY n|.lk (.t1 _) _=>1|.lk .le _=>2|.lk .la _=>1
 |.un .Im _=>5|.un .ur _=>4|.un .ud _=>3|.un .ue _=>1|_=>0
def MS.inner(n:Nat)(s:MS P):Nat:=4*Mu.meas n (λj=>(s.w j).pc) s.sh+sumTo n (λj=>(s.w j).ex n)
def bD.nd:bD P->Option (Node P)
 |.run _ X=>some X|.lk _ Y=>some Y.node|.un _ Y=>some Y.node|_=>none
end
def JN{P}(a b:Option (Node P)):Prop:=∃x y,a=some x/\b=some y/\Relation.TransGen qy x y
def MM{P}:∀a:Option (Node P),Acc JN a:=by
 have key:∀x:Node P,Acc (Relation.TransGen qy) x->Acc JN (some x):=by
  intro x b;induction b with
  |intro x _ c=>exact⟨_,λy ⟨u,v,d,f,h⟩=>by simp_all⟩
 intro a;cases a with
 |none=>exact⟨_,λy ⟨u,v,_,e,_⟩=>by cases e⟩
 |some x=>exact key x ((WellFounded.intro Es).transGen.apply x)
def MN{α:Type}(R:α->α->Prop)(n:Nat)(f' f:Nat->α):Prop:=∃i,i<n/\(∀j,j≠i->f' j=f j)/\R (f' i) (f i)
def EJ{α R}(d:∀a,Acc R a):∀  n  (f:Nat->α),Acc (MN R n) f
 |0,f=>⟨_,λy ⟨i,e,_⟩=>by omega⟩
 | n + 1,f=>by
   have key:∀x:α,Acc R x->∀f:Nat->α,f n=x->Acc (MN R (n+1)) f:=by
    intro x g;induction g with
    | intro x _ h=>
      intro f m;have j:=EJ d n f;induction j with
      | intro f _ b=>
        refine⟨_,λf' ⟨i,e,c,k⟩=>?_⟩;by_cases l:i=n
        . grind
        . exact b f' ⟨i,by omega,c,k⟩ (by grind)
   simp_all
def MS.gX{P}(n:Nat)(s' s:MS P):Prop:=s'.cM n<s.cM n\/(s'.cM n=s.cM n/\(MN JN n (λj=>(s'.w j).nd) (λj=>(s.w j).nd)\/((λj=>(s'.w j).nd)=(λj=>(s.w j).nd)/\s'.inner n<s.inner n)))
def Qv{P}  n :WellFounded (MS.gX (P:=P) n):=by
 have c:WellFounded (MN (JN (P:=P)) n):=⟨EJ MM n⟩;have d:=(Prod.lex ⟨Nat.lt,Nat.lt_wfRel.wf⟩ (Prod.lex ⟨MN (JN (P:=P)) n,c⟩ ⟨Nat.lt,Nat.lt_wfRel.wf⟩)).wf;refine Subrelation.wf (r:=InvImage _ (λs:MS P=>(s.cM n,(λj=>(s.w j).nd),s.inner n))) ?_ (InvImage.wf _ d);intro s' s h;rcases h with h|⟨h,b|⟨b,a⟩⟩
 . exact Prod.Lex.left _ _ h
 . show Prod.Lex _ _ (_,_) (_,_)
   grind
 . show Prod.Lex _ _ (_,_) (_,_)
   rw[h,b];exact Prod.Lex.right _ (Prod.Lex.right _ a)
section
variable{P:adY}
def bD.ji:bD P->Bool
 |.Aj=>true|.dn _=>true|.gone=>true|_=>false
def bD.iY:bD P->Bool
 |.idle=>false|.run h _=>h|.lk ..=>false|_=>true
def bD.rel(x:bD P):Bool:=x.iY && !x.owns
def bD.cnt:bD P->Nat
 |.run ..=>1|.lk ..=>1|.un ..=>1|.wait=>1|.Aj=>1|.dn .d1=>1|.dn .d2=>1|.dn .d4=>1|_=>0
def bD.busy:bD P->Bool
 |.run ..=>true|.lk ..=>true|.un ..=>true|.wait=>true|.Aj=>true|.dn .d1=>true|_=>false
def bD.last:bD P->Bool
 |.dn .d5=>true|.dn .d6=>true|.dn .d7=>true|_=>false
def bD.j9:bD P->Bool
 |.idle=>true|_=>false
def bD.ok:bD P->Bool
 |.lk p _=>EI p
 |.un p _=>Az p
 |.dn p=>(match p with|.d1=>true|.d2=>true|.d4=>true|.d5=>true|.d6=>true|.d7=>true|_=>false)
 |_=>true
def kK.busy:kK->Bool
 |.eZ=>true|.wt _=>true|.j8=>true|_=>false
def kK.ok:kK->Bool
 |.wt p=>(match p with|.w0=>true|.w1=>true|.w2 _=>true|.w3=>true|.w4=>true|.w5=>true|.we=>true|.wa=>true|_=>false)
 |_=>true
def kK.waits:kK->Bool
 |.wt .w3=>true|.wt .w4=>true|_=>false
def kK.MO:kK->Bool
 |.wt .w5=>true|.wt .we=>true|.wt .wa=>true|.j8=>true|.gone=>true|_=>false
def kK.isNone:kK->Bool
 |.none=>true|_=>false
def kK.fj:kK->Bool
 |.gone=>true|_=>false
def qA.pend:qA->Nat
 |.bM _ .a4=>1|.bM _ .ae=>1|.spawn _=>1|_=>0
structure cj(n:Nat)(s:MS P):Prop where
 g1:s.gc=sumTo n (λj=>(s.w j).cnt)+s.ms.pend
 g2:s.gv<=1
 Cf:s.gv=1->s.c.waits=true/\s.gm=0
 g3:∀j,j<n->(s.w j=.dn .d5\/s.w j=.dn .d6)->s.gv=1/\s.gc=0
 IC:∀i j,i<n->j<n->(s.w i).last=true->(s.w j).last=true->i=j
 g4:∀j,j<n->s.w j=.dn .d7->s.gv=0/\s.gc=0/\s.gm=0/\s.c.waits=true
 g5:s.gm<=1/\(s.gm=1->s.c.waits=true/\s.gv=0/\s.gc=0/\∀j,j<n->(s.w j).last=false)
 g6:s.c.waits=true->s.gv=0->s.gm=0->∃j,j<n/\s.w j=.dn .d7
 g7:s.gv=1->s.gc=0->∃j,j<n/\(s.w j=.dn .d5\/s.w j=.dn .d6)
 g8:s.c.MO=true->s.gc=0/\s.gv=0/\s.gm=0/\∀j,j<n->s.w j=.gone
 g9:∀k,s.c=.wt (.w2 k)->k≠0
 ok:∀j,j<n->(s.w j).ok=true
 Um:s.c.ok=true
 sp:s.sp<=n
 idle:∀j,j<n->((s.w j).j9=true↔s.sp<=j)
 ms:match s.ms with
  |.add j=>s.sp+j=n/\s.c=.none
  |.bM j p=>s.sp+j=n/\s.c=.none/\1<=j/\(p=.a0\/p=.a2\/p=.a4\/p=.ae)
  |.spawn j=>s.sp+j+1=n/\s.c=.none
  |.recv=>s.sp=n/\s.c≠.none
  |.parked=>s.sp=n/\s.c≠.none/\s.c≠.gone/\∀j,j<n->s.w j≠.wait
  |.off=>s.sp=n/\s.c≠.none
 early:s.d=false->s.c=.none->∀j,j<n->(s.w j).ji=false
 mu:Mu.Inv n (λj=>(s.w j).pc) s.sh
end
variable(P:adY)(A:bY)(Fin:adr)
def MS.rem(n:Nat)(s:MS P):adR:=(List.range n).filter λj=>!(s.w j).ji
def dR(s:MS P)(i:Nat):Prop:=(i=0/\(match s.ms with|.add _=>True|.spawn _=>True|.recv=>True|_=>False))\/(∃j,j<A.n/\i=A.b+j/\(match s.w j with|.run ..=>True|.Aj=>True|_=>False))\/(i=A.cl/\(match s.c with|.eZ=>True|.j8=>True|_=>False))
def il(s:MS P)(i:Nat):Prop:=(i=0/\(match s.ms with|.bM ..=>True|_=>False))\/(∃j,j<A.n/\i=A.b+j/\(match s.w j with|.lk ..=>True|.un ..=>True|.dn _=>True|_=>False))\/(i=A.cl/\(match s.c with|.wt _=>True|_=>False))
def fY(s:MS P)(i:Nat):Prop:=(i=0/\s.ms=.parked)\/(∃j,j<A.n/\i=A.b+j/\s.w j=.wait)
def cS(s:MS P)(i:Nat):Mo:=
 if i=0 then(match s.ms with|.add j=>qp P A Fin j|.spawn j=>GR P A Fin j|_=>sD P A Fin (MS.rem P A.n s).length (MS.rem P A.n s))
 else if i<A.b+A.n then(match s.w (i-A.b)with|.run ..=>iX P A (i-A.b)|_=>lT P A)else(match s.c with|.eZ=>yW P A|_=>sY P A)
def GU(s:MS P)(i:Nat):(cS P A Fin s i).main=(i==0):=by
 have c:∀m R,(sD P A Fin m R).main=true:=λm R=>by cases m<;>rfl
 have b:∀m,(qp P A Fin m).main=true:=λm=>by
  cases m with
  |zero=>unfold qp;grind
  |succ m=>rfl
 unfold cS;by_cases a:i=0
 . subst a
   simp only[aay,beq_self_eq_true];split
   . exact b _
   . rfl
   simp_all
 . have:(i==0)=false:=by simp_all
   rw[aau a,this];split
   . split<;>rfl
   . split<;>rfl
def ID(j:Nat)(x:bD P)(k:ar)(O:ak)(g:adP):Prop:=
 match x with
 |.lk p Y=>∃kind c rest e,kind≠.early/\pe P A.nm A.fb A.fo kind p (c::rest) g/\Y.m=iX P A j/\O A.fb=none/\k.sh A.fb=some e/\(A.dir=true->A.cell j<e.2)/\∀b x a f,k.Le b->lz b x a->A.GI a->O A.mb=none->A.Tk j f->Y.N b ((O.set A.mb x).set A.fb (.part f)) (kT kind c rest (.tuple #[]))
 | .un p Y=>∃kind c rest,kind≠.early/\pe P A.nm A.fb A.fo kind p (c::rest) g/\Y.m=iX P A j/\
    ((p=.Im\/p=.ur)->∃f x a,O A.fb=some (.part f)/\O A.mb=some x/\lz k x a/\A.GI a/\(A.dir=true->k.cell A.fb (A.cell j)=some (A.val j))/\Gd P A Y.N k ((O.del A.mb).del A.fb) (kT kind c rest (.tuple #[])))/\
    (¬(p=.Im\/p=.ur)->Gd P A Y.N k O (kT kind c rest (.tuple #[])))
 |.dn p=>∃d fn tmps todo,P.funcs[d]?=some fn/\fn.results=#[]/\sB P A.ng A.gb .deferred p [lG P d tmps todo,cU P] g
 |_=>False
def Uo(x:kK)(k:ar)(O:ak)(g:adP):Prop:=
 match x with
 |.wt p=>∃c rest,sB P A.ng A.gb .normal p (c::rest) g/\if A.dir then VF A Fin k O c rest else ∀a,k.Le a->T P (sY P A) iD a O (kT .normal c rest (.tuple #[]))
 |_=>False
def Xi(x:qA)(k:ar)(O:ak)(g:adP):Prop:=
 match x with
 |.bM j p=>∃c rest,sB P A.ng A.gb .normal p (c::rest) g/\T P (GR P A Fin (j-1)) iD k O (kT .normal c rest (.tuple #[]))
 |_=>False
def VG(s:MS P)(i:Nat)(k:ar)(O:ak)(g:adP):Prop:=(i=0/\Xi P A Fin s.ms k O g)\/(∃j,j<A.n/\i=A.b+j/\ID P A j (s.w j) k O g)\/(i=A.cl/\Uo P A Fin s.c k O g)
def SO(s:MS P)(i:Nat):Prop:=(∃j sv Y,j<A.n/\i=A.b+j/\s.w j=.lk (.iq sv) Y/\s.sh.ms=0)\/(i=A.cl/\s.c=.wt .w4/\s.gm=0)
def Ya(s:MS P)(i:Nat)(k:ar)(O:ak)(g:adP):Prop:=
 (i=0/\∃a z,g=parked a #[rcase A.cF z] (.recv true)/\er P A k O a a z/\a.status=.running/\(sD P A Fin (MS.rem P A.n s).length (MS.rem P A.n s)).dB k O a iD)\/
 (∃j,j<A.n/\i=A.b+j/\∃a z v,g=parked a #[scase A.cF v z] .send/\V k v (A.res j)/\O A.fb=none/\T P (lT P A) iD k O (Go.Conc.served a undef)/\A.dir=false)
def eu(s:MS P)(i:Nat):Nat:=
 if i=0 then(match s.ms with|.bM _ p=>uj p|.off=>(match s.c with|.wt p=>uj p|_=>0)|_=>0)
 else if i<A.b+A.n then(s.w (i-A.b)).deaf else(match s.c with|.wt p=>uj p|_=>0)
def lU(w:World):Prop:=(∃v,w.cell? ⟨A.gb,0,none⟩=some v)/\(∃v,w.cell? ⟨A.gb,1,none⟩=some v)/\∃v,w.cell? ⟨A.fb,A.fo,none⟩=some v
def Ak(A:bY):Loc->Prop
 |.cell a=>a.spot=none/\((a.block=A.fb/\(a.off=A.fo\/a.off=A.fo+1))\/(a.block=A.gb/\(a.off=0\/a.off=1)))
 |.obj r=>r=A.cF/\A.dir=false
 |_=>False
def eQ(s:MS P)(i:Nat):Prop:=(∃j,j<A.n/\i=A.b+j/\(s.w j).busy=true)\/(i=A.cl/\s.c.busy=true)
def cr(s:MS P)(i:Nat):Prop:=i=0\/(∃j,j<s.sp/\i=A.b+j)\/(i=A.cl/\s.c≠.none)
abbrev xe(s:MS P):Prop:=(A.dir=true->s.c≠.none->s.ms=.off)/\(A.dir=true->s.ms≠.recv/\s.ms≠.parked/\s.c≠.eZ/\s.c≠.j8/\s.c≠.gone)/\(A.dir=false->s.ms≠.off)
structure dq(Z:Base)(s:MS P)(kk:adX)(OO:adW)(J M:adM)(gsz:Nat)(w:World)(t:Trace):Prop where
 I:cj A.n s
 size:gsz=A.b+s.sp+(if s.c.isNone||A.dir then 0 else 1)
 dd:s.d=A.dir
 off:xe P A s
 Al:A.dir=true->∀j,j<A.n->((s.w j).iY=false->(∀i,(kk i).cell A.fb (A.cell j)=none)/\∀m a ad,touchAt t m=some a->a.loc=.cell ad->ad.block=A.fb/\ad.off=A.cell j->m<Z.N0)/\((s.w j).rel=true->(kk (A.b+j)).cell A.fb (A.cell j)=some (A.val j))
 Bp:A.dir=false->∃x tm,w.heap[A.cF]?=some (.chan 0 #[] s.c.fj x x tm)
 mu:ShM A.fb A.fo w s.sh
 gr:sA A.gb w s.gc s.gv s.gm
 wC:∃c e,w.heap[A.fb]?=some (.cells c e (0,0))
 AA:∃c e,w.heap[A.gb]?=some (.cells c e (0,0))
 im:∀i,(A.dir=false->OO i A.cF=none)/\OO i A.gb=none
 fa:∀i,(kk i).cell A.fb A.fo=none/\(kk i).cell A.fb (A.fo+1)=none/\(kk i).cell A.gb 0=none/\(kk i).cell A.gb 1=none
 tok:∀i x,OO i A.fb=some x->∃j f,j<A.n/\i=A.b+j/\(s.w j).owns=true/\x=.part f/\∀l,f l≠none->A.dir=true/\l=A.cell j
 AB:∀j,j<A.n->(s.w j).owns=true->OO (A.b+j) A.fb≠none
 PI:(∀j,j<A.n->(s.w j).owns=false)->∃x a,OO Z.lk A.mb=some x/\lz (kk Z.lk) x a/\A.GI a
 PJ:∀c,OO Z.lk c≠none->c=A.mb/\∀j,j<A.n->(s.w j).owns=false
 hJ:∀i,J i↔eQ P A s i
 hM:∀p,M p->t.heard p/\Z.N0<=p/\((t.act? p=some (.mark (.releaseMerge ⟨A.gb,0,none⟩))/\(s.c=.none\/s.c=.eZ\/∃q,s.c=.wt q))\/(s.c=.gone/\t.act? p=some (.close A.cF)))
 shut:s.c=.gone->∃p,M p/\t.act? p=some (.close A.cF)/\t.heard p
 quiet:∀m a,touchAt t m=some a->Ak A a.loc->a.kind=.plain->∀i,cr P A s i->Knows t i m
 said:∀m a,touchAt t m=some a->Ak A a.loc->a.kind=.said->Knows t (if s.c.isNone then 0 else A.cl) m
 old:∀i,cr P A s i->∀m a,m<Z.N0->touchAt t m=some a->a.loc.isMemory=true -> ¬Z.Shun a.loc->Knows t i m
 norel:∀m a,Z.N0<=m->t.act? m≠some (.mark (.release a))
 EK:∀i,i≠Z.lk -> ¬cr P A s i->kk i=ar.bot/\OO i=ak.bot
 tW:∀a,Ak A a->(∃c,a=.cell c/\c.block=A.gb)->Z.Shun a
 kL:∀c:Addr,c.block=A.fb/\(c.off=A.fo\/c.off=A.fo+1\/(A.dir=true/\∃j,j<A.n/\c.off=A.cell j)) -> ¬Z.Shun (.cell c)
 fQ:(A.dir=false->Z.W0.heap.size<=A.cF)/\Z.W0.heap.size<=A.fb/\Z.W0.heap.size<=A.gb
 la:Z.la=⟨A.fb,A.fo,none⟩
 n0:Z.N0<=t.size
def Node.SP{P:adY}:Node P->Prop
 |⟨_,_,_,_,.dB ..⟩=>True
 |_=>False
def wD{P:adY}(x X:Node P):Prop:=∀y,(y=x\/Relation.TransGen qy y x)->y.SP->(y=X\/Relation.TransGen qy y X)
def wD.sub{P:adY}{x y X:Node P}(h:wD x X)(a:qy y x):wD y X:=λz b c=>h z (b.elim (λe=>.inr (by rw[e];exact .single a)) (λe=>.inr (e.tail a))) c
def wD.refl{P:adY}(X:Node P):wD X X:=λy a _=>a
def Qw(s:MS P)(i:Nat)(x:Node P):Prop:=∀j h X,j<A.n->i=A.b+j->s.w j=.run h X->wD x X
def cE(Z:Base)(a:A.b+A.n+1<=Z.lk):sx P where
 S:=MS P
 r:=MS.gX A.n
 wf:=Qv A.n
 mo:=cS P A Fin
 main:=GU P A Fin
 top:=A.b+A.n+1
 lk:=Z.lk
 Vf:=a
 Live:=dR P A
 Walk:=il P A
 At:=VG P A Fin
 Bf:=SO P A
 pH:=fY P A
 GD:=Ya P A Fin
 deaf:=eu P A
 Wd:=lU A
 Ex:=dq P A Z
 Qe:=Qw P A
 tie:=λs i x y hs h j b X c d e=>(h j b X c d e).sub hs
end
section
open Go.Conc
open Go.ConcN (sumTo upd sumTo_upd upd_ne upd_same)
def yX{t}(u:Trace){p x}(h:t.act? p=some x)(b:t.heard p):(t++u).act? p=some x/\(t++u).heard p:=by have a:=lt_of_act? h;exact⟨by rw[act?_old a];exact h,(heard_old a).2 b⟩
structure EL  b o  (w w':World):Prop where
 cell:∀l,l=o\/l=o+1->w'.cell? ⟨b,l,none⟩=w.cell? ⟨b,l,none⟩
 fz:∀l,w'.frozen? ⟨b,l,none⟩=w.frozen? ⟨b,l,none⟩
def EL.of_heap{b o w w'}(h:w'.heap[b]?=w.heap[b]?):EL b o w w':=⟨λl _=>by simp only[World.cell?,h],λl=>by simp only[World.frozen?,h]⟩
def ShM.same{b o w w' s}(h:ShM b o w s)(e:EL b o w w'):ShM b o w' s:=⟨by rw[e.cell _ (.inl rfl)];exact h.cw,by rw[e.cell _ (.inr rfl)];exact h.cs,λi=>by rw[e.fz];exact h.fz i⟩
def sA.same{b w w' c v m}(h:sA b w c v m)(e:EL b 0 w w'):sA b w' c v m:=⟨by rw[e.cell _ (.inl rfl)];exact h.cw,by rw[e.cell _ (.inr rfl)];exact h.cs,λi=>by rw[e.fz];exact h.fz i⟩
def eG{t u m a}(h:touchAt (t++u) m=some a):(touchAt t m=some a/\m<t.size)\/∃op∈u,op.act.touch?=some a:=by
 obtain⟨x,d,b⟩:=touch_of h;rcases getElem?_append_cases d with⟨e,c⟩|⟨_,f⟩
 . exact .inl ⟨by rw[touchAt_of c];exact b,e⟩
 grind
def rU{t u:Trace}{m x}(h:(t++u).act? m=some x):(t.act? m=some x/\m<t.size)\/∃op∈u,op.act=x:=by
 unfold Trace.act? at h;obtain⟨y,b,rfl⟩:=abi.1 h;rcases getElem?_append_cases b with⟨c,a⟩|⟨_,d⟩
 . exact .inl ⟨by simp[Trace.act?,a],c⟩
 grind
section
variable{P:adY}{A:bY}{Fin:adr}{Z:Base}{s:MS P}{kk kk':adX}{OO OO':adW}{J M:adM}{gsz:Nat}{w w':World}{t:Trace}
def dq.kY(h:dq P A Z s kk OO J M gsz w t)  u  (j:∀op∈u,∀a,op.act.touch?=some a->Ak A a.loc->a.kind≠.plain):∀m a,touchAt (t++u) m=some a->Ak A a.loc->a.kind=.plain->∀i,cr P A s i->Knows (t++u) i m:=λm a c d e i f=>by
 rcases eG c with⟨b,_⟩|⟨op,g,b⟩
 . exact(h.quiet m a b d e i f).app u
 grind
def dq.pM(h:dq P A Z s kk OO J M gsz w t)  u  (i:∀op∈u,∀a,op.act.touch?=some a->Ak A a.loc->a.kind≠.said):∀m a,touchAt (t++u) m=some a->Ak A a.loc->a.kind=.said->Knows (t++u) (if s.c.isNone then 0 else A.cl) m:=λm a d e f=>by
 rcases eG d with⟨b,_⟩|⟨op,g,b⟩
 . exact(h.said m a b e f).app u
 grind
def dq.qT(h:dq P A Z s kk OO J M gsz w t)  u :∀i,cr P A s i->∀m a,m<Z.N0->touchAt (t++u) m=some a->a.loc.isMemory=true -> ¬Z.Shun a.loc->Knows (t++u) i m:=λi g m a e j b k=>by
 have c:m<t.size:=abw e h.n0
 have l:touchAt t m=some a:=by obtain⟨x,f,d⟩:=touch_of j;rw[acY c]at f;rw[touchAt_of f];exact d
 exact(h.old i g m a e l b k).app u
def dq.kg(h:dq P A Z s kk OO J M gsz w t)  u  (f:∀op∈u,∀a,op.act≠.mark (.release a)):∀m a,Z.N0<=m->(t++u).act? m≠some (.mark (.release a)):=λm a c e=>by
 rcases rU e with⟨b,_⟩|⟨op,d,b⟩
 . exact h.norel m a c b
 simp_all
def dq.wE(h:dq P A Z s kk OO J M gsz w t)  u :∀p,M p->(t++u).heard p/\Z.N0<=p/\(((t++u).act? p=some (.mark (.releaseMerge ⟨A.gb,0,none⟩))/\(s.c=.none\/s.c=.eZ\/∃q,s.c=.wt q))\/(s.c=.gone/\(t++u).act? p=some (.close A.cF))):=λp e=>by
 obtain⟨b,i,a⟩:=h.hM p e;rcases a with⟨a,d⟩|⟨a,d⟩
 . obtain⟨f,g⟩:=yX u a b
   simp_all
 . obtain⟨f,g⟩:=yX u d b
   simp_all
def dq.nB(h:dq P A Z s kk OO J M gsz w t)  u :s.c=.gone->∃p,M p/\(t++u).act? p=some (.close A.cF)/\(t++u).heard p:=λa=>by
 obtain⟨p,e,b,d⟩:=h.shut a;obtain⟨f,g⟩:=yX u b d
 grind
def GV(I:cj A.n s){i}(d:dR P A s i):cr P A s i:=by
 rcases d with⟨h,_⟩|⟨j,b,c,f⟩|⟨b,c⟩
 . exact .inl h
 . refine .inr (.inl ⟨j,?_,c⟩)
   have a:=I.idle j b;cases e:s.w j with
   |idle=>simp_all
   |_=>rw[e]at a;simp[bD.j9]at a;omega
 . refine .inr (.inr ⟨b,λe=>?_⟩)
   simp_all
def MP{i}(a:dR P A s i):i<A.b+A.n+1:=by
 have:=A.hb;rcases a with⟨h,_⟩|⟨j,c,d,e⟩|⟨c,d⟩<;>omega
def dq.Qx(h:dq P A Z s kk OO J M gsz w t){i l}(a:ba (OO i) A.fb l):A.dir=true/\∃j,j<A.n/\(i=A.b+j/\(s.w j).owns=true)/\l=A.cell j:=by
 obtain⟨x,c⟩:=a.own;obtain⟨j,f,d,e,k,rfl,p⟩:=h.tok i x c;rcases a with⟨o,q⟩|⟨m,q,_⟩|⟨g,q,r⟩
 . simp_all
 . simp_all
 . rw[c]at q;cases q;grind
def Bq{x:bD P}(h:x.owns=true):x.iY=true:=by cases x<;>simp_all [bD.owns,bD.iY]
def AE(h:dq P A Z s kk OO J M gsz w t){i e}(n:jL (kk i) (OO i) w.heap.size e){a}(p:(MemAct.ofEvent e).touch?=some a):¬Ak A a.loc:=λb=>by
 have q:A.fb<w.heap.size:=by obtain⟨c,e,k⟩:=h.wC;grind
 have u:A.gb<w.heap.size:=by obtain⟨c,e,k⟩:=h.AA;grind
 have g:∀l,(l=A.fo\/l=A.fo+1) -> ¬ba (OO i) A.fb l:=λl f m=>by obtain⟨_,_,_,_,e⟩:=h.Qx m;unfold bY.cell at e;omega
 have j:∀l,¬ba (OO i) A.gb l:=λl=>eP (h.im i).2
 obtain⟨v,y,z,B⟩:=h.fa i
 rcases kP n p with⟨C,f,m⟩|⟨r,f,d⟩
 . rw[f]at b
   obtain⟨_,b⟩:=b
   grind
 . rw[f]at b
   obtain⟨b,hd⟩:r=A.cF/\A.dir=false:=b;subst b
   rcases d with⟨o,d⟩|d
   . rw[(h.im i).1 hd]at d;cases d
   . obtain⟨x,D,k⟩:=h.Bp hd
     simp_all
def AF{k O B e}(b:jL k O B e)  a :MemAct.ofEvent e≠.mark (.release a):=by
 obtain⟨loc,wr,c⟩:=e;cases loc with
 |mark m=>simp only[jL]at b;cases m<;>simp_all [kO,nP,MemAct.ofEvent]
 |cell d=>simp[MemAct.ofEvent]
 |obj r=>cases wr<;>cases c<;>simp[MemAct.ofEvent]
 |_=>simp[jL]at b
def dq.own(h:dq P A Z s kk OO J M gsz w t)(hZ:A.b+A.n+1<=Z.lk){i}(V:dR P A s i){k' O' es}(D:Eff (kk i) (OO i) w k' O' w' es)  u
 (H:∀op∈u,∃e,jL (kk i) (OO i) w.heap.size e/\op.act=.ofEvent e):dq P A Z s (cq kk i k') (cq OO i O') J M gsz w' (t++u):=by
 have K:i≠Z.lk:=by have:=MP V;omega
 have Q:=GV h.I V;have W:A.fb<w.heap.size:=by obtain⟨c,e,d⟩:=h.wC;grind
 have X:A.gb<w.heap.size:=by obtain⟨c,e,d⟩:=h.AA;grind
 have hC:A.dir=false->A.cF<w.heap.size:=λhd=>by obtain⟨x,tm,d⟩:=h.Bp hd;grind
 have R:=D.keep A.gb X (h.im i).2
 have S:EL A.fb A.fo w w'/\∃c e,w'.heap[A.fb]?=some (.cells c e (0,0)):=by
  cases q:OO i A.fb with
  |none=>have:=D.keep A.fb W q;exact⟨.of_heap this,by rw[this];exact h.wC⟩
  | some x=>
    obtain⟨j,f,_,_,_,rfl,hf⟩:=h.tok i x q;obtain⟨c,e,d⟩:=h.wC;obtain⟨c',N,h3,h4⟩:=D.part A.fb f W q c e d;refine⟨⟨λl V=>?_,λl=>?_⟩,c',e,N⟩
    . simp only[World.cell?,d,N];rw[h4 l (abG λhh=>by have:=(hf l hh).2;unfold bY.cell at this;omega)]
    . simp only[World.frozen?,d,N]
 have p:∀c,c<w.heap.size->OO i c=none->O' c=none:=λc hc hn=>by
  cases q:O' c with
  |none=>rfl
  | some x=>
    rcases D.own c x q with⟨y,hy,_⟩|hy
    . simp_all
    . omega
 have z:∀l,(l=A.fo\/l=A.fo+1) -> ¬ba (OO i) A.fb l:=λl V hc=>by obtain⟨_,_,_,_,e⟩:=h.Qx hc;unfold bY.cell at e;omega
 have a7:∀l,l<A.n->(s.w l).iY=false -> ¬ba (OO i) A.fb (A.cell l):=λl _ O hc=>by
  obtain⟨_,j,_,⟨_,T⟩,e⟩:=h.Qx hc;obtain rfl:l=j:=by unfold bY.cell at e;omega
  rw[Bq T]at O;cases O
 have E:∀c l,c<w.heap.size -> ¬ba (OO i) c l->(kk i).cell c l=none->k'.cell c l=none:=λc l hc ax hn=>by
  cases q:k'.cell c l with
  |none=>rfl
  | some v=>
    rcases D.cell c l v q with d|d|d
    . simp_all
    . simp_all
    . omega
 obtain⟨a8,a9,al,av⟩:=h.fa i
 have U:∀op∈u,∀a,op.act.touch?=some a -> ¬Ak A a.loc:=λop k a G=>by obtain⟨e,B,C⟩:=H op k;rw[C]at G;exact AE h B G
 refine⟨h.I,h.size,h.dd,h.off,λhd l F=>⟨λO=>⟨λj=>?_,λm a ad G e e'=>?_⟩,λhr=>?_⟩,λhd=>by rw[D.keep A.cF (hC hd) ((h.im i).1 hd)];exact h.Bp hd,h.mu.same S.1,h.gr.same (.of_heap R),S.2,by rw[R];exact h.AA,λj=>?_,λj=>?_,λj x Y=>?_,λj hj T=>?_,λT=>?_,λc hc=>?_,h.hJ,h.wE u,h.nB u,
  h.kY u (λop k a G hs=>absurd hs (U op k a G)),h.pM u (λop k a G hs=>absurd hs (U op k a G)),h.qT u,h.kg u (λop k a=>by obtain⟨e,B,C⟩:=H op k;rw[C];exact AF B a),λj hj hb=>?_,h.tW,h.kL,h.fQ,h.la,by simp;exact aaE h.n0 (abU _ _)⟩
 . have d:=((h.Al hd l F).1 O).1 j
   by_cases e:j=i
   . subst e;rw[ao];simp_all
   . rw[az _ _ e];exact d
 . rcases eG G with⟨d,_⟩|⟨op,k,d⟩
   . exact((h.Al hd l F).1 O).2 m a ad d e e'
   . obtain⟨ev,B,C⟩:=H op k
     rw[C]at d
     rcases kP B d with⟨ad,L,hc⟩|⟨r,L,_⟩
     . rw[e]at L
       cases L;rw[e'.1,e'.2]at hc
       rcases hc with hc|hc|⟨_,v,hc⟩
       . simp_all
       . omega
       . have:=((h.Al hd l F).1 O).1 i
         simp_all
     simp_all
 . have d:=(h.Al hd l F).2 hr
   by_cases e:A.b+l=i
   . rw[e,ao];rw[e]at d;exact D.le.1 _ _ _ d
   . rw[az _ _ e];exact d
 . by_cases e:j=i
   . subst e;rw[ao];exact⟨λhd=>p _ (hC hd) ((h.im j).1 hd),p _ X (h.im j).2⟩
   . rw[az _ _ e];exact h.im j
 . by_cases e:j=i
   . subst e;rw[ao]
     exact⟨E _ _ W (z _ (.inl rfl)) a8,E _ _ W (z _ (.inr rfl)) a9,E _ _ X (eP (h.im j).2) al,E _ _ X (eP (h.im j).2) av⟩
   . rw[az _ _ e];exact h.fa j
 . by_cases e:j=i
   . subst e;rw[ao]at Y
     rcases D.own _ x Y with⟨y,hy,hb⟩|hy
     . obtain⟨l,f,d,N,h3,rfl,h4⟩:=h.tok j y hy
       cases x with
       |obj o=>exact hb.elim
       |tail m=>exact hb.elim
       |part g=>exact⟨l,g,d,N,h3,rfl,λa q=>h4 a (hb a q)⟩
     . omega
   . rw[az _ _ e]at Y;exact h.tok j x Y
 . have d:=h.AB j hj T
   by_cases e:A.b+j=i
   . rw[e,ao]
     rw[e]at d;cases q:OO i A.fb with
     |none=>simp_all
     | some x=>
       obtain⟨_,f,_,_,_,rfl,_⟩:=h.tok i x q;obtain⟨f',N⟩:=D.tok _ f q
       grind
   . rw[az _ _ e];exact d
 . rw[az _ _ (zs K),az _ _ (zs K)];exact h.PI T
 . rw[az _ _ (zs K)]at hc;exact h.PJ c hc
 . have e:j≠i:=λe=>hb (e ▸ Q)
   rw[az _ _ e,az _ _ e];exact h.EK j hj hb
def dq.still(h:dq P A Z s kk OO J M gsz w t)  u  (i:∀op∈u,op.act.touch?=none/\∀a,op.act≠.mark (.release a)):dq P A Z s kk OO J M gsz w (t++u):=
 ⟨h.I,h.size,h.dd,h.off,λhd l c=>⟨λf=>⟨((h.Al hd l c).1 f).1,λm a j d e k=>(eG d).elim (λg=>((h.Al hd l c).1 f).2 m a j g.1 e k) (λ⟨op,b,g⟩=>by simp_all)⟩,(h.Al hd l c).2⟩,h.Bp,h.mu,h.gr,h.wC,h.AA,h.im,h.fa,h.tok,h.AB,h.PI,h.PJ,h.hJ,h.wE u,h.nB u,h.kY u (λop b a d=>by simp_all),h.pM u (λop b a d=>by simp_all),
   h.qT u,h.kg u (λop b=>(i op b).2),h.EK,h.tW,h.kL,h.fQ,h.la,by simp;exact aaE h.n0 (abU _ _)⟩
def bs  y :Bg (cE P A Fin Z y) where
 own:=λa m _ he u _ _ o=>dq.own a y m he u o
 slip:=λa u _ hu=>dq.still a u hu
 draw:=λ{s kk OO J M n w t} a d=>by have a:dq P A Z s kk OO J M n w t:=a;exact⟨a.I,a.size,a.dd,a.off,a.Al,a.Bp,a.mu.heap rfl,a.gr.same (.of_heap rfl),a.wC,a.AA,a.im,a.fa,a.tok,a.AB,a.PI,a.PJ,a.hJ,a.hM,a.shut,a.quiet,a.said,a.old,a.norel,a.EK,a.tW,a.kL,a.fQ,a.la,a.n0⟩
 tZ := λ{s kk OO J M n w t j g} a B k O b=>by
  have a:dq P A Z s kk OO J M n w t:=a
  have q:s.c.fj=false:=by
   rcases B with⟨_,hm⟩|⟨l,m,_,hw⟩
   . have:=a.I.ms
     rw[hm]at this;have:=this.2.2.1;cases e:s.c<;>simp_all [kK.fj]
   . cases e:s.c with
     | gone=>
       have:=(a.I.g8 (by rw[e];rfl)).2.2.2 l m
       simp_all
     |_=>rfl
  have hd:A.dir=false:=by
   cases e:A.dir with
   |false=>rfl
   | true=>
     rcases b with⟨h0,_⟩|⟨l,_,_,h,z,v,_,_,_,_,hd⟩
     . have:=A.hb
       rcases B with⟨_,hm⟩|⟨l,m,f,hw⟩
       . exact absurd hm (a.off.2.1 e).2.1
       . omega
     simp_all
  obtain⟨x,C,r⟩:=a.Bp hd;rw[q]at r;rcases b with⟨_,h,z,rfl,_⟩|⟨l,_,_,h,z,v,rfl,_⟩
  . exact again_recv_open r
  . exact again_send_open r
 wd:=λ{s kk OO J M n w t} a=>by have a:dq P A Z s kk OO J M n w t:=a;exact⟨⟨_,a.gr.cw⟩,⟨_,a.gr.cs⟩,⟨_,a.mu.cw⟩⟩
 lM:=λ{s i k O g} b=>by
  rcases b with⟨_,b⟩|⟨j,_,_,b⟩|⟨_,b⟩
  . cases e:s.ms with
    |bM j p=>rw[e]at b;obtain⟨c,rest,f,_⟩:=b;exact f.running
    |_=>rw[e]at b;exact b.elim
  . cases e:s.w j with
    |lk p Y=>rw[e]at b;obtain⟨kind,c,rest,_,_,f,_⟩:=b;exact f.running
    |un p Y=>rw[e]at b;obtain⟨kind,c,rest,_,f,_⟩:=b;exact f.running
    |dn p=>rw[e]at b;obtain⟨D,fn,tmps,todo,_,_,f⟩:=b;exact f.running
    |_=>rw[e]at b;exact b.elim
  . cases e:s.c with
    |wt p=>rw[e]at b;obtain⟨c,rest,f,_⟩:=b;exact f.running
    |_=>rw[e]at b;exact b.elim
end
end
section
open Go.Conc
open Go.ConcN (sumTo upd sumTo_upd upd_ne upd_same)
variable{P:adY}
def MS.bc(s:MS P)(j:Nat)(x:bD P)(sh:Mu.Sh):MS P:={s with w:=λi=>if i=j then x else s.w i,sh:=sh}
section
variable{s:MS P}{j n:Nat}{x:bD P}{sh:Mu.Sh}
def bd:(s.bc j x sh).w j=x:=by simp[MS.bc]
def cN{i}(h:i≠j):(s.bc j x sh).w i=s.w i:=by simp[MS.bc,h]
def IE:(λi=>((s.bc j x sh).w i).pc)=Mu.set (λi=>(s.w i).pc) j x.pc:=by
 funext i;by_cases h:i=j
 . subst h;rw[bd,Mu.ai]
 . rw[cN h,Mu.ah _ _ h]
def uk(F:bD P->Nat)(hj:j<n):sumTo n (λi=>F ((s.bc j x sh).w i))+F (s.w j)=sumTo n (λi=>F (s.w i))+F x:=by
 have e:(λi=>F ((s.bc j x sh).w i))=upd (λi=>F (s.w i)) j (F x):=by
  funext i;by_cases h:i=j
  . subst h;rw[bd,upd_same]
  . rw[cN h,upd_ne _ _ h]
 rw[e];have:=sumTo_upd (λi=>F (s.w i)) (F x) id hj
 simp_all
def bD.work:bD P->Bool
 |.run ..=>true|.lk ..=>true|.un ..=>true|_=>false
def bN{x:bD P}(h:x.work=true):x.cnt=1/\x.cM=20/\x.ji=false/\x.last=false/\x.j9=false/\x.busy=true/\x≠.gone/\x≠.wait/\∀p,x≠.dn p:=by cases x<;>simp_all [bD.work,bD.cnt,bD.cM,bD.ji,bD.last,bD.j9,bD.busy]
def bD.CZ:bD P->Bool
 |.run ..=>true|.lk ..=>true|.un ..=>true|.Aj=>true|.dn .d1=>true|.dn .d2=>true|.dn .d4=>true|_=>false
def yY{x:bD P}(h:x.CZ=true):x.cnt=1/\x.last=false/\x.j9=false/\x≠.gone/\x≠.wait/\∀p,(p=.d5\/p=.d6\/p=.d7)->x≠.dn p:=by
 cases x with
 |dn p=>cases p<;>simp_all [bD.CZ,bD.cnt,bD.last,bD.j9]
 |_=>simp_all [bD.CZ,bD.cnt,bD.last,bD.j9]
def cj.same(I:cj n s)(hj:j<n)(o:(s.w j).CZ=true)(q:x.CZ=true)(r:x.ji=(s.w j).ji\/s.d=true)(G:x.ok=true)(t:Mu.Inv n (Mu.set (λi=>(s.w i).pc) j x.pc) sh):cj n (s.bc j x sh):=by
 obtain⟨H,a4,u,J,K,L⟩:=yY o;obtain⟨M,N,v,O,Q,g⟩:=yY q;have m:=uk (s:=s) (x:=x) (sh:=sh) bD.cnt hj
 have look:∀{i:Nat}{y:bD P},(s.bc j x sh).w i=y->x≠y->i≠j/\s.w i=y:=λ{i y} h z=>by
  by_cases e:i=j
  . subst e;rw[bd]at h;simp_all
  . rw[cN e]at h;simp_all
 have back:∀{i:Nat}{y:bD P},s.w i=y->(s.w j)≠y->(s.bc j x sh).w i=y:=λ{i y} h z=>by
  by_cases e:i=j
  . simp_all
  . rw[cN e];exact h
 have b:∀{i:Nat},((s.bc j x sh).w i).last=(s.w i).last:=λ{i}=>by
  by_cases e:i=j
  . grind
  . rw[cN e]
 refine⟨?_,I.g2,I.Cf,λi a h=>?_,λi l a A h f=>?_,λi a h=>?_,⟨I.g5.1,λh=>?_⟩,λh f k=>?_,λh f=>?_,λh=>?_,I.g9,λi a=>?_,I.Um,I.sp,λi a=>?_,?_,λhd h i a=>?_,by rw[IE];exact t⟩
 . have:=I.g1
   show s.gc=sumTo n (λi=>((s.bc j x sh).w i).cnt)+s.ms.pend;omega
 . exact I.g3 i a (h.imp (λh=>(look h (g _ (by simp))).2) (λh=>(look h (g _ (by simp))).2))
 . rw[b]at h f;exact I.IC i l a A h f
 . exact I.g4 i a (look h (g _ (by simp))).2
 . obtain⟨B,C,D,E⟩:=I.g5.2 h
   exact⟨B,C,D,λi a=>by grind⟩
 . obtain⟨i,a,F⟩:=I.g6 h f k
   grind
 . obtain⟨i,a,F⟩:=I.g7 h f
   grind
 . obtain⟨_,_,_,E⟩:=I.g8 h
   simp_all
 . by_cases e:i=j
   . grind
   . rw[cN e];exact I.ok i a
 . by_cases e:i=j
   . subst e
     rw[bd,v];have:=I.idle i a;rw[u]at this;exact this
   . rw[cN e];exact I.idle i a
 . have:=I.ms
   show match s.ms with
   |.add l=>s.sp+l=n/\s.c=.none
   |.bM l p=>s.sp+l=n/\s.c=.none/\1<=l/\(p=.a0\/p=.a2\/p=.a4\/p=.ae)
   |.spawn l=>s.sp+l+1=n/\s.c=.none
   |.recv=>s.sp=n/\s.c≠.none
   |.parked=>s.sp=n/\s.c≠.none/\s.c≠.gone/\∀i,i<n->(s.bc j x sh).w i≠.wait
   |.off=>s.sp=n/\s.c≠.none
   grind
 . by_cases e:i=j
   . subst e;rw[bd,r.resolve_right λe=>by have hd:s.d=false:=hd;grind];exact I.early hd h i a
   . rw[cN e];exact I.early hd h i a
def Br{x:bD P}(h:x.work=true):x.CZ=true:=by cases x<;>simp_all [bD.work,bD.CZ]
def cj.work(I:cj n s)(hj:j<n)(a:(s.w j).work=true)(b:x.work=true)(c:x.ok=true)(d:Mu.Inv n (Mu.set (λi=>(s.w i).pc) j x.pc) sh):cj n (s.bc j x sh):=I.same hj (Br a) (Br b) (.inl (by rw[(bN a).2.2.1,(bN b).2.2.1])) c d
def SS(F:bD P->Nat)(hj:j<n)(h:F x=F (s.w j)):sumTo n (λi=>F ((s.bc j x sh).w i))=sumTo n (λi=>F (s.w i)):=by have:=uk (s:=s) (x:=x) (sh:=sh) F hj;omega
def EM(hj:j<n)(a:(s.w j).work=true)(b:x.work=true):(s.bc j x sh).cM n=s.cM n:=by
 have:=SS (s:=s) (x:=x) (sh:=sh) bD.cM hj (by rw[(bN a).2.1,(bN b).2.1]);show s.ms.cM+sumTo n (λi=>((s.bc j x sh).w i).cM)+s.c.cM s.gc=_;rw[this];rfl
def C0(hj:j<n)(a:(s.w j).work=true)(b:x.work=true)(h:JN x.nd (s.w j).nd):MS.gX n (s.bc j x sh) s:=.inr ⟨EM hj a b,.inl ⟨j,hj,λi c=>by show((s.bc j x sh).w i).nd=_;rw[cN c],by simp only[bd];exact h⟩⟩
def xH(hj:j<n)(a:(s.w j).work=true)(b:x.work=true)(h:x.nd=(s.w j).nd)(hi:4*Mu.meas n (Mu.set (λi=>(s.w i).pc) j x.pc) sh+x.ex n<4*Mu.meas n (λi=>(s.w i).pc) s.sh+(s.w j).ex n):MS.gX n (s.bc j x sh) s:=by
 refine .inr ⟨EM hj a b,.inr ⟨?_,?_⟩⟩
 . funext i
   by_cases e:i=j
   . subst e;rw[bd];exact h
   . rw[cN e]
 . have:=uk (s:=s) (x:=x) (sh:=sh) (bD.ex n) hj
   show 4*Mu.meas n (λi=>((s.bc j x sh).w i).pc) sh+sumTo n (λi=>((s.bc j x sh).w i).ex n)<4*Mu.meas n (λi=>(s.w i).pc) s.sh+sumTo n (λi=>(s.w i).ex n);rw[IE];omega
def IF(I:cj n s)(hj:j<n)(a:(s.w j).work=true)(b:x.work=true)(h:x.nd=(s.w j).nd)(c:(x.pc,sh)∈Mu.mv (s.w j).pc s.sh)(d:x.ex n<=3):MS.gX n (s.bc j x sh) s:=by
 have:=(Mu.Ju (pcs:=λi=>(s.w i).pc) hj (I.mu.j0 j hj) c).1;exact xH hj a b h (by omega)
def cj.mv(I:cj n s)(hj:j<n)(a:(s.w j).work=true)(b:x.work=true)(c:x.ok=true)(d:(x.pc,sh)∈Mu.mv (s.w j).pc s.sh):cj n (s.bc j x sh):=I.work hj a b c (I.mu.step hj d)
def kh  pcs   i :Mu.set pcs i (pcs i)=pcs:=by
 funext l;by_cases e:l=i
 . subst e;exact Mu.ai _ _ _
 . exact Mu.ah _ _ e
def mR(hj:j<n)(a:(s.w j).work=true)(b:x.work=true)(h:x.nd=(s.w j).nd)(c:x.pc=(s.w j).pc)(d:x.ex n<(s.w j).ex n):MS.gX n (s.bc j x s.sh) s:=by
 refine xH hj a b h ?_;rw[c,kh (λi=>(s.w i).pc)];omega
def cj.still(I:cj n s)(hj:j<n)(a:(s.w j).work=true)(b:x.work=true)(c:x.ok=true)(d:x.pc=(s.w j).pc):cj n (s.bc j x s.sh):=I.work hj a b c (by rw[d,kh (λi=>(s.w i).pc)];exact I.mu)
def gN(F:Mu.Pc->Nat){pcs i}(a:pcs i=.out)(h:F .iU=F .out):(λl=>F (Mu.set pcs i .iU l))=λl=>F (pcs l):=by
 funext l;by_cases e:l=i
 . subst e;rw[Mu.ai,a,h]
 . rw[Mu.ah _ _ e]
def Qy{n pcs s i}(h:Mu.Inv n pcs s)(a:pcs i=.out):Mu.Inv n (Mu.set pcs i .iU) s:=by
 obtain⟨⟨m,c,d,f,g⟩,j,o⟩:=h;refine⟨⟨λl k=>?_,?_,?_,?_,?_⟩,j,λl k old sv b=>?_⟩
 . by_cases e:l=i
   . subst e;rw[Mu.ai];trivial
   . rw[Mu.ah _ _ e];grind
 . rw[gN Mu.cH a rfl];exact c
 . rw[gN Mu.gu a rfl,gN Mu.cW a rfl,gN Mu.nY a rfl,gN Mu.dt a rfl,gN Mu.cV a rfl];exact d
 . rw[gN Mu.gu a rfl,gN Mu.cW a rfl,gN Mu.nY a rfl,gN Mu.dt a rfl,gN Mu.cV a rfl];exact f
 . rw[gN Mu.iV a rfl];exact g
 . by_cases e:l=i
   . subst e;rw[Mu.ai]at b;cases b
   . rw[Mu.ah _ _ e]at b;grind
def EN{n pcs s i}(hi:i<n)(a:pcs i=.out):Mu.meas n (Mu.set pcs i .iU) s=Mu.meas n pcs s+(6*(18*n+1)+16):=by
 have C:=Mu.ig Mu.ir pcs i .iU hi;have R:=Mu.ig (Mu.kr s.w) pcs i .iU hi;rw[a]at C R;have b:Mu.ir .out=0:=rfl;have c:Mu.ir .iU=6:=rfl;have d:Mu.kr s.w .out=0:=rfl;have e:Mu.kr s.w .iU=16:=rfl;rw[b,c]at C;rw[d,e]at R;have f:Mu.phi n (Mu.set pcs i .iU) s=Mu.phi n pcs s+6:=by unfold Mu.phi;omega
 unfold Mu.meas
 grind
def MQ(hj:j<n)(a:(s.w j).work=true)(b:x.work=true)(h:x.nd=(s.w j).nd)(c:(s.w j).pc=.out)(d:x.pc=.iU)(e:(s.w j).ex n=CY n)(f:x.ex n=0):MS.gX n (s.bc j x s.sh) s:=by refine xH hj a b h ?_;rw[d,EN hj c,e,f];unfold CY;omega
def cj.Zc(I:cj n s)(hj:j<n)(a:(s.w j).work=true)(b:x.work=true)(c:x.ok=true)(d:(s.w j).pc=.out)(e:x.pc=.iU):cj n (s.bc j x s.sh):=I.work hj a b c (by rw[e];exact Qy I.mu d)
end
end
open Go.Conc
open Go.ConcN (sumTo upd sumTo_upd upd_ne upd_same)
section
variable{P:adY}{A:sx P}{Z:Base}{s s':A.S}{f f':Nat->Node P}{q q':adS}{kk kk':adX}{OO OO':adW}{J J' M M':adM}{gs:adv}{w w':World}{t u:Trace}{i:Nat}{g g1:adP}
structure Beside(A:sx P)(s s':A.S)(f f':Nat->Node P)(q q':adS)(kk kk':adX)(OO OO':adW)(J J':adM)(w':World)(i:Nat)(g g1:adP):Prop where
 ef:∀j,j≠i->f' j=f j
 eq:∀j,j≠i->q' j=q j
 ek:∀j,j≠i->j<A.top->kk' j=kk j
 eO:∀j,j≠i->j<A.top->OO' j=OO j
 eJ:∀j,j≠i->A.Live s j->J j->J' j
 live:∀j,j≠i->(A.Live s' j↔A.Live s j)
 walk:∀j,j≠i->(A.Walk s' j↔A.Walk s j)
 held:∀j,j≠i->(A.pH s' j↔A.pH s j)
 mo:∀j,j≠i->A.Live s j->A.mo s' j=A.mo s j
 at':∀j k O x,j≠i->A.Walk s j->A.At s j k O x->A.At s' j k O x
 deaf:∀j,j≠i->A.Walk s j->A.deaf s' j=A.deaf s j
 Bf:∀j,j≠i->A.Walk s j->A.Bf s j->A.Bf s' j\/∀x,A.At s j (kk j) (OO j) x->woken P g g1 w' (blk x)=x
 Up:∀j k O x,j≠i->A.pH s j->A.GD s j k O x->A.GD s' j k O x
 tie:∀j x,j≠i->A.Live s j->A.Qe s j x->A.Qe s' j x
structure Self(P:adY)(A:sx P)(s':A.S)(f':Nat->Node P)(q':adS)(kk':adX)(OO':adW)(J':adM)(t':Trace)(i:Nat)(g1:adP):Prop where
 live:A.Live s' i->i<A.top/\g1=(f' i).g/\(f' i).m=A.mo s' i/\(f' i).k=kk' i/\(f' i).O=OO' i/\(f' i).g.status=.running/\Deaf t' i=0/\(i=0\/J' i)/\A.Qe s' i (f' i)
 walk:A.Walk s' i -> ¬A.Live s' i/\i<A.top/\Deaf t' i=A.deaf s' i/\∃g',A.At s' i (kk' i) (OO' i) g'/\Ml P A.Wd (A.Bf s' i) (q' i) g1 g'
 held:A.pH s' i -> ¬A.Live s' i/\¬A.Walk s' i/\i<A.top/\Deaf t' i=0/\g1.status=.blocked/\A.GD s' i (kk' i) (OO' i) g1
 rest:¬A.Live s' i -> ¬A.Walk s' i -> ¬A.pH s' i->i≠0/\QuitsD P (q' i) (Deaf t' i) g1
def bP.step(B:Bg A)(v:bP A Z s f q kk OO J M gs w t)(hi:gs[i]?=some g)(C:∀op∈u,op.g=i)(U:cP Z kk' OO' J' M' w' (t++u))(V:A.Ex s' kk' OO' J' M' gs.size w' (t++u))
 (W:∀j x,A.pH s j->A.GD s j (kk j) (OO j) x->x.again w'=x) (hb:Beside A s s' f f' q q' kk kk' OO OO' J J' w' i g g1) (E:Self P A s' f' q' kk' OO' J' (t++u) i g1):
 bP A Z s' f' q' kk' OO' J' M' ((gs.map (woken P g g1 w')).setIfInBounds i g1) w' (t++u):=by
 have X:i<gs.size:=(zA.1 hi).1;have F:=v.Qf B (i:=i) (a:=g) (a':=g1) (x:=g1) (w':=w') W;have p:((gs.map (woken P g g1 w')).setIfInBounds i g1)[i]?=some g1:=Rp (by simp_all)
 have G:∀j,j≠i->Deaf (t++u) j=Deaf t j:=λj d=>Deaf_other t (zs d) _ C
 refine⟨v.lk,U,λj d=>?_,λj d=>?_,λj d=>?_,λj x I N O Q=>?_,λj d=>?_,by simp_all⟩
 . by_cases e:j=i
   . subst e
     obtain⟨l,n,m⟩:=E.live d
     simp_all
   . have b:=(hb.live j e).1 d
     obtain⟨l,n,pm,m,D,z,r,R⟩:=v.live j b;rw[hb.ef j e,hb.ek j e l,hb.eO j e l,G j e,hb.mo j e b];exact⟨l,F.live j e b,pm,m,D,z,r,R.1.imp id (hb.eJ j e b),hb.tie j _ e b R.2⟩
 . by_cases e:j=i
   . subst e
     obtain⟨l,n,m,g',D,z⟩:=E.walk d
     grind
   . have b:=(hb.walk j e).1 d
     obtain⟨l,n,m,x,Y,D,z,r⟩:=v.walk j b;refine⟨λh=>l ((hb.live j e).1 h),n,by rw[G j e,hb.deaf j e b];exact m,?_⟩
     rw[hb.ek j e n,hb.eO j e n,hb.eq j e];obtain⟨y,y',o,K,r3⟩:=F.walk j e b
     by_cases hd:∃x,A.Bf s j/\y=blk x/\A.At s j (kk j) (OO j) x/\q j=0
     . obtain⟨x0,S,H,d3,d4⟩:=hd
       rcases hb.Bf j e b S with h|h
       . exact⟨y,x0,o,hb.at' j _ _ _ e b d3,.inl ⟨h,H,d4⟩⟩
       ·
        have c:((gs.map (woken P g g1 w')).setIfInBounds i g1)[j]?=some (woken P g g1 w' x):=by grind
        obtain⟨T,a2⟩:=B.lM z
        rcases r with⟨_,rfl,_⟩|r
        . rw[h _ z]at c
          rw[c]at o;have:=abe o;rw[H]at this;have k:Y.status=.blocked:=by rw[this];rfl
          simp_all
        . rw[woken_run (r.first T)]at c
          rw[c]at o;have hh:=abe o;have k:x.status=.blocked:=by rw[hh,H];rfl
          rw[r.first T]at k;cases k
     . rcases r3 with⟨S,rfl,H⟩|r3
       . simp_all
       . exact⟨y,y',o,hb.at' j _ _ _ e b K,.inr r3⟩
 . by_cases e:j=i
   . subst e
     obtain⟨l,n,m,D,z,r⟩:=E.held d
     simp_all
   . have b:=(hb.held j e).1 d
     obtain⟨l,n,m,D,_⟩:=v.held j b;obtain⟨x,o,K,r3⟩:=F.held j e b;refine⟨λh=>l ((hb.live j e).1 h),λh=>n ((hb.walk j e).1 h),m,by simp_all,x,o,K,?_⟩
     rw[hb.ek j e m,hb.eO j e m];exact hb.Up j _ _ _ e b r3
 . by_cases e:j=i
   . subst e
     rw[p]at I;obtain rfl:=abe I;exact E.rest N O Q
   . rw[hb.eq j e,G j e]
     exact F.rest j x e I (λh=>N ((hb.live j e).2 h)) (λh=>O ((hb.walk j e).2 h)) (λh=>Q ((hb.held j e).2 h))
 . have L:gs.size<=j:=by simp_all
   rw[G j (by omega)];exact v.above j L
end
def knows_own{t u i m op}(h:u[m]?=some op)(a:op.g=i):Knows (t++u) i (t.size+m):=⟨t.size+m,op,dM h,a,.inl rfl⟩
section
variable{Z:Base}{kk:adX}{OO:adW}{J M:adM}{w w':World}{t u:Trace}{i:Nat}
def C1(kk:adX)(OO:adW)(B:Nat)(t:Trace)(i:Nat)(u:Trace):Prop:=∀op∈u,∀a,op.act.touch?=some a->a.kind=.atomic/\(a.loc.isMemory=true->Ma kk OO B a.loc)/\∀n b,touchAt t n=some b->b.loc=a.loc->b.kind=.plain->Knows t i n
def cP.RU(h:cP Z kk OO J M w t)(d:∀op∈u,op.g=i)(y:w'.heap.size=w.heap.size)(z:Calm Z w w')(hb:∀b,Kept kk OO w w' b)(A:∀op∈u,op.act.low w.heap.size)(q:C1 kk OO w.heap.size t i u)
 (l:∀m op a,u[m]?=some op->op.act.touch?=some a->a.loc.isMemory=true->Told Z J M (t++u) (t.size+m) a):cP Z kk OO J M w' (t++u):=
 h.vh (λa b=>a=b) y z hb A (λa b e n x _ _ _ B=>by subst e;exact B.app u) (λj b n v h=>⟨j,rfl,h⟩) (λj b s h=>⟨j,rfl,h⟩) (λj b x h=>⟨j,rfl,h,λ_ h=>h⟩) h.j7
  (fun said=>noRace_append (h.clean said) d λn a o op c b hb C=>by
    obtain⟨f,k,D⟩:=q op c b hb;obtain⟨E,_,_,F⟩:=C
    simp_all)
  (λop c a o r=>(q op c a o).2.1 r) l
  (λn a o r h=>h.elim (λ⟨j,f,k⟩=>.inr (.inl ⟨j,f,k.app _⟩)) (λ⟨p,f,k⟩=>.inr (.inr (.inl ⟨p,f,k.app _⟩))))
def cP.sync(h:cP Z kk OO J M w t)(hJ:i=0\/J i)(c:∀op∈u,op.g=i)(f:w'.heap.size=w.heap.size)(j:Calm Z w w')(hb:∀b,Kept kk OO w w' b)(k:∀op∈u,op.act.low w.heap.size)(l:C1 kk OO w.heap.size t i u):cP Z kk OO J M w' (t++u):=
 h.RU c f j hb k l λm op a d n o=>by
  have e:Knows (t++u) i (t.size+m):=knows_own d (c op (abD d));rcases hJ with rfl|hJ
  . exact .inl e
  . exact .inr (.inl ⟨i,hJ,e⟩)
end
section
variable{P:adY}{A:bY}{Z:Base}{s:MS P}{kk:adX}{OO:adW}{J M:adM}{gsz:Nat}{w w':World}{t u:Trace}{j:Nat}{x:bD P}{sh:Mu.Sh}
def pN(hj:j<A.n)(h:x.busy=(s.w j).busy)  i :eQ P A (s.bc j x sh) i↔eQ P A s i:=by
 have:∀l,((s.bc j x sh).w l).busy=(s.w l).busy:=λl=>by
  by_cases e:l=j
  . subst e;rw[bd,h]
  . rw[cN e]
 unfold eQ;simp only[this];rfl
def MR{a:Touch}{l ad}(h:Ak A a.loc)(e:a.loc=.cell ad)(b:ad.block=A.fb/\ad.off=A.cell l):False:=by rw[e]at h;obtain⟨_,h⟩:=h;have:=A.d4;rw[b.1,b.2]at h;unfold bY.cell at h;omega
def dq.GW(h:dq P A Z s kk OO J M gsz w t){s':MS P}(d:A.dir=true->∀l,l<A.n->(s'.w l).iY=(s.w l).iY/\(s'.w l).owns=(s.w l).owns)(p:∀op∈u,∀a,op.act.touch?=some a->Ak A a.loc):
 A.dir=true->∀j,j<A.n->((s'.w j).iY=false->(∀i,(kk i).cell A.fb (A.cell j)=none)/\∀m a ad,touchAt (t++u) m=some a->a.loc=.cell ad->ad.block=A.fb/\ad.off=A.cell j->m<Z.N0)/\((s'.w j).rel=true->(kk (A.b+j)).cell A.fb (A.cell j)=some (A.val j)):=λhd l c=>by
 obtain⟨q,r⟩:=d hd l c;rw[bD.rel,q,r];exact⟨λk=>⟨((h.Al hd l c).1 k).1,λm a ad v e o=>(eG v).elim (λf=>((h.Al hd l c).1 k).2 m a ad f.1 e o) (λ⟨op,g,f⟩=>(MR (p op g a f) e o).elim)⟩,(h.Al hd l c).2⟩
def dq.yZ(h:dq P A Z s kk OO J M gsz w t)(hj:j<A.n)(k:x.busy=(s.w j).busy)(E:x.owns=(s.w j).owns)(o:A.dir=true->x.iY=(s.w j).iY)(F:cj A.n (s.bc j x sh))(p:ShM A.fb A.fo w' sh)
 (d:∀b,b≠A.fb->w'.heap[b]?=w.heap[b]?) (q:∃c e,w'.heap[A.fb]?=some (.cells c e (0,0))) (z:∀op∈u,(∀a,op.act.touch?=some a->a.kind=.atomic/\Ak A a.loc)/\∀a,op.act≠.mark (.release a)):
 dq P A Z (s.bc j x sh) kk OO J M gsz w' (t++u):=by
 have m:∀l,((s.bc j x sh).w l).owns=(s.w l).owns:=λl=>by
  by_cases e:l=j
  . subst e;rw[bd,E]
  . rw[cN e]
 refine⟨F,h.size,h.dd,h.off,h.GW (λhd l _=>⟨?_,m l⟩) (λop g a r=>((z op g).1 a r).2),λhd=>by rw[d _ A.d1];exact h.Bp hd,p,h.gr.same (.of_heap (d _ (zs A.d4))),q,by rw[d _ (zs A.d4)];exact h.AA,h.im,h.fa,λi y G=>?_,λl B v=>h.AB l B (by simp_all),λv=>h.PI λl B=>by simp_all,λc H=>?_,
  λi=>by rw[h.hJ i];exact(pN hj k i).symm,h.wE u,h.nB u,h.kY u (λop g a r _ I=>?_),h.pM u (λop g a r _ I=>?_),h.qT u,h.kg u (λop g=>(z op g).2),h.EK,h.tW,h.kL,h.fQ,h.la,by simp;exact aaE h.n0 (abU _ _)⟩
 . by_cases e:l=j
   . subst e;rw[bd,o hd]
   . rw[cN e]
 . obtain⟨l,f,C,D,L,K⟩:=h.tok i y G
   exact⟨l,f,C,D,by simp_all,K⟩
 . obtain⟨C,D⟩:=h.PJ c H
   simp_all
 . grind
 grind
def dq.work(h:dq P A Z s kk OO J M gsz w t)(hj:j<A.n)(k:(s.w j).work=true)(l:x.work=true)(m:x.owns=(s.w j).owns)(f:A.dir=true->x.iY=(s.w j).iY)(o:cj A.n (s.bc j x sh))(g:ShM A.fb A.fo w' sh)
 (d:∀b,b≠A.fb->w'.heap[b]?=w.heap[b]?) (i:∃c e,w'.heap[A.fb]?=some (.cells c e (0,0))) (p:∀op∈u,(∀a,op.act.touch?=some a->a.kind=.atomic/\Ak A a.loc)/\∀a,op.act≠.mark (.release a)):
 dq P A Z (s.bc j x sh) kk OO J M gsz w' (t++u):=
 h.yZ hj (by rw[(bN k).2.2.2.2.2.1,(bN l).2.2.2.2.2.1]) m f o g d i p
end
section
variable{P:adY}
def C2 {y s fr f l e cs} (b:FR y s fr) (h:bj s=some (f,l)) (c:Ext P f e):mayWake P (G fr cs)=true:=by
 obtain⟨ops,i,rest,kk,o,as,d,g,p,j,q,a,r⟩:=dF b h;obtain⟨fn,k,t,u,v,w⟩:=c.ex;have m:fr.mode = .run:=by rw[a];rfl
 have n:fr.todo = .inRegion ops (i :: rest) :: kk:=by rw[a];rfl
 unfold mayWake;simp only[G,m,n,g,abz,j,Frame.eval,k,Option.any_some]
 grind
def JO{n b o kind cs g}(C:ij P n)(X:ik P n)(h:pe P n b o kind .give cs g):mayWake P g=true:=by
 obtain⟨c,y,fr,d,e,i,a,f,rfl⟩:=h;rcases e with rfl|rfl
 . exact C2 a (C.XO b o kind) X.pJ
 . exact C2 a (C.XP b o kind) X.pJ
def pP{b o w w'}(h:MW b o w w')(a:∃c e,w.heap[b]?=some (.cells c e (0,0))):
 w'.heap.size=w.heap.size/\(∀r,r≠b->w'.heap[r]?=w.heap[r]?)/\∃c e c',w.heap[b]?=some (.cells c e (0,0))/\w'.heap[b]?=some (.cells c' e (0,0))/\c'.size=c.size/\∀n,n≠o->n≠o+1->c'[n]?=c[n]?:=by
 obtain⟨c,e,a⟩:=a;rcases h.2 with h|⟨i,v,f,g,h⟩
 . grind
 . refine⟨by simp_all,λr d=>?_,c,e,c.setIfInBounds i v,a,?_,by simp,λn j k=>?_⟩
   . rw[h];simp only[World.setCell,abI,aau (zs d)]
   . rw[h];simp[World.setCell,abI,a]
   grind
end
section
variable{P:adY}{A:bY}{Z:Base}{s:MS P}{kk:adX}{OO:adW}{J M:adM}{gsz:Nat}{w w':World}{t:Trace}{j:Nat}{x:bD P}{sh:Mu.Sh}
def dq.calm(h:dq P A Z s kk OO J M gsz w t)(a:MW A.fb A.fo w w'):Calm Z w w':=by obtain⟨d,c,_⟩:=pP a h.wC;have:=h.fQ.2.1;exact⟨a.1,λb hb=>c b (by omega)⟩
def dq.kept(h:dq P A Z s kk OO J M gsz w t)(a:MW A.fb A.fo w w'):∀b,Kept kk OO w w' b:=λb=>by
 obtain⟨u,d,c,e,f,j,k,l,v⟩:=pP a h.wC;by_cases hb:b=A.fb
 . subst hb
   refine .inr (.inr ⟨c,f,e,j,k,l,λi x m=>by obtain⟨_,g,_,_,_,rfl,o⟩:=h.tok i x m;exact⟨g,rfl,λn p=>by have:=(o n p).2;unfold bY.cell at this;grind⟩,λn=>?_⟩);by_cases q:n=A.fo
   . subst q;exact .inr λi=>(h.fa i).1
   . by_cases r:n=A.fo+1
     . subst r;exact .inr λi=>(h.fa i).2.1
     simp_all
 . exact .inl (d b hb)
def dq.VH(h:dq P A Z s kk OO J M gsz w t){n}(a:n=A.fo\/n=A.fo+1):Ma kk OO w.heap.size (.cell ⟨A.fb,n,none⟩):=by
 have b:A.fb<w.heap.size:=by obtain⟨c,e,f⟩:=h.wC;grind
 refine⟨b,λi=>⟨λd=>?_,?_⟩⟩
 . obtain⟨_,_,_,_,e⟩:=h.Qx d
   have e:n=A.fo+2+_:=e;omega
 . rcases a with rfl|rfl
   . exact(h.fa i).1
   . exact(h.fa i).2.1
def oR{b o e}(d:(e.loc=.mark .disable\/e.loc=.mark .enable)\/∃i,(i=o\/i=o+1)/\e.loc=.cell ⟨b,i,none⟩/\e.sync=true):
 (∀a,(MemAct.ofEvent e).touch?=some a->a.kind=.atomic/\∃i,(i=o\/i=o+1)/\a.loc=.cell ⟨b,i,none⟩)/\(∀a,MemAct.ofEvent e≠.mark (.release a))/\∀B,b<B->(MemAct.ofEvent e).low B:=by
 obtain⟨loc,wr,j⟩:=e;rcases d with(h|h)|⟨i,k,h,c⟩
 . simp only at h;subst h
   simp[MemAct.ofEvent,MemAct.touch?,MemAct.low]
 . simp only at h;subst h
   simp[MemAct.ofEvent,MemAct.touch?,MemAct.low]
 . simp only at h c;subst h;subst c
   refine⟨λa f=>?_,by simp[MemAct.ofEvent],λB g=>by simpa[MemAct.ofEvent,MemAct.low,Loc.low]using g⟩;simp only[MemAct.ofEvent,MemAct.touch?,kn]at f
   grind
def dq.MT(h:dq P A Z s kk OO J M gsz w t){es}(p:EvM A.fb A.fo es){i}(hi:cr P A s i)  fn   pos :
 C1 kk OO w.heap.size t i (MemOp.ofEvents i fn pos es)/\(∀op∈MemOp.ofEvents i fn pos es,op.act.low w.heap.size)/\∀op∈MemOp.ofEvents i fn pos es,(∀a,op.act.touch?=some a->a.kind=.atomic/\Ak A a.loc)/\∀a,op.act≠.mark (.release a):=by
 have v:A.fb<w.heap.size:=by obtain⟨c,e,f⟩:=h.wC;grind
 refine⟨λop d a k=>?_,λop d=>?_,λop d=>?_⟩<;>obtain⟨e,l,rfl⟩:=KC d<;>obtain⟨o,q,x⟩:=oR (p e l)
 . obtain⟨f,n,g,j⟩:=o a k
   refine⟨f,λ_=>by rw[j];exact h.VH g,λm b hb r u=>h.quiet m b hb ?_ u i hi⟩
   rw[r,j];exact⟨rfl,.inl ⟨rfl,g⟩⟩
 . grind
 . refine⟨λa k=>?_,q⟩
   obtain⟨f,n,g,j⟩:=o a k;exact⟨f,by rw[j];exact⟨rfl,.inl ⟨rfl,g⟩⟩⟩
end
structure fR{P}(A:bY)(s s':MS P)  i :Prop where
 w:∀l,l<A.n->A.b+l≠i->s'.w l=s.w l
 c:i≠A.cl->s'.c=s.c
 ms:i≠0->s'.ms=s.ms
 sp:s'.sp=s.sp
 d:s'.d=s.d
 ji:(∀l,l<A.n->(s'.w l).ji=(s.w l).ji)\/((dR P A s 0->∃m,s.ms=.add m\/s.ms=.spawn m)/\s.ms≠.parked)
section
variable{P:adY}{A:bY}{Fin:adr}{Z:Base}{s s':MS P}{f f':Nat->Node P}{q q':adS}{kk kk':adX}{OO OO':adW}{J J' M:adM}{gs:adv}{gsz:Nat}{w w':World}{t u:Trace}{i:Nat}{g g1:adP}
def y7(h:∀l,l<A.n->(s'.w l).ji=(s.w l).ji):MS.rem P A.n s'=MS.rem P A.n s:=by unfold MS.rem;exact ack λl a=>by grind
def fR.live(h:fR A s s' i){j}(hj:j≠i):dR P A s' j↔dR P A s j:=by
 constructor<;>rintro(⟨b,a⟩|⟨l,a,d,f⟩|⟨b,a⟩)
 . exact .inl ⟨b,by rw[<-h.ms (λe=>hj (b.trans e.symm))];exact a⟩
 . exact .inr (.inl ⟨l,a,d,by rw[<-h.w l a (λe=>hj (d.trans e))];exact f⟩)
 . exact .inr (.inr ⟨b,by rw[<-h.c (λe=>hj (b.trans e.symm))];exact a⟩)
 . exact .inl ⟨b,by rw[h.ms (λe=>hj (b.trans e.symm))];exact a⟩
 . exact .inr (.inl ⟨l,a,d,by rw[h.w l a (λe=>hj (d.trans e))];exact f⟩)
 . exact .inr (.inr ⟨b,by rw[h.c (λe=>hj (b.trans e.symm))];exact a⟩)
def fR.walk(h:fR A s s' i){j}(hj:j≠i):il P A s' j↔il P A s j:=by
 constructor<;>rintro(⟨b,a⟩|⟨l,a,d,f⟩|⟨b,a⟩)
 . exact .inl ⟨b,by rw[<-h.ms (λe=>hj (b.trans e.symm))];exact a⟩
 . exact .inr (.inl ⟨l,a,d,by rw[<-h.w l a (λe=>hj (d.trans e))];exact f⟩)
 . exact .inr (.inr ⟨b,by rw[<-h.c (λe=>hj (b.trans e.symm))];exact a⟩)
 . exact .inl ⟨b,by rw[h.ms (λe=>hj (b.trans e.symm))];exact a⟩
 . exact .inr (.inl ⟨l,a,d,by rw[h.w l a (λe=>hj (d.trans e))];exact f⟩)
 . exact .inr (.inr ⟨b,by rw[h.c (λe=>hj (b.trans e.symm))];exact a⟩)
def fR.held(h:fR A s s' i){j}(hj:j≠i):fY P A s' j↔fY P A s j:=by
 constructor<;>rintro(⟨b,a⟩|⟨l,a,c,d⟩)
 . exact .inl ⟨b,by rw[<-h.ms (λe=>hj (b.trans e.symm))];exact a⟩
 . exact .inr ⟨l,a,c,by rw[<-h.w l a (λe=>hj (c.trans e))];exact d⟩
 . exact .inl ⟨b,by rw[h.ms (λe=>hj (b.trans e.symm))];exact a⟩
 . exact .inr ⟨l,a,c,by rw[h.w l a (λe=>hj (c.trans e))];exact d⟩
def mS  K  (t:fR A s s' i) (L:∀j,j≠i->f' j=f j) (M:∀j,j≠i->q' j=q j) (N:∀j,j≠i->j<A.b+A.n+1->kk' j=kk j) (Q:∀j,j≠i->j<A.b+A.n+1->OO' j=OO j) (R:∀j,j≠i->J j->J' j)
 (o:((s.sh.ms=0->s'.sh.ms=0)/\(s.gm=0->s'.gm=0))\/(mayWake P g=true/\(g1.status=.running\/g1.status=.finished))) (S:∀{i k O y},VG P A Fin s i k O y->y.status=.running/\y.offers=none):
 Beside (cE P A Fin Z K) s s' f f' q q' kk kk' OO OO' J J' w' i g g1:=by
 have hb:=A.hb;have wl:∀{j l:Nat},l<A.n->j≠i->j=A.b+l->s'.w l=s.w l:=λ{j l} E a e=>t.w l E (λh=>a (e.trans h))
 have x:∀{j:Nat},j≠i->j=0->s'.ms=s.ms:=λa e=>t.ms (λh=>a (e.trans h.symm))
 have H:∀{j:Nat},j≠i->j=A.cl->s'.c=s.c:=λa e=>t.c (λh=>a (e.trans h.symm))
 refine⟨L,M,N,Q,λj a _ h=>R j a h,λj a=>t.live a,λj a=>t.walk a,λj a=>t.held a,λj a E=>?_,λj k O y a _ F=>?_,λj a I=>?_,λj a I hd=>?_,λj k O y a T F=>?_,λj y a _ U=>?_⟩
 . show cS P A Fin s' j=cS P A Fin s j
   unfold cS;by_cases d:j=0
   . rcases t.ji with u|⟨u,_⟩
     . simp only[aav d,x a d,y7 u]
     . subst d
       obtain⟨m,e|e⟩:=u E<;>simp only[aay,x a rfl,e]
   rcases E with⟨G,_⟩|⟨l,p,r,_⟩|⟨G,_⟩
   . omega
   . have e:j-A.b=l:=by omega
     grind
   grind
 . rcases F with⟨d,h⟩|⟨l,p,r,B⟩|⟨d,h⟩
   . exact .inl ⟨d,by grind⟩
   . exact .inr (.inl ⟨l,p,r,by grind⟩)
   . exact .inr (.inr ⟨d,by grind⟩)
 . show eu P A s' j=eu P A s j
   unfold eu;rcases I with⟨d,h1⟩|⟨l,p,r,_⟩|⟨d,_⟩
   . grind
   . grind
   grind
 . rcases o with⟨o,v⟩|⟨hm,u⟩
   . refine .inl ?_
     rcases hd with⟨l,sv,Y,p,r,B,C⟩|⟨d,B,C⟩
     . exact .inl ⟨l,sv,Y,p,r,by grind,o C⟩
     . exact .inr ⟨d,by grind,v C⟩
   . refine .inr λy V=>?_
     obtain⟨W,a2⟩:=S V;have H:(mayWake P g && g1.status !=.blocked && g1.status !=.waiting)=true:=by grind
     unfold Go.Conc.woken;rw[aav H,Bh W a2]
 . rcases F with⟨d,D,z,p,r,B,C⟩|h
   . rcases t.ji with u|⟨_,u⟩
     . exact .inl ⟨d,D,z,p,r,B,by rw[y7 u];exact C⟩
     . rcases T with⟨_,h7⟩|⟨l,_,h7,_⟩
       . simp_all
       . omega
   . exact .inr h
 . exact λl b X p r B=>U l b X p r (by grind)
variable{j:Nat}{x:bD P}{sh:Mu.Sh}
def yZ(hj:j<A.n)(h:x.ji=(s.w j).ji\/((dR P A s 0->∃m,s.ms=.add m\/s.ms=.spawn m)/\s.ms≠.parked)):fR A s (s.bc j x sh) (A.b+j):=⟨λl _ a=>cN (by omega),λ_=>rfl,λ_=>rfl,rfl,rfl,h.imp_left λh l _=>by
 by_cases e:l=j
 . subst e;rw[bd,h]
 . rw[cN e]⟩
def qU  c  (hj:j<A.n) (d:x.ji=(s.w j).ji) (e:∀i,i≠A.b+j->f' i=f i) (l:∀i,i≠A.b+j->q' i=q i) (m:∀i,i≠A.b+j->i<A.b+A.n+1->kk' i=kk i) (o:∀i,i≠A.b+j->i<A.b+A.n+1->OO' i=OO i) (p:∀i,i≠A.b+j->J i->J' i)
 (a:(s.sh.ms=0->sh.ms=0)\/(mayWake P g=true/\g1.status=.running)) (r:∀{i k O y},VG P A Fin s i k O y->y.status=.running/\y.offers=none):
 Beside (cE P A Fin Z c) s (s.bc j x sh) f f' q q' kk kk' OO OO' J J' w' (A.b+j) g g1:=
 mS c (yZ hj (.inl d)) e l m o p (a.imp (λh=>⟨h,id⟩) λh=>⟨h.1,.inl h.2⟩) r
def nC  c  (hj:j<A.n) (d:(s.w j).work=true) (e:x.work=true) (h:∀i,i≠A.b+j->f' i=f i) (l:∀i,i≠A.b+j->q' i=q i) (m:∀i,i≠A.b+j->i<A.b+A.n+1->kk' i=kk i) (o:∀i,i≠A.b+j->i<A.b+A.n+1->OO' i=OO i) (p:∀i,J i->J' i)
 (a:(s.sh.ms=0->sh.ms=0)\/(mayWake P g=true/\g1.status=.running)) (r:∀{i k O y},VG P A Fin s i k O y->y.status=.running/\y.offers=none):
 Beside (cE P A Fin Z c) s (s.bc j x sh) f f' q q' kk kk' OO OO' J J' w' (A.b+j) g g1:=
 qU c hj (by rw[(bN e).2.2.1,(bN d).2.2.1]) h l m o (λi _=>p i) a r
end
def bD.kZ{P}:bD P->Bool
 |.lk ..=>true|.un ..=>true|_=>false
def jA{P}{x:bD P}(h:x.kZ=true):x.work=true:=by cases x<;>simp_all [bD.kZ,bD.work]
section
variable{P:adY}{A:bY}{Fin:adr}{Z:Base}{s:MS P}{f:Nat->Node P}{q:adS}{kk:adX}{OO:adW}{J M:adM}{gs:adv}{w w':World}{t:Trace}{j:Nat}{x:bD P}{sh:Mu.Sh}{g g1:adP}
def xI(hj:j<A.n)(h:(s.w j).busy=true):eQ P A s (A.b+j):=.inl ⟨j,hj,rfl,h⟩
def jj(I:cj A.n s)(hj:j<A.n)(h:(s.w j).j9=false):cr P A s (A.b+j):=by
 refine .inr (.inl ⟨j,?_,rfl⟩);have:=I.idle j hj
 simp_all
def jB(hj:j<A.n)(h:(s.w j).kZ=true):il P A s (A.b+j):=.inr (.inl ⟨j,hj,rfl,by cases e:s.w j<;>simp_all [bD.kZ]⟩)
def nD(hj:j<A.n)(h:(s.w j).kZ=true):¬dR P A s (A.b+j):=by
 have:=A.hb;rintro(⟨e,_⟩|⟨l,a,c,d⟩|⟨e,_⟩)
 . omega
 . obtain rfl:l=j:=by omega
   cases e:s.w l<;>simp_all [bD.kZ]
 . omega
def qV(hj:j<A.n)(h:(s.w j).kZ=true):¬fY P A s (A.b+j):=by
 have:=A.hb;rintro(⟨e,_⟩|⟨l,c,d,a⟩)
 . omega
 . obtain rfl:l=j:=by omega
   rw[a]at h;cases h
def fF(hj:j<A.n):eu P A s (A.b+j)=(s.w j).deaf:=by
 have:=A.hb;unfold eu
 grind
def EO  u  (L:bP (cE P A Fin Z u) Z s f q kk OO J M gs w t) (hj:j<A.n) (K:(s.w j).work=true){d}(N:Deaf t (A.b+j)=d) (Q:¬fY P A s (A.b+j)) (h2:x.kZ=true) (ho:x.owns=(s.w j).owns) (R:A.dir=true->x.iY=(s.w j).iY) (hI:cj A.n (s.bc j x sh)) (hL:MS.gX A.n (s.bc j x sh) s)
 (hg:gs[A.b+j]?=some g){es}(S:stepG P false g w=.go g1 w' es) (o:MW A.fb A.fo w w') (T:ShM A.fb A.fo w' sh) (U:EvM A.fb A.fo es) (hd:deafBehind d es=x.deaf)
 (hs:∃n g',jN P (lU A) n g1 g'/\ID P A j x (kk (A.b+j)) (OO (A.b+j)) g') (v:(s.sh.ms=0->sh.ms=0)\/(mayWake P g=true/\g1.status=.running))  sl :
 ∃ops m',runT P (crowd gs w sl) (A.b+j)=(.next m',ops)/\∃s' f' q' kk' OO' J' M' gs' z V,m'=crowd gs' z V/\MS.gX A.n s' s/\bP (cE P A Fin Z u) Z s' f' q' kk' OO' J' M' gs' z (t++ops):=by
 obtain⟨n,g',C,W⟩:=hs;have hb:=A.hb;have B:=bs (P:=P) (A:=A) (Fin:=Fin) (Z:=Z) u;have w2:=jA h2;have p:dq P A Z s kk OO J M gs.size w t:=L.ex;have X:(A.b+j==0)=false:=by simp;omega
 have D:=runT_crowd_go (P:=P) (sl:=sl) (i:=A.b+j) hg (by rw[X];exact S)
 have E:cr P A s (A.b+j):=jj p.I hj (bN K).2.2.2.2.1;obtain⟨y1,y2,y3⟩:=p.MT U E g.frame.fn g.frame.place;have m:∀op∈MemOp.ofEvents (A.b+j) g.frame.fn g.frame.place es,op.g=A.b+j:=λop Y=>by obtain⟨e,_,rfl⟩:=KC Y;rfl
 obtain⟨m1,m2,c,e,c',m3,m4,_⟩:=pP o p.wC;have hP:=L.c8.sync (i:=A.b+j) (.inr ((p.hJ _).2 (xI hj (bN K).2.2.2.2.2.1))) m m1 (p.calm o) (p.kept o) y2 y1;have F:dq P A Z (s.bc j x sh) kk OO J M gs.size w' (t++MemOp.ofEvents (A.b+j) g.frame.fn g.frame.place es):=p.work hj K w2 ho R hI T m2 ⟨c',e,m4⟩ y3
 have r:Beside (cE P A Fin Z u) s (s.bc j x sh) f f q (upd q (A.b+j) n) kk kk OO OO J J w' (A.b+j) g g1:=nC u hj K w2 (λ_ _=>rfl) (λi hi=>upd_ne q n hi) (λ_ _ _=>rfl) (λ_ _ _=>rfl) (λ_ h=>h) v (λ{i k O y} hA=>B.lM (s:=s) (i:=i) (k:=k) (O:=O) (g:=y) hA)
 have a:((s.bc j x sh).w j).kZ=true:=by rw[bd];exact h2
 refine⟨_,_,D,s.bc j x sh,f,upd q (A.b+j) n,kk,OO,J,M,_,_,_,rfl,hL,?_⟩;refine bP.step B L hg m hP F (λl y G hA=>?_) r ⟨λG=>absurd G (nD hj a),λ_=>⟨nD hj a,?_,?_,g',?_,?_⟩,λhh=>absurd hh (qV hj a),λ_ hn _=>absurd (jB hj a) hn⟩
 . have H:l≠A.b+j:=λe=>Q (e ▸ G)
   exact B.tZ F ((r.held l H).2 G) _ _ (r.Up l _ _ _ H G hA)
 . show A.b+j<A.b+A.n+1;omega
 . rw[Deaf_own,N]
   show deafBehind d es=eu P A (s.bc j x sh) (A.b+j);rw[fF hj,bd];exact hd
 . exact .inr (.inl ⟨j,hj,rfl,by rw[bd];exact W⟩)
 . exact .inr (by rw[upd_same];exact C)
def y8  d  (u:bP (cE P A Fin Z d) Z s f q kk OO J M gs w t) (hj:j<A.n) (e:(s.w j).kZ=true) (y:x.kZ=true) (z:x.owns=(s.w j).owns) (h:A.dir=true->x.iY=(s.w j).iY) (B:cj A.n (s.bc j x sh)) (C:MS.gX A.n (s.bc j x sh) s)
 (D:gs[A.b+j]?=some g){es}(i:stepG P false g w=.go g1 w' es) (k:MW A.fb A.fo w w') (l:ShM A.fb A.fo w' sh) (m:EvM A.fb A.fo es) (hd:deafBehind (s.w j).deaf es=x.deaf)
 (E:∃n g',jN P (lU A) n g1 g'/\ID P A j x (kk (A.b+j)) (OO (A.b+j)) g') (a:(s.sh.ms=0->sh.ms=0)\/(mayWake P g=true/\g1.status=.running))  sl :
 ∃ops v,runT P (crowd gs w sl) (A.b+j)=(.next v,ops)/\∃s' f' q' kk' OO' J' M' gs' c o,v=crowd gs' c o/\MS.gX A.n s' s/\bP (cE P A Fin Z d) Z s' f' q' kk' OO' J' M' gs' c (t++ops):=by
 have p:=jB (P:=P) (A:=A) (s:=s) hj e;obtain⟨_,_,r,_⟩:=u.walk _ p;exact EO d u hj (jA e) (r.trans (fF hj)) (qV hj e) y z h B C D i k l m hd E a sl
end
namespace Mu
section
variable{n:Nat}{pcs:Nat->Pc}{s:Sh}{i:Nat}
def Qz{f:Pc->Nat}(h:∀p,f p<=1)(pcs:Nat->Pc)  n :gg n (λi=>f (pcs i))<=n:=by
 have:=GC (f:=λi=>f (pcs i)) (c:=1) (λi=>h _) n;omega
def Inv.Yb(h:Inv n pcs s):s.w.N<=n+1/\s.ms<=1:=by
 have b:=Qz (f:=cV) (λp=>by cases p<;>simp[cV]) pcs n
 cases e:s.w.S with
 | false=>
   obtain⟨c,_,a⟩:=h.j2 e;have:s.w.K.toNat<=1:=by cases s.w.K<;>simp
   omega
 | true=>
   obtain⟨_,_,a,d⟩:=h.j3 e;have:(!s.w.L).toNat<=1:=by cases s.w.L<;>simp
   omega
def Inv.QA(h:Inv n pcs s)(hi:i<n)(a:pcs i=.held):s.w.L=true:=by
 have:cH (pcs i)<=gg n (λj=>cH (pcs j)):=jz (λj=>cH (pcs j)) hi;rw[h.j1,a,show cH .held=1 from rfl]at this
 grind
def Inv.SU(h:Inv n pcs s)(hi:i<n){old sv}(a:pcs i=.add old sv):s.w.L=false/\s.w.S=true/\s.w.N≠0:=by
 have:dt (pcs i)<=gg n (λj=>dt (pcs j)):=jz (λj=>dt (pcs j)) hi;rw[a,show dt (.add old sv)=1 from rfl]at this;cases e:s.w.S with
 |false=>obtain⟨_,b,_⟩:=h.j2 e;omega
 | true=>
   obtain⟨_,_,c,d⟩:=h.j3 e
   grind
end
def C3:Pc->Bool
 |.rd _=>true|.sq ..=>true|.sw ..=>true|.lx ..=>true|.iq _=>true|.tq=>true|.up _=>true|.add ..=>true|.held=>true|_=>false
def GX:Pc->Bool
 |.out=>true|.jM _=>true|.wY=>true|.give=>true|_=>false
def RV  old   l :C3 (nx old l)=true:=by unfold nx;split<;>rfl
def VI{old l p}(h:p∈hd old l):C3 p=true:=by
 unfold hd at h;rw[aaC]at h;rcases h with h|h
 . split at h
   . rw[lb]at h;subst h;split<;>rfl
   . cases h
 . rw[lb]at h;subst h;rfl
def VJ{p q s s'}(b:p=.iU\/(C3 p=true/\p≠.held))(h:(q,s')∈mv p s)(e:q≠.bad):C3 q=true:=by
 rcases b with rfl|⟨b,c⟩
 . simp only[mv]at h
   split at h<;>(rw[lb,zU]at h;obtain⟨rfl,rfl⟩:=h;rfl)
 cases p<;>simp only[C3,aap]at b
 case rd l=>simp only[mv,lb,zU]at h;obtain⟨rfl,rfl⟩:=h;exact RV _ _
 case sq old l=>simp only[mv,aax,zU]at h;obtain⟨a,d,rfl,rfl⟩:=h;exact VI d
 case sw old l=>simp only[mv]at h;split at h<;>(rw[lb,zU]at h;obtain⟨rfl,rfl⟩:=h;rfl)
 case lx old l=>
  simp only[mv]at h;split at h
  . simp_all
  split at h
  . rw[lb,zU]at h;obtain⟨rfl,rfl⟩:=h;split<;>rfl
  . rw[lb,zU]at h;obtain⟨rfl,rfl⟩:=h;rfl
 case iq sv=>
  simp only[mv]at h;split at h
  . cases h
  . rw[lb,zU]at h;obtain⟨rfl,rfl⟩:=h;split<;>rfl
 case tq=>
  simp only[mv,abp,zU,acn,or_false]at h;rcases h with⟨rfl,rfl⟩|⟨rfl,rfl⟩<;>rfl
 case up sv=>
  simp only[mv]at h;split at h
  . split at h
    . simp_all
    . rw[lb,zU]at h;obtain⟨rfl,rfl⟩:=h;rfl
  . rw[lb,zU]at h;obtain⟨rfl,rfl⟩:=h;exact RV _ _
 case add old sv=>simp only[mv,lb,zU]at h;obtain⟨rfl,rfl⟩:=h;rfl
 simp_all
def VK{p q s s'}(a:p=.held\/(GX p=true/\p≠.out))(h:(q,s')∈mv p s)(c:q≠.bad):GX q=true:=by
 rcases a with rfl|⟨a,b⟩
 . simp only[mv]at h
   split at h
   . simp_all
   . rw[lb,zU]at h
     obtain⟨rfl,rfl⟩:=h;split
     . rfl
     split
     . rfl
     split<;>rfl
 cases p<;>simp only[GX,aap]at a
 case out=>simp_all
 case jM old=>simp only[mv]at h;split at h<;>(rw[lb,zU]at h;obtain⟨rfl,rfl⟩:=h;rfl)
 case wY=>simp only[mv,lb,zU]at h;obtain⟨rfl,rfl⟩:=h;split<;>rfl
 case give=>simp only[mv,lb,zU]at h;obtain⟨rfl,rfl⟩:=h;rfl
def RX{p q s s'}(b:p≠.give)(h:(q,s')∈mv p s)(a:s.ms=0):s'.ms=0:=by
 cases p<;>simp only[mv]at h
 case out=>cases h
 case bad=>cases h
 case give=>simp_all
 case sq=>grind
 case tq=>grind
 all_goals repeat' split at h
 all_goals first
  |(cases h;done)
  |(rw[lb,zU]at h;obtain⟨_,rfl⟩:=h;first|exact a|(show s.ms-1=0;omega))
end Mu
def vv:CP->Bool
 |.iU=>true|.rd _=>true|.sq ..=>true|.sw ..=>true|.lx ..=>true|.iq _=>true|.tq=>true|.up _=>true|.add ..=>true|.held=>true|.jM _=>true|.wY=>true|.give=>true
 |_=>false
def MU{q p}(h:To q p):p.abs=q:=by cases h<;>rfl
def VL{q p}(h:To q p)(a:Mu.C3 q=true):EI p=true/\p≠.ld/\p≠.la:=by cases h<;>simp_all [Mu.C3,EI]
def VM{q p}(h:To q p)(a:Mu.GX q=true):Az p=true/\p≠.Im/\p≠.ur/\p≠.ud:=by cases h<;>simp_all [Mu.GX,Az]
def MV{q p}(h:To q p):q≠.bad:=by cases h<;>simp
section
variable{P:adY}{nm:Ev}(C:ij P nm)(X:ik P nm){n:Nat}{pcs:Nat->Mu.Pc}{s:Mu.Sh}{i:Nat}{p:CP}{b o:Nat}{kind:adU}{Wd:adF}{cs:adK}{g:adP}{w:World}{main:Bool}
include C X in
def EP(I:Mu.Inv n pcs s)(hi:i<n)(v:n<=900)(c:pcs i=p.abs)(f:vv p=true)(a:ShM b o w s)(h:pe P nm b o kind p cs g):
 mN P nm b o kind Wd cs g w main p.abs s\/((∃sv,p=.iq sv)/\s.ms=0/\stepG P main g w=.go {g with status:=.blocked} w #[]):=by
 obtain⟨x,k⟩:=I.Yb;have hb:s.w.N<=1000:=by omega
 have j:∀{q s'},(q,s')∈Mu.mv (pcs i) s->Mu.loc q:=λ{q s'} f=>by
  have:=(I.step hi f).j0 i hi
  rwa [Mu.ai]at this
 have d:Mu.loc (pcs i):=I.j0 i hi;rw[c]at j d;cases p<;>simp only[vv,aap]at f
 case iU=>exact .inl (Jz C X a h)
 case rd l=>exact .inl (Qk C X a hb (j (q:=Mu.nx s.w l) (s':=s) (by simp[CP.abs,Mu.mv])) h)
 case sq old l=>exact .inl (Ql C X a d h)
 case sw old l=>exact .inl (Qm C X a d h)
 case lx old l=>exact .inl (MC C X a d h)
 case iq sv=>
  by_cases e:s.ms=0
  . exact .inr ⟨⟨sv,rfl⟩,e,EB C X a e h⟩
  . exact .inl (JA C X a e h)
 case tq=>exact .inl (Qn C X a h)
 case up sv=>exact .inl (Qo C X a hb (λq s' m=>j m) h)
 case add old sv=>obtain⟨r,t,u⟩:=I.SU hi c;exact .inl (MD C X a hb r t u h)
 case held=>exact .inl (JB C X a hb (I.QA hi c) h)
 case jM old=>exact .inl (JC C X a h)
 case wY=>exact .inl (ME C X a hb h)
 case give=>exact .inl (JD C X a (by omega) h)
end
section
variable{P:adY}{A:bY}{Fin:adr}{Z:Base}{s:MS P}{f:Nat->Node P}{q:adS}{kk:adX}{OO:adW}{J M:adM}{gs:adv}{w:World}{t:Trace}{j:Nat}{g:adP}
def Goes  P  (A:bY) (Fin:adr) (Z:Base) (f:A.b+A.n+1<=Z.lk) (s:MS P) (gs:adv) (w:World) (t:Trace) (sl:adt) (i:Nat):Prop:=∃ops e,runT P (crowd gs w sl) i=(.next e,ops)/\∃s' f' q' kk' OO' J' M' a c d,e=crowd a c d/\MS.gX A.n s' s/\bP (cE P A Fin Z f) Z s' f' q' kk' OO' J' M' a c (t++ops)
def GY  P  (A:bY) (s:MS P) (gs:adv) (w:World) (sl:adt) (i:Nat) (g:adP):Prop:=SO P A s i/\runT P (crowd gs w sl) i=(.next (crowd (gs.setIfInBounds i (blk g)) w sl),#[])
def ER(e:gs[A.b+j]?=some g)(a:stepG P false g w=.go {g with status:=.blocked} w #[])  sl :runT P (crowd gs w sl) (A.b+j)=(.next (crowd (gs.setIfInBounds (A.b+j) (blk g)) w sl),#[]):=by
 have hb:=A.hb;have c:(A.b+j==0)=false:=by simp;omega
 have h:=runT_crowd_go (P:=P) (sl:=sl) (i:=A.b+j) e (by rw[c];exact a)
 have d:woken P g {g with status:=.blocked} w=id:=funext λo=>by unfold Go.Conc.woken;simp
 rw[d,Array.map_id]at h;exact h
variable(C:ij P A.nm)(X:ik P A.nm)
include C X in
def QB  G  (H:bP (cE P A Fin Z G) Z s f q kk OO J M gs w t) (hj:j<A.n){p Y}(a:s.w j=.lk p Y) (K:gs[A.b+j]?=some g) (V:ID P A j (.lk p Y) (kk (A.b+j)) (OO (A.b+j)) g) (W:p≠.la)  sl :
 Goes P A Fin Z G s gs w t sl (A.b+j)\/GY P A s gs w sl (A.b+j) g:=by
 have m:dq P A Z s kk OO J M gs.size w t:=H.ex;have a7:EI p=true:=by have:=m.I.ok j hj;rw[a]at this;exact this
 have L:(s.w j).kZ=true:=by rw[a];rfl
 have v:=jA L;have l:(s.w j).pc=p.abs:=by rw[a];rfl
 have hn:=A.hn;have hb:=A.hb;have aC:(A.b+j==0)=false:=by simp;omega
 obtain⟨kind,c,rest,e,Q,R,S,T,o,r,U⟩:=V
 by_cases N:vv p=true
 . rcases EP (Wd:=lU A) (main:=false) C X m.I.mu hj hn l N m.mu R with⟨g1,w',es,qq,s',z,i,B,D,⟨hr,E,⟨k,d⟩,F⟩,a8,a9,ad,al⟩|⟨⟨sv,rfl⟩,u,i⟩
   . left
     have av:Mu.C3 qq=true:=Mu.VJ (by cases p<;>simp_all [EI,vv,CP.abs,Mu.C3]) B (MV D)
     obtain⟨k1,k2,k3⟩:=VL D av;have y:((bD.lk z Y).pc,s')∈Mu.mv (s.w j).pc s.sh:=by rw[l,show(bD.lk z Y).pc=z.abs from rfl,MU D];exact B
     have ax:(s.w j).deaf=1:=by rw[a];cases p<;>simp_all [bD.deaf,vv,EI]
     have ay:(bD.lk z Y).deaf=1:=by cases z<;>simp_all [bD.deaf]
     refine y8 (x:=.lk z Y) G H hj L rfl (by rw[a];rfl) (λ_=>by rw[a];rfl) (m.I.mv hj v rfl k1 y) (IF m.I hj v rfl (by rw[a];rfl) y ?_) K i a8 a9 ad (by rw[al,ax,ay]) ⟨k,E,d,kind,c,rest,e,Q,F,S,T,o,r,U⟩ (.inl λu=>Mu.RX ?_ B u) sl
     . cases z<;>simp_all [bD.ex]
     . cases p<;>simp_all [vv,EI,CP.abs]
   . right
     exact⟨.inl ⟨j,sv,Y,hj,rfl,a,u⟩,ER K i sl⟩
 . cases p<;>simp only[vv,EI,not_true_eq_false,aap]at N a7
   case ld=>obtain⟨g1,i,hr,E,⟨k,d⟩,F⟩:=CQ (Wd:=lU A) (main:=false) (w:=w) C X R;left;exact y8 (x:=.lk .iU Y) (sh:=s.sh) G H hj L rfl (by rw[a];rfl) (λ_=>by rw[a];rfl) (m.I.Zc hj v rfl rfl l rfl) (MQ hj v rfl (by rw[a];rfl) l rfl (by rw[a];rfl) rfl) K i (bt rfl) m.mu (λe O=>by simp at O;subst O;exact .inl (.inl rfl)) (by rw[a];rfl) ⟨k,E,d,kind,c,rest,e,Q,F,S,T,o,r,U⟩ (.inl λu=>u) sl
   case t1 sv=>obtain⟨g1,i,hr,E,⟨k,d⟩,F⟩:=Qi (Wd:=lU A) (main:=false) (w:=w) C X R;left;exact y8 (x:=.lk (.iq sv) Y) (sh:=s.sh) G H hj L rfl (by rw[a];rfl) (λ_=>by rw[a];rfl) (m.I.still hj v rfl rfl (by rw[l];rfl)) (mR hj v rfl (by rw[a];rfl) (by rw[l];rfl) (by rw[a];simp[bD.ex])) K i (bt rfl ⟨⟨w.tick,rfl⟩,rfl⟩) (m.mu.heap rfl) gy (by rw[a];rfl) ⟨k,E,d,kind,c,rest,e,Q,F,S,T,o,r,U⟩ (.inl λu=>u) sl
   case le=>
    obtain⟨g1,i,hr,E,⟨k,d⟩,F⟩:=Is (Wd:=lU A) (main:=false) (w:=w) C X (λw h=>h.2.2) R
    left;exact y8 (x:=.lk .la Y) (sh:=s.sh) G H hj L rfl (by rw[a];rfl) (λ_=>by rw[a];rfl) (m.I.still hj v rfl rfl (by rw[l];rfl)) (mR hj v rfl (by rw[a];rfl) (by rw[l];rfl) (by rw[a];simp[bD.ex])) K i (bt rfl) m.mu (λe O=>by simp at O;subst O;exact .inl (.inr rfl)) (by rw[a];rfl) ⟨k,E,d,kind,c,rest,e,Q,F,S,T,o,r,U⟩ (.inl λu=>u) sl
   case la=>exact absurd rfl W
end
section
variable{P:adY}{A:bY}{Fin:adr}{Z:Base}{s:MS P}{f:Nat->Node P}{q:adS}{kk:adX}{OO:adW}{J M:adM}{gs:adv}{w:World}{t:Trace}{j:Nat}{g:adP}
variable(C:ij P A.nm)(X:ik P A.nm)
include C X in
def QC  B  (L:bP (cE P A Fin Z B) Z s f q kk OO J M gs w t) (hj:j<A.n){p Y}(a:s.w j=.un p Y) (Q:gs[A.b+j]?=some g) (R:ID P A j (.un p Y) (kk (A.b+j)) (OO (A.b+j)) g) (S:p≠.ur) (T:p≠.ue)  sl :
 Goes P A Fin Z B s gs w t sl (A.b+j):=by
 have m:dq P A Z s kk OO J M gs.size w t:=L.ex;have F:Az p=true:=by have:=m.I.ok j hj;rw[a]at this;exact this
 have N:(s.w j).kZ=true:=by rw[a];rfl
 have D:=jA N;have i:(s.w j).pc=p.abs:=by rw[a];rfl
 have hn:=A.hn;have hb:=A.hb;obtain⟨kind,c,rest,U,O,V,W,G⟩:=R
 by_cases u:vv p=true
 . have a7:¬(p=.Im\/p=.ur):=by rintro(rfl|rfl)<;>cases u
   have hN:=G a7
   rcases EP (Wd:=lU A) (main:=false) C X m.I.mu hj hn i u m.mu O with⟨g1,w',es,qq,s',o,l,y,z,⟨hr,H,⟨k,d⟩,K⟩,a8,a9,ad,al⟩|⟨⟨sv,rfl⟩,E,l⟩
   . have av:Mu.GX qq=true:=Mu.VK (by cases p<;>simp_all [Az,vv,CP.abs,Mu.GX]) y (MV z)
     obtain⟨k1,k2,k3,k4⟩:=VM z av;have r:((bD.un o Y).pc,s')∈Mu.mv (s.w j).pc s.sh:=by rw[i,show(bD.un o Y).pc=o.abs from rfl,MU z];exact y
     have ax:(s.w j).deaf=1:=by rw[a];cases p<;>simp_all [bD.deaf,vv,Az]
     have ay:(bD.un o Y).deaf=1:=by cases o<;>simp_all [bD.deaf]
     have aC:(s.w j).owns=false:=by rw[a];cases p<;>simp_all [bD.owns,vv,Az]
     have aE:(bD.un o Y).owns=false:=by cases o<;>simp_all [bD.owns]
     refine y8 (x:=.un o Y) B L hj N rfl (by rw[aC,aE]) (λ_=>by rw[a];rfl) (m.I.mv hj D rfl k1 r) (IF m.I hj D rfl (by rw[a];rfl) r ?_) Q l a8 a9 ad (by rw[al,ax,ay]) ⟨k,H,d,kind,c,rest,U,K,V,λh=>absurd h (λh=>h.elim k2 k3),λ_=>hN⟩ ?_ sl
     . cases o<;>simp_all [bD.ex]
     . by_cases aL:p=.give
       . subst aL;exact .inr ⟨JO C X O,hr⟩
       . refine .inl λE=>Mu.RX ?_ y E
         cases p<;>simp_all [vv,Az,CP.abs]
   . exact absurd F (by simp[Az])
 . cases p<;>simp only[vv,Az,not_true_eq_false,aap]at u F
   case Im=>
    obtain⟨v,hv⟩:=((bs (P:=P) (A:=A) (Fin:=Fin) (Z:=Z) B).wd m).2.2;obtain⟨g1,l,hr,H,⟨k,d⟩,K⟩:=yP (Wd:=lU A) (main:=false) (w:=w) C X (λw h=>h.2.2) hv O
    exact y8 (x:=.un .ur Y) (sh:=s.sh) B L hj N rfl (by rw[a];rfl) (λ_=>by rw[a];rfl) (m.I.still hj D rfl rfl (by rw[i];rfl)) (mR hj D rfl (by rw[a];rfl) (by rw[i];rfl) (by rw[a];simp[bD.ex])) Q l (bt rfl) m.mu gy (by rw[a];rfl) ⟨k,H,d,kind,c,rest,U,K,V,λ_=>W (.inl rfl),λh=>absurd (.inr rfl) h⟩ (.inl λE=>E) sl
   case ud=>
    have hN:=G (by rintro(h|h)<;>cases h)
    obtain⟨g1,l,hr,H,⟨k,d⟩,K⟩:=Ip (Wd:=lU A) (main:=false) (w:=w) C X O;exact y8 (x:=.un .held Y) (sh:=s.sh) B L hj N rfl (by rw[a];rfl) (λ_=>by rw[a];rfl) (m.I.still hj D rfl rfl (by rw[i];rfl)) (mR hj D rfl (by rw[a];rfl) (by rw[i];rfl) (by rw[a];simp[bD.ex])) Q l (bt rfl) m.mu (λe he=>by simp at he;subst he;exact .inl (.inl rfl)) (by rw[a];rfl) ⟨k,H,d,kind,c,rest,U,K,V,λh=>absurd h (by simp),λ_=>hN⟩ (.inl λE=>E) sl
   case ur=>exact absurd rfl S
   case ue=>exact absurd rfl T
end
def TT.SX{P m K O g1 a}(h:tX P (λ_=>True) g1 a)(e:TT P m K O a):TT P m K O g1:=.step (λb c d=>b=K/\c=O/\d=a) h.1 (λb c d f=>by obtain⟨rfl,rfl,rfl⟩:=f;exact e) (λw g=>⟨a,w,#[],K,O,h.2 _ w trivial,Eff.refl _ _ _,g,rfl,rfl,rfl⟩)
def TT.ES{P m K O g1 c}  h   a  {z:Node P}(b:qy z ⟨m,K,O,g1,TT.SX h a⟩):z=⟨m,K,O,c,a⟩:=by
 unfold TT.SX at b;cases b with
 |step _ _ _ _ d=>obtain⟨rfl,rfl,rfl⟩:=d;rfl
def TT.pre{P m K O}:∀{k g1 a},jN P (λ_=>True) k g1 a->(X:TT P m K O a)->∃T ,wD ⟨m,K,O,g1,T⟩ ⟨m,K,O,a,X⟩
 |0,g1,a,h,X=>by obtain rfl:g1=a:=h;exact⟨X,.refl _⟩
 | k + 1,g1,a,⟨d,c,h⟩,X=>by
   obtain⟨b,g⟩:=TT.pre h X;refine⟨TT.SX c b,λy hy f=>?_⟩;rcases hy with rfl|hy
   . exact f.elim
   . have:y=⟨m,K,O,d,b⟩\/Relation.TransGen qy y ⟨m,K,O,d,b⟩:=by
      cases hy with
      |single h=>exact .inl (TT.ES c b h)
      | tail i j=>
        have e:=TT.ES c b j
        simp_all
     exact g y this f
section
variable{P:adY}{A:bY}{Fin:adr}{Z:Base}{s:MS P}{f:Nat->Node P}{q:adS}{kk:adX}{OO:adW}{J M:adM}{gs:adv}{w:World}{t:Trace}{j:Nat}{g:adP}
def lf(hj:j<A.n){h X}(e:s.w j=.run h X):dR P A s (A.b+j):=.inr (.inl ⟨j,hj,rfl,by simp_all⟩)
def vw(hj:j<A.n){h X}(e:s.w j=.run h X):¬il P A s (A.b+j):=by
 have:=A.hb;rintro(⟨e,_⟩|⟨l,a,c,d⟩|⟨e,_⟩)
 . omega
 . simp_all
 . omega
def kM(hj:j<A.n){h X}(e:s.w j=.run h X):¬fY P A s (A.b+j):=by
 have:=A.hb;rintro(⟨e,_⟩|⟨l,a,c,d⟩)
 . omega
 simp_all
def oT(hj:j<A.n){h X}(e:s.w j=.run h X):cS P A Fin s (A.b+j)=iX P A j:=by
 have:=A.hb;unfold cS
 grind
variable(C:ij P A.nm)(X:ik P A.nm)(F:nj P A.nm)
include C X F in
def QD  z  (D:bP (cE P A Fin Z z) Z s f q kk OO J M gs w t) (hj:j<A.n){Y}(E:s.w j=.un .ue Y) (hg:gs[A.b+j]?=some g) (W:ID P A j (.un .ue Y) (kk (A.b+j)) (OO (A.b+j)) g) (d:A.dir=false)  sl :
 Goes P A Fin Z z s gs w t sl (A.b+j):=by
 have p:dq P A Z s kk OO J M gs.size w t:=D.ex;have B:=bs (P:=P) (A:=A) (Fin:=Fin) (Z:=Z) z;have h1:(s.w j).kZ=true:=by rw[E];rfl
 have u:=jA h1;have hb:=A.hb;have a7:(A.b+j==0)=false:=by simp;omega
 obtain⟨kind,c,rest,hk,hM,hm,ay,a8⟩:=W;have G:=a8 (by simp)
 rw[show Gd P A Y.N=Y.N by simp[Gd,d]]at G
 obtain⟨g1,a9,hr,g2,H,K⟩:=CR (Wd:=λ_=>True) (main:=false) (w:=w) C X hM
 obtain⟨k,ad⟩:=H.trans (mO F K hk);obtain⟨T,hU⟩:=TT.pre ad (Y.c _ _ _ G);obtain⟨x,v⟩:∃x:bD P,x=.run false ⟨Y.m,kk (A.b+j),OO (A.b+j),_,Y.c _ _ _ G⟩:=⟨_,rfl⟩;have V:x.work=true:=by rw[v];rfl
 have a:∀sh,((s.bc j x sh).w j)=.run false ⟨Y.m,kk (A.b+j),OO (A.b+j),_,Y.c _ _ _ G⟩:=λsh=>by rw[bd,v]
 have al:EvM A.fb A.fo #[⟨.mark .enable,false,true⟩]:=λe he=>by simp at he;subst he;exact .inl (.inr rfl)
 have L:=runT_crowd_go (P:=P) (sl:=sl) (i:=A.b+j) hg (by rw[a7];exact a9)
 have Q:cr P A s (A.b+j):=jj p.I hj (bN u).2.2.2.2.1;obtain⟨y1,y2,y3⟩:=p.MT al Q g.frame.fn g.frame.place;have o:∀op∈MemOp.ofEvents (A.b+j) g.frame.fn g.frame.place #[⟨.mark .enable,false,true⟩],op.g=A.b+j:=λop av=>by obtain⟨e,_,rfl⟩:=KC av;rfl
 have hJ:J (A.b+j):=(p.hJ _).2 (xI hj (bN u).2.2.2.2.2.1);have hP:=D.c8.sync (i:=A.b+j) (.inr hJ) o rfl ⟨⟨.refl _,rfl⟩,λ_ _=>rfl⟩ (λb=>.inl rfl) y2 y1
 have hI:cj A.n (s.bc j x s.sh):=p.I.still hj u V (by rw[v];rfl) (by rw[v,E];rfl)
 have hL:MS.gX A.n (s.bc j x s.sh) s:=C0 hj u V ⟨_,_,by rw[v];rfl,by rw[E];rfl,.single (qy.dB Y.N Y.h0 Y.ht Y.c G)⟩
 have R:dq P A Z (s.bc j x s.sh) kk OO J M gs.size w (t++MemOp.ofEvents (A.b+j) g.frame.fn g.frame.place #[⟨.mark .enable,false,true⟩]):=p.work hj u V (by rw[v,E];rfl) (λh=>by rw[d]at h;cases h) hI p.mu (λ_ _=>rfl) p.wC y3
 have r:Beside (cE P A Fin Z z) s (s.bc j x s.sh) f (cq f (A.b+j) ⟨Y.m,kk (A.b+j),OO (A.b+j),g1,T⟩) q q kk kk OO OO J J w (A.b+j) g g1:=nC z hj u V (λi hi=>az _ _ hi) (λi hi=>rfl) (λ_ _ _=>rfl) (λ_ _ _=>rfl) (λ_ h=>h) (.inl λh=>h) (λ{i k O y} K=>B.lM (s:=s) (i:=i) (k:=k) (O:=O) (g:=y) K)
 have S:=jB (P:=P) (A:=A) (s:=s) hj h1;refine⟨_,_,L,s.bc j x s.sh,cq f (A.b+j) ⟨Y.m,kk (A.b+j),OO (A.b+j),g1,T⟩,q,kk,OO,J,M,_,_,_,rfl,hL,?_⟩;refine bP.step B D hg o hP R (λl y hl K=>?_) r ⟨λ_=>?_,λh=>absurd h (vw hj (a _)),λh=>absurd h (kM hj (a _)),λh=>absurd (lf hj (a _)) h⟩
 . have U:l≠A.b+j:=λe=>(D.held l hl).2.1 (by rw[e];exact S)
   exact B.tZ R ((r.held l U).2 hl) _ _ (r.Up l _ _ _ U hl K)
 . rw[ao]
   refine⟨by show A.b+j<A.b+A.n+1;omega,rfl,?_,rfl,rfl,hr,?_,.inr hJ,λl b X' h3 h4 h5=>?_⟩
   . show Y.m=cS P A Fin (s.bc j x s.sh) (A.b+j)
     rw[oT hj (a _)];exact hm
   . obtain⟨_,_,ax,_⟩:=D.walk _ S
     rw[Deaf_own,ax];show deafBehind (eu P A s (A.b+j)) _=0;rw[fF hj,E];rfl
   . obtain rfl:l=j:=by omega
     rw[a]at h5;cases h5;exact hU
end
section
variable{Z:Base}{kk:adX}{OO:adW}{J M:adM}{w:World}{t:Trace}
def jC(kk:adX)(lk i:Nat):adX:=cq kk i ((kk i).join (kk lk))
def iZ(OO:adW)(lk i mb:Nat)(x:Own):adW:=cq (cq OO i ((OO i).set mb x)) lk ak.bot
def cP.VN(h:cP Z kk OO J M w t){i mb x}(hi:i≠Z.lk)(L:OO Z.lk mb=some x)(ho:∀c,OO Z.lk c≠none->c=mb)(N:Z.la.block<w.heap.size)(hd:Deaf t i=0)(hold:∀m a,m<Z.N0->touchAt t m=some a->a.loc.isMemory=true -> ¬Z.Shun a.loc->Knows t i m)(V:∀m a,Z.N0<=m->t.act? m≠some (.mark (.release a)))  fn   pos :
 cP Z (jC kk Z.lk i) (iZ OO Z.lk i mb x) J M w (t++MemOp.ofEvents i fn pos #[⟨.mark (.acquire Z.la),false,true⟩]):=by
 obtain⟨u,S⟩:∃u,u=MemOp.ofEvents i fn pos #[⟨.mark (.acquire Z.la),false,true⟩]:=⟨_,rfl⟩;have G:u=#[⟨i,fn,pos,.mark (.acquire Z.la)⟩]:=by rw[S,ofEvents_eq];simp[MemAct.ofEvent]
 rw[<-S];have A:lC u:=λop d=>by grind
 have W:∀op∈u,op.act.touch?=none:=λop d=>by rw[G]at d;simp at d;subst d;rfl
 have H:∀op∈u,op.g=i:=λop d=>by grind
 have I:∀m a,Z.N0<=m->(t++u).act? m≠some (.mark (.release a)):=λm a O e=>by
  rcases rU e with⟨o,_⟩|⟨op,d,o⟩
  . grind
  grind
 have X:OO i mb=none:=h.j7 Z.lk i mb x (zs hi) L;have eK:∀l,l≠i->jC kk Z.lk i l=kk l:=λl Y=>az _ _ Y
 have q:jC kk Z.lk i i=(kk i).join (kk Z.lk):=ao _ _ _;have eO:∀l,l≠i->l≠Z.lk->iZ OO Z.lk i mb x l=OO l:=λl o B=>by unfold iZ;rw[az _ _ B,az _ _ o]
 have C:iZ OO Z.lk i mb x i=(OO i).set mb x:=by unfold iZ;rw[az _ _ hi,ao]
 have D:iZ OO Z.lk i mb x Z.lk=ak.bot:=by unfold iZ;rw[ao]
 refine h.vh (λa b=>a=b\/(a=Z.lk/\b=i)) rfl ⟨⟨.refl _,rfl⟩,λ_ _=>rfl⟩ (λb=>.inl rfl) (λop d=>by rw[G]at d;simp at d;subst d;simpa[MemAct.low]using N) (λa b e n y P O hz E=>?_) (λl b n v K=>?_) (λl b sv K=>?_) (λl b y f=>?_) (λa l b y r f=>?_)
  (λsaid=>noRace_append (h.clean said) H λn a Q op d b hb _=>by grind) (λop d a Q=>by grind) (λm op a d Q=>by grind)
  (λn a Q O h=>h.elim (λ⟨j,o,B⟩=>.inr (.inl ⟨j,o,B.app _⟩)) (λ⟨p,o,B⟩=>.inr (.inr (.inl ⟨p,o,B.app _⟩))))
 . rcases e with rfl|⟨rfl,rfl⟩
   . exact E.app u
   . refine(pG hi).2 ?_
     unfold Jt at E;rw[aav rfl]at E
     rcases E with E|⟨p,h0,o,B,h3⟩
     . exact(hold n y E P O hz).app u
     . exact nX (y:=⟨b,fn,pos,.mark (.acquire Z.la)⟩) (m:=0) A (by grind) rfl hd o B (λk E=>I k _ (by omega)) h3
 . by_cases e:l=i
   . subst e;rw[q]at K
     exact(ar.oJ K).elim (λh=>⟨l,.inl rfl,h⟩) (λh=>⟨Z.lk,.inr ⟨rfl,rfl⟩,h⟩)
   grind
 . by_cases e:l=i
   . subst e;rw[q]at K
     exact(ar.Ie K).elim (λh=>⟨l,.inl rfl,h⟩) (λh=>⟨Z.lk,.inr ⟨rfl,rfl⟩,h⟩)
   grind
 . by_cases e:l=i
   . subst e;rw[C]at f
     by_cases z:b=mb
     . subst z
       simp only[ak.set,aay,kn]at f;subst f;exact⟨Z.lk,.inr ⟨rfl,rfl⟩,L,λsv R=>by rw[q];exact(ar.yI (h.sat l) (h.sat Z.lk)).2 b sv R⟩
     . simp only[ak.set,z,aat]at f
       exact⟨l,.inl rfl,f,λsv R=>by rw[q];exact(ar.tT _ _).2 b sv R⟩
   . by_cases T:l=Z.lk
     . subst T;rw[D]at f;cases f
     . rw[eO l e T]at f;grind
 . by_cases F:a=Z.lk
   . subst F;rw[D]at f;cases f
   by_cases s:l=Z.lk
   . subst s;rw[D];rfl
   by_cases U:a=i
   . subst U
     rw[C]at f;rw[eO l (zs r) s]
     by_cases z:b=mb
     . subst z;exact h.j7 Z.lk l b x (zs s) L
     . simp only[ak.set,z,aat]at f;exact h.j7 a l b y r f
   . rw [eO a U F]at f
     by_cases el:l=i
     . subst el
       rw[C]
       by_cases z:b=mb
       . subst z
         have:=h.j7 Z.lk a b x (zs F) L
         simp_all
       . simp only[ak.set,z,aat];exact h.j7 a l b y r f
     . rw[eO l el s];exact h.j7 a l b y r f
end
section
variable{Z:Base}{kk:adX}{OO:adW}{J M:adM}{w:World}{t:Trace}
def pQ(kk:adX)(lk i:Nat):adX:=cq kk lk (kk i)
def gz(OO:adW)(lk i mb fb:Nat)(x:Own):adW:=cq (cq OO i (((OO i).del mb).del fb)) lk (ak.bot.set mb x)
def cP.VO(h:cP Z kk OO J M w t){i mb fb x}(hi:i≠Z.lk)(T:OO i mb=some x)(ho:∀c,OO Z.lk c=none)(N:Z.la.block<w.heap.size)(hd:Deaf t i=0)  fn   pos :
 cP Z (pQ kk Z.lk i) (gz OO Z.lk i mb fb x) J M w (t++MemOp.ofEvents i fn pos #[⟨.mark (.releaseMerge Z.la),false,true⟩]):=by
 obtain⟨u,R⟩:∃u,u=MemOp.ofEvents i fn pos #[⟨.mark (.releaseMerge Z.la),false,true⟩]:=⟨_,rfl⟩;have F:u=#[⟨i,fn,pos,.mark (.releaseMerge Z.la)⟩]:=by rw[R,ofEvents_eq];simp[MemAct.ofEvent]
 rw[<-R];have s:lC u:=λop d=>by grind
 have U:∀op∈u,op.act.touch?=none:=λop d=>by rw[F]at d;simp at d;subst d;rfl
 have G:∀op∈u,op.g=i:=λop d=>by grind
 have z:u[0]?=some ⟨i,fn,pos,.mark (.releaseMerge Z.la)⟩:=by grind
 have eK:∀l,l≠Z.lk->pQ kk Z.lk i l=kk l:=λl V=>az _ _ V
 have W:pQ kk Z.lk i Z.lk=kk i:=ao _ _ _;have eO:∀l,l≠i->l≠Z.lk->gz OO Z.lk i mb fb x l=OO l:=λl H I=>by unfold gz;rw[az _ _ I,az _ _ H]
 have k:gz OO Z.lk i mb fb x i=((OO i).del mb).del fb:=by unfold gz;rw[az _ _ hi,ao]
 have A:gz OO Z.lk i mb fb x Z.lk=ak.bot.set mb x:=by unfold gz;rw[ao]
 have K:∀b y,(((OO i).del mb).del fb) b=some y->b≠mb/\OO i b=some y:=λb y f=>by
  by_cases q:b=fb
  . simp[ak.del,q]at f
  by_cases r:b=mb
  . simp[ak.del,r]at f
  . exact⟨r,by simpa[ak.del,q,r]using f⟩
 have L:∀b y,(ak.bot.set mb x) b=some y->b=mb/\y=x:=λb y f=>by
  by_cases e:b=mb
  . subst e;simp only[ak.set,aay,kn]at f;simp_all
  . simp only[ak.set,e,aat]at f;cases f
 have B:∀b,OO i b=none->(((OO i).del mb).del fb) b=none:=λb X=>by
  by_cases q:b=fb
  . simp[ak.del,q]
  by_cases r:b=mb
  . grind
  . simpa[ak.del,q,r]using X
 refine h.vh (λa b=>a=b\/(a=i/\b=Z.lk)) rfl ⟨⟨.refl _,rfl⟩,λ_ _=>rfl⟩ (λb=>.inl rfl) (λop d=>by rw[F]at d;simp at d;subst d;simpa[MemAct.low]using N) (λa b e n y Y hm hz S=>?_) (λl b n v hv=>?_) (λl b sv hv=>?_) (λl b y f=>?_) (λa l b y o f=>?_)
  (λsaid=>noRace_append (h.clean said) G λn a O op d b hb _=>by grind) (λop d a O=>by grind) (λm op a d O=>by grind)
  (λn a O hm h=>h.elim (λ⟨j,H,I⟩=>.inr (.inl ⟨j,H,I.app _⟩)) (λ⟨p,H,I⟩=>.inr (.inr (.inl ⟨p,H,I.app _⟩))))
 . rcases e with rfl|⟨rfl,rfl⟩
   . exact S.app u
   . have P:Knows t a n:=(pG hi).1 S
     unfold Jt;rw[aav rfl];exact .inr ⟨t.size+0,by have:=h.n0;omega,by rw[act?_of (dM z)],heard_new s z hd,mJ P z rfl⟩
 . grind
 . grind
 . by_cases r:l=Z.lk
   . subst r;rw[A]at f
     grind
   by_cases e:l=i
   . subst e;rw[k]at f
     grind
   . rw[eO l e r]at f;grind
 . by_cases C:a=Z.lk
   . subst C;rw[A]at f
     obtain⟨rfl,rfl⟩:=L b y f
     by_cases el:l=i
     . subst el;rw[k]
       by_cases q:b=fb
       . simp[ak.del,q]
       . simp[ak.del,q]
     . rw[eO l el (zs o)];exact h.j7 i l b y (zs el) T
   by_cases D:l=Z.lk
   . subst D;rw[A]
     have Q:b≠mb:=by
      by_cases E:a=i
      . subst E;rw[k]at f;grind
      . rw[eO a E C]at f
        intro e;subst e;have:=h.j7 a i b y E f
        grind
     simp only[ak.set,Q,aat];rfl
   by_cases E:a=i
   . subst E
     rw[k]at f;rw[eO l (zs o) D];exact h.j7 a l b y o (K b y f).2
   . rw[eO a E C]at f
     by_cases el:l=i
     . subst el;rw[k];exact B b (h.j7 a l b y o f)
     . rw[eO l el D];exact h.j7 a l b y o f
end
section
variable{P:adY}{A:bY}{Fin:adr}{Z:Base}{s:MS P}{f:Nat->Node P}{q:adS}{kk:adX}{OO:adW}{J M:adM}{gs:adv}{gsz:Nat}{w:World}{t u:Trace}{j:Nat}{g:adP}{x:bD P}{xo:Own}
def JP{x:bD P}(h:x.owns=true):x.pc=.held:=by
 cases x with
 |run b X=>cases b<;>simp_all [bD.owns,bD.pc]
 |un p Y=>cases p<;>simp_all [bD.owns,bD.pc,CP.abs]
 |_=>simp_all [bD.owns]
def ET(I:cj A.n s)(hj:j<A.n)(a:(s.w j).pc=.held){l}(b:l<A.n)(c:(s.w l).owns=true):l=j:=by
 by_cases e:l=j
 . exact e
 . have g:=I.mu.j1
   have d:=Mu.ig Mu.cH (λi=>(s.w i).pc) j .out hj
   have f:Mu.cH (Mu.set (λi=>(s.w i).pc) j .out l)<=Mu.gg A.n (λi=>Mu.cH (Mu.set (λi=>(s.w i).pc) j .out i)):=Mu.jz (λi=>Mu.cH (Mu.set (λi=>(s.w i).pc) j .out i)) b
   rw[Mu.ah _ _ e,JP c]at f;have h:Mu.cH .held=1:=rfl;have k:Mu.cH .out=0:=rfl;rw[a]at d;have:s.sh.w.L.toNat<=1:=by cases s.sh.w.L<;>simp
   omega
def lN(A:bY)(Z:Base)(OO:adW)(i:Nat)(x:Own)(a:Nat->adD):adW:=cq (iZ OO Z.lk i A.mb x) i ((iZ OO Z.lk i A.mb x i).set A.fb (.part a))
def bY.Tk.PL{f}(h:A.Tk j f){l}(a:f l≠none):A.dir=true/\l=A.cell j:=by
 unfold bY.Tk at h;split at h
 . grind
 . subst h;exact absurd rfl a
def dq.take{p}(H:A.Tk j p)(hZ:A.b+A.n+1<=Z.lk)(h:dq P A Z s kk OO J M gsz w t)(hj:j<A.n)(f:(s.w j).work=true)(K:x.work=true)(L:∀l,l<A.n->(s.w l).owns=false)(F:x.owns=true)(V:cj A.n (s.bc j x s.sh))(W:∀op∈u,op.act.touch?=none/\∀a,op.act≠.mark (.release a)):
 dq P A Z (s.bc j x s.sh) (jC kk Z.lk (A.b+j)) (lN A Z OO (A.b+j) xo p) J M gsz w (t++u):=by
 have S:A.b+j≠Z.lk:=by omega
 have r:x.busy=(s.w j).busy:=by rw[(bN f).2.2.2.2.2.1,(bN K).2.2.2.2.2.1]
 have N:∀l,l≠A.b+j->jC kk Z.lk (A.b+j) l=kk l:=λl d=>az _ _ d
 have O:jC kk Z.lk (A.b+j) (A.b+j)=(kk (A.b+j)).join (kk Z.lk):=ao _ _ _;have eO:∀l,l≠A.b+j->l≠Z.lk->lN A Z OO (A.b+j) xo p l=OO l:=λl f K=>by unfold lN iZ;rw[az _ _ f,az _ _ K,az _ _ f]
 have z:lN A Z OO (A.b+j) xo p (A.b+j)=((OO (A.b+j)).set A.mb xo).set A.fb (.part p):=by unfold lN iZ;rw[ao,az _ _ S,ao]
 have B:lN A Z OO (A.b+j) xo p Z.lk=ak.bot:=by unfold lN iZ;rw[az _ _ (zs S),ao]
 have C:cr P A s (A.b+j):=jj h.I hj (bN f).2.2.2.2.1
 have T:∀i,OO i A.fb=none:=λi=>by
  cases e:OO i A.fb with
  |none=>rfl
  | some y=>
    obtain⟨l,_,d,_,ho,_⟩:=h.tok i y e
    grind
 have g:∀{c n:Nat},(∀i,(kk i).cell c n=none)->(jC kk Z.lk (A.b+j) (A.b+j)).cell c n=none:=λ{c n} X=>by
  rw[O];cases e:((kk (A.b+j)).join (kk Z.lk)).cell c n with
  |none=>rfl
  |some v=>rcases ar.oJ e with h|h<;>rw[X]at h<;>cases h
 refine⟨V,h.size,h.dd,h.off,λhd l d=>?_,h.Bp,h.mu,h.gr,h.wC,h.AA,λi=>?_,λi=>?_,λi y D=>?_,λl d k=>?_,λk=>?_,λc U=>?_,
  λi=>by rw[h.hJ i];exact(pN hj r i).symm,h.wE u,h.nB u,h.kY u (λop o a Q=>by simp_all),h.pM u (λop o a Q=>by simp_all),h.qT u,h.kg u (λop o=>(W op o).2),λi d hb=>?_,h.tW,h.kL,h.fQ,h.la,by simp;exact aaE h.n0 (abU _ _)⟩
 . by_cases e:l=j
   . subst e
     rw[bd];exact⟨λE=>by(rw[Bq F]at E;cases E),λR=>by simp[bD.rel,F]at R⟩
   . rw[cN e]
     refine⟨λE=>⟨λi=>?_,λm a Y Q q q'=>(eG Q).elim (λf=>((h.Al hd l d).1 E).2 m a Y f.1 q q') (λ⟨op,o,f⟩=>by simp_all)⟩,λR=>?_⟩
     . have f:=((h.Al hd l d).1 E).1
       grind
     . rw[N _ (by omega)];exact(h.Al hd l d).2 R
 . by_cases e:i=A.b+j
   . subst e;rw[z]
     have:=h.im (A.b+j);simp only[ak.set,A.d1,A.d3,zs A.d4,A.d6,aat];exact this
   by_cases G:i=Z.lk
   . subst G;rw[B];exact⟨λ_=>rfl,rfl⟩
   . rw[eO i e G];exact h.im i
 . by_cases e:i=A.b+j
   . subst e
     exact⟨g λi=>(h.fa i).1,g λi=>(h.fa i).2.1,g λi=>(h.fa i).2.2.1,g λi=>(h.fa i).2.2.2⟩
   . rw[N i e];exact h.fa i
 . by_cases e:i=A.b+j
   . subst e;rw[z]at D
     simp only[ak.set,aay,kn]at D;exact⟨j,p,hj,rfl,by rw[bd];exact F,D.symm,λ_=>H.PL⟩
   by_cases G:i=Z.lk
   . subst G;rw[B]at D;cases D
   simp_all
 . by_cases e:l=j
   . subst e;rw[z];simp[ak.set]
   . rw[cN e,L l d]at k;cases k
 . have:=k j hj
   rw[bd,F]at this;cases this
 . rw[B]at U;exact absurd rfl U
 . have e:i≠A.b+j:=λe=>hb (e ▸ C)
   rw[N i e,eO i e d];exact h.EK i d hb
end
section
variable{P:adY}{A:bY}{Fin:adr}{Z:Base}{s:MS P}{f:Nat->Node P}{q:adS}{kk:adX}{OO:adW}{J M:adM}{gs:adv}{w:World}{t:Trace}{j:Nat}{g:adP}
variable(C:ij P A.nm)(X:ik P A.nm)(F:nj P A.nm)
include C X F in
def QE  hZ  (H:bP (cE P A Fin Z hZ) Z s f q kk OO J M gs w t) (hj:j<A.n){Y}(S:s.w j=.lk .la Y) (hg:gs[A.b+j]?=some g) (b6:ID P A j (.lk .la Y) (kk (A.b+j)) (OO (A.b+j)) g)  sl :
 Goes P A Fin Z hZ s gs w t sl (A.b+j):=by
 have d:dq P A Z s kk OO J M gs.size w t:=H.ex;have B:=bs (P:=P) (A:=A) (Fin:=Fin) (Z:=Z) hZ;have r:(s.w j).kZ=true:=by rw[S];rfl
 have w1:=jA r;have b7:(s.w j).pc=.held:=by rw[S];rfl
 have hb:=A.hb;have o:A.b+j≠Z.lk:=by omega
 have b8:(A.b+j==0)=false:=by simp;omega
 have U:∀l,l<A.n->(s.w l).owns=false:=λl E=>by
  cases e:(s.w l).owns with
  |false=>rfl
  |true=>obtain rfl:=ET d.I hj b7 E e;rw[S]at e;cases e
 have L:∀i,OO i A.fb=none:=λi=>by
  cases e:OO i A.fb with
  |none=>rfl
  |some y=>obtain⟨l,_,E,_,ho,_⟩:=d.tok i y e;rw[U l E]at ho;cases ho
 obtain⟨xo,a,a9,b9,bb⟩:=d.PI U;obtain⟨kind,c,rest,e,hk,hM,hm,hO,al,bm,hN⟩:=b6;obtain⟨cc,ee,av⟩:=d.wC
 have ax:e=(ee,cc.size):=by have hs:=(H.c8.sat (A.b+j)).sh _ _ al;simp only[World.shape?,av]at hs;exact(abe hs).symm
 obtain⟨p,V,ay⟩:∃p,A.Tk j p/\∀n v,p n=some v->A.dir=true/\n=A.cell j/\cc[n]?=some v:=by
  unfold bY.Tk
  by_cases hd:A.dir=true
  . have:=bm hd
    rw[ax]at this;refine⟨λi=>if i=A.cell j then some cc[A.cell j]else none,by rw[aav hd];exact⟨_,rfl⟩,λn v G=>?_⟩
    simp only at G;split at G
    . next e=>subst e;exact⟨hd,rfl,by rw[<-G];exact abo this⟩
    . cases G
  . exact⟨ML,by rw[aau hd],λn v G=>by cases G⟩
 have aC:(kk Z.lk).Le ((kk (A.b+j)).join (kk Z.lk)):=ar.yI (H.c8.sat (A.b+j)) (H.c8.sat Z.lk);have u:=hN ((kk (A.b+j)).join (kk Z.lk)) xo a p (ar.tT _ _) (b9.mono aC) bb (H.c8.j7 Z.lk (A.b+j) _ _ (zs o) a9) V;obtain⟨g1,aE,hr,g2,aL,hA⟩:=Ir (Wd:=λ_=>True) (main:=false) (w:=w) C X hM
 obtain⟨k,bq⟩:=aL.trans (uh F hA hk);rw[<-d.la]at aE;have W:jC kk Z.lk (A.b+j) (A.b+j)=(kk (A.b+j)).join (kk Z.lk):=ao _ _ _;have bw:lN A Z OO (A.b+j) xo p (A.b+j)=((OO (A.b+j)).set A.mb xo).set A.fb (.part p):=by unfold lN iZ;rw[ao,az _ _ o,ao]
 rw[<-W,<-bw]at u;obtain⟨T,hU⟩:=TT.pre bq (Y.c _ _ _ u);obtain⟨x,hx⟩:∃x:bD P,x=.run true ⟨Y.m,jC kk Z.lk (A.b+j) (A.b+j),lN A Z OO (A.b+j) xo p (A.b+j),_,Y.c _ _ _ u⟩:=⟨_,rfl⟩;have w2:x.work=true:=by rw[hx];rfl
 have z:∀sh,((s.bc j x sh).w j)=.run true ⟨Y.m,jC kk Z.lk (A.b+j) (A.b+j),lN A Z OO (A.b+j) xo p (A.b+j),_,Y.c _ _ _ u⟩:=λsh=>by rw[bd,hx]
 have aO:=runT_crowd_go (P:=P) (sl:=sl) (i:=A.b+j) hg (by rw[b8];exact aE)
 have b0:=jB (P:=P) (A:=A) (s:=s) hj r
 have K:Deaf t (A.b+j)=0:=by obtain⟨_,_,K,_⟩:=H.walk _ b0;rw[K];show eu P A s (A.b+j)=0;rw[fF hj,S];rfl
 have Q:cr P A s (A.b+j):=jj d.I hj (bN w1).2.2.2.2.1;have hJ:J (A.b+j):=(d.hJ _).2 (xI hj (bN w1).2.2.2.2.2.1);have b1:∀op∈MemOp.ofEvents (A.b+j) g.frame.fn g.frame.place #[⟨.mark (.acquire Z.la),false,true⟩],op.g=A.b+j:=λop D=>by obtain⟨e,_,rfl⟩:=KC D;rfl
 have b2:∀op∈MemOp.ofEvents (A.b+j) g.frame.fn g.frame.place #[⟨.mark (.acquire Z.la),false,true⟩],op.act.touch?=none/\∀a,op.act≠.mark (.release a):=λop D=>by obtain⟨e,he,rfl⟩:=KC D;simp at he;subst he;exact⟨rfl,λa h=>by simp[MemAct.ofEvent]at h⟩
 have b3:A.fb<w.heap.size:=by obtain⟨c,e,r⟩:=d.wC;exact(zA.1 r).1
 have bA:=H.c8.VN o a9 (λc hc=>(d.PJ c hc).1) (by rw[d.la];exact b3) K (λm a hm ha b4 hz=>d.old _ Q m a hm ha b4 hz) d.norel g.frame.fn g.frame.place
 have a7:∀l,iZ OO Z.lk (A.b+j) A.mb xo l A.fb=none:=λl=>by
  unfold iZ
  by_cases e1:l=Z.lk
  . subst e1;rw[ao];rfl
  by_cases e2:l=A.b+j
  . subst e2;rw[az _ _ e1,ao];simp only[ak.set,A.d5,aat];exact L _
  . rw[az _ _ e1,az _ _ e2];exact L _
 have b5:A.dir=true->(∀i,(kk i).cell A.fb (A.cell j)=none)/\∀m a R,touchAt t m=some a->a.loc=.cell R->R.block=A.fb/\R.off=A.cell j->m<Z.N0:=λhd=>(d.Al hd j hj).1 (by rw[S];rfl)
 have a8:∀n,p n≠none->A.dir=true/\n=A.cell j:=λn hn=>V.PL hn
 have hP:=bA.Vb (f:=p) o a7 (λn v G i=>by
  obtain⟨hd,rfl,_⟩:=ay n v G;have r:=(b5 hd).1
  by_cases ei:i=A.b+j
  . subst ei
    rw[W];cases q:((kk (A.b+j)).join (kk Z.lk)).cell A.fb (A.cell j)with
    |none=>rfl
    |some v=>rcases ar.oJ q with h|h<;>rw[r]at h<;>cases h
  . unfold jC;rw[az _ _ ei];exact r i) (λR r h2=>d.kL R ⟨r,.inr (.inr ⟨(a8 _ h2).1,j,hj,(a8 _ h2).2⟩)⟩) (by
  refine⟨cc,ee,av,?_,λn v G=>(ay n v G).2.2⟩
  rw[W];refine(ar.tT _ _).2 _ _ ?_;rw[al,ax]) (λm a R ha E r h2=>by
  obtain⟨hd,h3⟩:=a8 _ h2
  rcases eG ha with⟨h4,_⟩|⟨op,D,h4⟩
  . exact(d.old _ Q m a ((b5 hd).2 m a R h4 E ⟨r,h3⟩) h4 (by rw[E];rfl) (by rw[E];exact d.kL R ⟨r,.inr (.inr ⟨hd,j,hj,h3⟩)⟩)).app _
  . rw[(b2 op D).1]at h4;cases h4) d.fQ.2.1
 have hI:cj A.n (s.bc j x s.sh):=d.I.still hj w1 w2 (by rw[hx];rfl) (by rw[hx,S];rfl)
 have hL:MS.gX A.n (s.bc j x s.sh) s:=C0 hj w1 w2 ⟨_,_,by rw[hx];rfl,by rw[S];rfl,.single (qy.dB Y.N Y.h0 Y.ht Y.c u)⟩
 have bB:=d.take (xo:=xo) V hZ hj w1 w2 U (by rw[hx];rfl) hI b2
 have c5:Beside (cE P A Fin Z hZ) s (s.bc j x s.sh) f (cq f (A.b+j) ⟨Y.m,jC kk Z.lk (A.b+j) (A.b+j),lN A Z OO (A.b+j) xo p (A.b+j),g1,T⟩) q q kk (jC kk Z.lk (A.b+j)) OO (lN A Z OO (A.b+j) xo p) J J w (A.b+j) g g1:=nC hZ hj w1 w2 (λi hi=>az _ _ hi) (λi hi=>rfl) (λi hi _=>az _ _ hi) (λi hi ht=>by unfold lN iZ;rw[az _ _ hi,az _ _ (show i≠Z.lk by omega),az _ _ hi]) (λ_ h=>h) (.inl λh=>h) (λ{i k O y} hA=>B.lM (s:=s) (i:=i) (k:=k) (O:=O) (g:=y) hA)
 refine⟨_,_,aO,s.bc j x s.sh,cq f (A.b+j) ⟨Y.m,jC kk Z.lk (A.b+j) (A.b+j),lN A Z OO (A.b+j) xo p (A.b+j),g1,T⟩,q,jC kk Z.lk (A.b+j),lN A Z OO (A.b+j) xo p,J,M,_,_,_,rfl,hL,?_⟩;refine bP.step B H hg b1 hP bB (λl y E hA=>?_) c5 ⟨λ_=>?_,λh=>absurd h (vw hj (z _)),λh=>absurd h (kM hj (z _)),λh=>absurd (lf hj (z _)) h⟩
 . have c6:l≠A.b+j:=λe=>(H.held l E).2.1 (by rw[e];exact b0)
   exact B.tZ d E _ _ hA
 . rw[ao]
   refine⟨by show A.b+j<A.b+A.n+1;omega,rfl,?_,rfl,rfl,hr,?_,.inr hJ,λl b X' h3 h4 h5=>?_⟩
   . show Y.m=cS P A Fin (s.bc j x s.sh) (A.b+j)
     rw[oT hj (z _)];exact hm
   . rw[Deaf_own,K];rfl
   . obtain rfl:l=j:=by omega
     rw[z]at h5;cases h5;exact hU
end

import Derived.Conc.CrowdComm
import Derived.Test.YtkcceaplmgdnfaaGreatDoorC17
set_option linter.all false
namespace Go.bu
open Go.Conc
open Go.ConcN (sumTo upd sumTo_upd upd_ne upd_same)
structure bt where
 b:Nat
 n:Nat
 cl:Nat
 cF:Nat
 fb:Nat
 fo:Nat
 gb:Nat
 mb:Nat
 GI:fy->Prop
 res:Nat->AV
 val:Nat->Value
 nm:xy
 ng:Gd
 hb:0<b/\(cl=0\/cl=b+n)
 hn:n<=900
 d1:cF≠fb
 d2:cF≠gb
 d3:cF≠mb
 d4:fb≠gb
 d5:fb≠mb
 d6:gb≠mb
def bt.dir(A:bt):Bool:=A.cl==0
def bt.cell(A:bt)(j:Nat):Nat:=A.fo+2+j
theorem I9{A:bt}(h:A.dir=true):A.cl=0:=by simpa[bt.dir]using h
theorem tx{A:bt}(h:A.dir=false):A.cl=A.b+A.n:=by have:=A.hb;simp[bt.dir]at h;omega
def fH:ai->aj->Goroutine->Prop:=λ_ _ _=>False
def I':Nat->Option Value:=λ_=>none
def bt.Tk(A:bt)(j:Nat)(f:Nat->Option Value):Prop:=if A.dir then ∃v,f=λi=>if i=A.cell j then some v else none else f=I'
def bo(fo:Nat):Nat->Option Value:=λi=>if i=fo then some (.int .i32 0)else if i=fo+1 then some (.int .u32 0)else none
section
variable(P:Program)(A:bt)(Fin:ai->aj->Goroutine->Prop)
def Od(j:Nat)(k:ai)(O:aj)(g:Goroutine)(N:ai->aj->Goroutine->Prop):Prop:=
 ∃ kind c rest e,kind≠.early/\g=G (Frame.enter P A.nm.lock #[.pointer (some ⟨A.fb,A.fo,none⟩)] kind) (c::rest)/\O A.fb=none/\k.sh A.fb=some e/\(A.dir=true->A.cell j<e.2)/\
   ∀b x a f,k.Le b->jJ b x a->A.GI a->O A.mb=none->A.Tk j f->N b ((O.set A.mb x).set A.fb (.part f)) (ju kind c rest (.tuple #[]))
def Fb(j:Nat)(k:ai)(O:aj)(g:Goroutine)(N:ai->aj->Goroutine->Prop):Prop:=
 ∃ kind c rest f x a,kind≠.early/\g=G (Frame.enter P A.nm.unlock #[.pointer (some ⟨A.fb,A.fo,none⟩)] kind) (c::rest)/\O A.fb=some (.part f)/\O A.mb=some x/\jJ k x a/\A.GI a/\(A.dir=true->k.cell A.fb (A.cell j)=some (A.val j))/\
   N k ((O.del A.mb).del A.fb) (ju kind c rest (.tuple #[]))
def jY:Mo:=⟨false,false,λk O g N=>N=fH/\∃a fn tmps todo,P.funcs[a]?=some fn/\fn.results=#[]/\g=G (Frame.enter P A.ng.done #[.pointer (some ⟨A.gb,0,none⟩)] .deferred) [jO P a tmps todo,cd P]⟩
def CR(N:ai->aj->Goroutine->Prop):ai->aj->Goroutine->Prop:=if A.dir then T P (jY P A) fH else N
def gg(j:Nat):Mo:=⟨false,false,λk O g N=>Od P A j k O g N\/Fb P A j k O g (CR P A N)\/(A.dir=false/\N=fH/\O A.fb=none/\∃a z v,(∀w,Sat k O w->stepG P false g w=.comm a #[scase A.cF v z] true .send w #[])/\V k v (A.res j)/\T P (jY P A) fH k O (Go.Conc.served a undef))⟩
def qg:Mo:=⟨false,false,λk O g N=>N=fH/\∃a n,mayWake P g=true/\(∀w s r b,Sat k O w->w.heap[A.cF]?=some (.chan 0 #[] false s r b)->stepG P false g w=.go a {w with heap:=w.heap.setIfInBounds A.cF (.chan 0 #[] true s r b)} #[⟨.obj A.cF,false,true⟩,⟨.obj A.cF,true,true⟩])/\QuitsD P n 0 a⟩
def vG:Mo:=⟨false,false,λk O g N=>N=fH/\∃c rest,g=G (Frame.enter P A.ng.wait #[.pointer (some ⟨A.gb,0,none⟩)] .normal) (c::rest)/\∀a,k.Le a->T P (qg P A) fH a O (ju .normal c rest (.tuple #[]))⟩
def RN(k:ai)(O:aj)(c:Frame)(rest:List Frame):Prop:=(∃e,k.sh A.fb=some e)/\∀b x a,k.Le b->(∀j,j<A.n->b.cell A.fb (A.cell j)=some (A.val j))->jJ b x a->A.GI a->Fin b ((O.set A.mb x).set A.fb (.part (bo A.fo))) (ju .normal c rest (.tuple #[]))
def dp(k:ai)(O:aj)(g a:Goroutine)(z:Value):Prop:=∀w,Sat k O w->stepG P true g w=.comm a #[rcase A.cF z] true (.recv true) w #[]
def pM:Nat->List Nat->Mo
 | 0,R=>⟨true,false,λk O g N=>N=fH/\∃b z,dp P A k O g b z/\dp P A k O b b z/\b.status=.running/\(∃e,k.sh A.fb=some e)/\
    ∀c x a,k.Le c->jJ c x a->A.GI a->Fin c ((O.set A.mb x).set A.fb (.part (bo A.fo))) (Go.Conc.served b (.tuple #[z,.bool false]))⟩
 | m + 1,R=>⟨true,false,λk O g N=>N=fH/\∃b z,dp P A k O g b z/\dp P A k O b b z/\b.status=.running/\
     ∀j∈R,∀c v,k.Le c->V c v (A.res j)->T P (pM m (R.erase j)) fH c O (Go.Conc.served b (.tuple #[v,.bool true]))⟩
def nK:Nat->Mo
 |0=>if A.dir then⟨true,false,λk O g N=>N=fH/\∃c rest,g=G (Frame.enter P A.ng.wait #[.pointer (some ⟨A.gb,0,none⟩)] .normal) (c::rest)/\RN A Fin k O c rest⟩else⟨true,false,λk O g N=>N=fH/\∃a child,(∀w,Sat k O w->stepG P true g w=.spawn a child w #[])/\T P (vG P A) fH k aj.bot child/\T P (pM P A Fin A.n (List.range A.n)) fH k O a⟩
 | m + 1=>⟨true,false,λk O g N=>N=fH/\∃c rest,g=G (Frame.enter P A.ng.add #[.pointer (some ⟨A.gb,0,none⟩),.int .i64 1] .normal) (c::rest)/\
     T P ⟨true,false,λk O g N=>N=fH/\∃a child,(∀w,Sat k O w->stepG P true g w=.spawn a child w #[])/\T P (gg P A (A.n-(m+1))) fH k aj.bot child/\T P (nK m) fH k O a⟩ fH k O (ju .normal c rest (.tuple #[]))⟩
def Dk(m:Nat):Mo:=⟨true,false,λk O g N=>N=fH/\∃a child,(∀w,Sat k O w->stepG P true g w=.spawn a child w #[])/\T P (gg P A (A.n-(m+1))) fH k aj.bot child/\T P (nK P A Fin m) fH k O a⟩
structure ui where
 m:Mo
 k:ai
 O:aj
 g:Goroutine
 N:ai->aj->Goroutine->Prop
 h0:g.status=.running
 ht:m.cN k O g N
 c:∀k' O' g',N k' O' g'->TT P m k' O' g'
variable {P} in
def ui.node(y:ui P):Node P:=⟨y.m,y.k,y.O,y.g,.cN y.N y.h0 y.ht y.c⟩
inductive ba where
 |idle
 |run (h:Bool) (X:Node P)
 |lk (p:qR) (Y:ui P)
 |un (p:qR) (Y:ui P)
 |wait
 |xi
 |dn (p:uD)
 |gone
inductive iG where
 |none|dL|wt (p:uD)|iH|gone
inductive m8 where
 |add (j:Nat)|bh (j:Nat) (p:uD)|spawn (j:Nat)|recv|parked|off
structure MS where
 d:Bool
 ms:m8
 sp:Nat
 w:Nat->ba P
 c:iG
 sh:Mu.Sh
 gc:Nat
 gv:Nat
 gm:Nat
def qR.abs:qR->Mu.Pc
 |.ld=>.out|.fZ=>.fZ|.rd l=>.rd l|.sq o l=>.sq o l|.sw o l=>.sw o l|.jI o l=>.jI o l|.t1 sv=>.fA sv|.fA sv=>.fA sv|.tq=>.tq|.up sv=>.up sv|.add o sv=>.add o sv
 |.le=>.held|.la=>.held|.back=>.held|.E0=>.held|.ur=>.held|.ud=>.held|.held=>.held|.ir o=>.ir o|.ub=>.ub|.give=>.give|.ue=>.out|.Bj=>.out
variable{P}
def ba.pc:ba P->Mu.Pc
 |.run true _=>.held
 |.lk p _=>p.abs
 |.un p _=>p.abs
 |_=>.out
def ba.owns:ba P->Bool
 |.run h _=>h
 |.un .E0 _=>true
 |.un .ur _=>true
 |_=>false
def Bm:qR->Bool
 |.ld=>true|.fZ=>true|.rd _=>true|.sq ..=>true|.sw ..=>true|.jI ..=>true|.t1 _=>true|.fA _=>true|.tq=>true|.up _=>true|.add ..=>true|.le=>true|.la=>true
 |_=>false
def xB:qR->Bool
 |.E0=>true|.ur=>true|.ud=>true|.held=>true|.ir _=>true|.ub=>true|.give=>true|.ue=>true
 |_=>false
def ba.deaf:ba P->Nat
 |.lk .ld _=>0|.lk .la _=>0|.lk _ _=>1
 |.un .E0 _=>0|.un .ur _=>0|.un .ud _=>0|.un _ _=>1
 |.dn .d1=>0|.dn .d2=>0|.dn _=>1
 |_=>0
def qW:uD->Nat
 |.a0=>0|.a2=>1|.a4=>1|.ae=>1
 |.w0=>0|.w1=>1|.we=>1|.wa=>0|.w2 _=>1|.w3=>1|.w4=>1|.w5=>1
 |_=>0
def ba.bT:ba P->Nat
 |.idle=>0|.run ..=>20|.lk ..=>20|.un ..=>20|.wait=>19|.xi=>18
 |.dn .d1=>12|.dn .d2=>11|.dn .d4=>10|.dn .d5=>4|.dn .d6=>3|.dn _=>2|.gone=>0
def iG.bT(gc:Nat):iG->Nat
 |.none=>0|.dL=>14
 |.wt .w0=>13|.wt .w1=>10|.wt (.w2 k)=>if gc=k then 9 else 11|.wt .w3=>8|.wt .w4=>7|.wt .w5=>6|.wt .we=>5|.wt _=>4
 |.iH=>3|.gone=>0
def m8.bT:m8->Nat
 |.add j=>40*j+200|.bh j .a0=>40*j+199|.bh j .a2=>40*j+198|.bh j .a4=>40*j+197|.bh j _=>40*j+196
 |.spawn j=>40*j+225|.recv=>100|.parked=>99|.off=>0
def MS.bT(n:Nat)(s:MS P):Nat:=s.ms.bT+sumTo n (λj=>(s.w j).bT)+s.c.bT s.gc
def zC(n:Nat):Nat:=4*(6*(18*n+1)+16)+20
def ba.ex(n:Nat):ba P->Nat
 |.run ..=>2*zC n|.lk .ld _=>zC n|.lk (.t1 _) _=>1|.lk .le _=>2|.lk .la _=>1
 |.un .E0 _=>5|.un .ur _=>4|.un .ud _=>3|.un .ue _=>1|_=>0
def MS.inner(n:Nat)(s:MS P):Nat:=4*Mu.meas n (λj=>(s.w j).pc) s.sh+sumTo n (λj=>(s.w j).ex n)
def ba.nd:ba P->Option (Node P)
 |.run _ X=>some X|.lk _ Y=>some Y.node|.un _ Y=>some Y.node|_=>none
end
def Gf{P:Program}(a b:Option (Node P)):Prop:=∃x y,a=some x/\b=some y/\Relation.TransGen nM x y
theorem Ja{P:Program}:∀a:Option (Node P),Acc Gf a:=by
 have key:∀x:Node P,Acc (Relation.TransGen nM) x->Acc Gf (some x):=by
  intro x b;induction b with
  |intro x _ c=>exact⟨_,λy ⟨u,v,d,f,h⟩=>by simp_all⟩
 intro a;cases a with
 |none=>exact⟨_,λy ⟨u,v,_,e,_⟩=>by cases e⟩
 |some x=>exact key x ((WellFounded.intro Bd).transGen.apply x)
def Jb{α:Type}(R:α->α->Prop)(n:Nat)(f' f:Nat->α):Prop:=∃i,i<n/\(∀j,j≠i->f' j=f j)/\R (f' i) (f i)
theorem Bn{α:Type}{R:α->α->Prop}(d:∀a,Acc R a):∀(n:Nat) (f:Nat->α),Acc (Jb R n) f
 |0,f=>⟨_,λy ⟨i,e,_⟩=>by omega⟩
 | n + 1,f=>by
   have key:∀x:α,Acc R x->∀f:Nat->α,f n=x->Acc (Jb R (n+1)) f:=by
    intro x g;induction g with
    | intro x _ h=>
      intro f m;have j:=Bn d n f;induction j with
      | intro f _ b=>
        refine⟨_,λf' ⟨i,e,c,k⟩=>?_⟩;by_cases l:i=n
        . grind
        . exact b f' ⟨i,by omega,c,k⟩ (by grind)
   simp_all
def MS.eU{P:Program}(n:Nat)(s' s:MS P):Prop:=s'.bT n<s.bT n\/(s'.bT n=s.bT n/\(Jb Gf n (λj=>(s'.w j).nd) (λj=>(s.w j).nd)\/((λj=>(s'.w j).nd)=(λj=>(s.w j).nd)/\s'.inner n<s.inner n)))
theorem MR{P:Program}(n:Nat):WellFounded (MS.eU (P:=P) n):=by
 have c:WellFounded (Jb (Gf (P:=P)) n):=⟨Bn Ja n⟩;have d:=(Prod.lex ⟨Nat.lt,Nat.lt_wfRel.wf⟩ (Prod.lex ⟨Jb (Gf (P:=P)) n,c⟩ ⟨Nat.lt,Nat.lt_wfRel.wf⟩)).wf;refine Subrelation.wf (r:=InvImage _ (λs:MS P=>(s.bT n,(λj=>(s.w j).nd),s.inner n))) ?_ (InvImage.wf _ d);intro s' s h;rcases h with h|⟨h,b|⟨b,a⟩⟩
 . exact Prod.Lex.left _ _ h
 . show Prod.Lex _ _ (_,_) (_,_)
   grind
 . show Prod.Lex _ _ (_,_) (_,_)
   rw[h,b];exact Prod.Lex.right _ (Prod.Lex.right _ a)
end Go.bu
namespace Go.bu
open Go.Conc
open Go.ConcN (sumTo upd sumTo_upd upd_ne upd_same)
section
variable{P:Program}
def ba.gJ:ba P->Bool
 |.xi=>true|.dn _=>true|.gone=>true|_=>false
def ba.gh:ba P->Bool
 |.idle=>false|.run h _=>h|.lk ..=>false|_=>true
def ba.rel(x:ba P):Bool:=x.gh && !x.owns
def ba.cnt:ba P->Nat
 |.run ..=>1|.lk ..=>1|.un ..=>1|.wait=>1|.xi=>1|.dn .d1=>1|.dn .d2=>1|.dn .d4=>1|_=>0
def ba.busy:ba P->Bool
 |.run ..=>true|.lk ..=>true|.un ..=>true|.wait=>true|.xi=>true|.dn .d1=>true|_=>false
def ba.last:ba P->Bool
 |.dn .d5=>true|.dn .d6=>true|.dn .d7=>true|_=>false
def ba.iI:ba P->Bool
 |.idle=>true|_=>false
def ba.ok:ba P->Bool
 |.lk p _=>Bm p
 |.un p _=>xB p
 |.dn p=>(match p with|.d1=>true|.d2=>true|.d4=>true|.d5=>true|.d6=>true|.d7=>true|_=>false)
 |_=>true
def iG.busy:iG->Bool
 |.dL=>true|.wt _=>true|.iH=>true|_=>false
def iG.ok:iG->Bool
 |.wt p=>(match p with|.w0=>true|.w1=>true|.w2 _=>true|.w3=>true|.w4=>true|.w5=>true|.we=>true|.wa=>true|_=>false)
 |_=>true
def iG.waits:iG->Bool
 |.wt .w3=>true|.wt .w4=>true|_=>false
def iG.Jc:iG->Bool
 |.wt .w5=>true|.wt .we=>true|.wt .wa=>true|.iH=>true|.gone=>true|_=>false
def iG.isNone:iG->Bool
 |.none=>true|_=>false
def iG.dO:iG->Bool
 |.gone=>true|_=>false
def m8.pend:m8->Nat
 |.bh _ .a4=>1|.bh _ .ae=>1|.spawn _=>1|_=>0
structure bD(n:Nat)(s:MS P):Prop where
 g1:s.gc=sumTo n (λj=>(s.w j).cnt)+s.ms.pend
 g2:s.gv<=1
 Jd:s.gv=1->s.c.waits=true/\s.gm=0
 g3:∀j,j<n->(s.w j=.dn .d5\/s.w j=.dn .d6)->s.gv=1/\s.gc=0
 H6:∀i j,i<n->j<n->(s.w i).last=true->(s.w j).last=true->i=j
 g4:∀j,j<n->s.w j=.dn .d7->s.gv=0/\s.gc=0/\s.gm=0/\s.c.waits=true
 g5:s.gm<=1/\(s.gm=1->s.c.waits=true/\s.gv=0/\s.gc=0/\∀j,j<n->(s.w j).last=false)
 g6:s.c.waits=true->s.gv=0->s.gm=0->∃j,j<n/\s.w j=.dn .d7
 g7:s.gv=1->s.gc=0->∃j,j<n/\(s.w j=.dn .d5\/s.w j=.dn .d6)
 g8:s.c.Jc=true->s.gc=0/\s.gv=0/\s.gm=0/\∀j,j<n->s.w j=.gone
 g9:∀k,s.c=.wt (.w2 k)->k≠0
 ok:∀j,j<n->(s.w j).ok=true
 Qz:s.c.ok=true
 sp:s.sp<=n
 idle:∀j,j<n->((s.w j).iI=true↔s.sp<=j)
 ms:match s.ms with
  |.add j=>s.sp+j=n/\s.c=.none
  |.bh j p=>s.sp+j=n/\s.c=.none/\1<=j/\(p=.a0\/p=.a2\/p=.a4\/p=.ae)
  |.spawn j=>s.sp+j+1=n/\s.c=.none
  |.recv=>s.sp=n/\s.c≠.none
  |.parked=>s.sp=n/\s.c≠.none/\s.c≠.gone/\∀j,j<n->s.w j≠.wait
  |.off=>s.sp=n/\s.c≠.none
 early:s.d=false->s.c=.none->∀j,j<n->(s.w j).gJ=false
 mu:Mu.Inv n (λj=>(s.w j).pc) s.sh
end
variable(P:Program)(A:bt)(Fin:ai->aj->Goroutine->Prop)
def MS.rem(n:Nat)(s:MS P):List Nat:=(List.range n).filter λj=>!(s.w j).gJ
def c9(s:MS P)(i:Nat):Prop:=(i=0/\(match s.ms with|.add _=>True|.spawn _=>True|.recv=>True|_=>False))\/(∃j,j<A.n/\i=A.b+j/\(match s.w j with|.run ..=>True|.xi=>True|_=>False))\/(i=A.cl/\(match s.c with|.dL=>True|.iH=>True|_=>False))
def fa(s:MS P)(i:Nat):Prop:=(i=0/\(match s.ms with|.bh ..=>True|_=>False))\/(∃j,j<A.n/\i=A.b+j/\(match s.w j with|.lk ..=>True|.un ..=>True|.dn _=>True|_=>False))\/(i=A.cl/\(match s.c with|.wt _=>True|_=>False))
def ep(s:MS P)(i:Nat):Prop:=(i=0/\s.ms=.parked)\/(∃j,j<A.n/\i=A.b+j/\s.w j=.wait)
def bR(s:MS P)(i:Nat):Mo:=
 if i=0 then(match s.ms with|.add j=>nK P A Fin j|.spawn j=>Dk P A Fin j|_=>pM P A Fin (MS.rem P A.n s).length (MS.rem P A.n s))
 else if i<A.b+A.n then(match s.w (i-A.b)with|.run ..=>gg P A (i-A.b)|_=>jY P A)else(match s.c with|.dL=>vG P A|_=>qg P A)
theorem Dl(s:MS P)(i:Nat):(bR P A Fin s i).main=(i==0):=by
 have c:∀m R,(pM P A Fin m R).main=true:=λm R=>by cases m<;>rfl
 have b:∀m,(nK P A Fin m).main=true:=λm=>by
  cases m with
  |zero=>unfold nK;grind
  |succ m=>rfl
 unfold bR;by_cases a:i=0
 . subst a
   simp only[if_true,beq_self_eq_true];split
   . exact b _
   . rfl
   simp_all
 . have:(i==0)=false:=by simp_all
   rw[if_neg a,this];split
   . split<;>rfl
   . split<;>rfl
def Fc(j:Nat)(x:ba P)(k:ai)(O:aj)(g:Goroutine):Prop:=
 match x with
 |.lk p Y=>∃kind c rest e,kind≠.early/\mO P A.nm A.fb A.fo kind p (c::rest) g/\Y.m=gg P A j/\O A.fb=none/\k.sh A.fb=some e/\(A.dir=true->A.cell j<e.2)/\∀b x a f,k.Le b->jJ b x a->A.GI a->O A.mb=none->A.Tk j f->Y.N b ((O.set A.mb x).set A.fb (.part f)) (ju kind c rest (.tuple #[]))
 | .un p Y=>∃kind c rest,kind≠.early/\mO P A.nm A.fb A.fo kind p (c::rest) g/\Y.m=gg P A j/\
    ((p=.E0\/p=.ur)->∃f x a,O A.fb=some (.part f)/\O A.mb=some x/\jJ k x a/\A.GI a/\(A.dir=true->k.cell A.fb (A.cell j)=some (A.val j))/\CR P A Y.N k ((O.del A.mb).del A.fb) (ju kind c rest (.tuple #[])))/\
    (¬(p=.E0\/p=.ur)->CR P A Y.N k O (ju kind c rest (.tuple #[])))
 |.dn p=>∃d fn tmps todo,P.funcs[d]?=some fn/\fn.results=#[]/\pK P A.ng A.gb .deferred p [jO P d tmps todo,cd P] g
 |_=>False
def QA(x:iG)(k:ai)(O:aj)(g:Goroutine):Prop:=
 match x with
 |.wt p=>∃c rest,pK P A.ng A.gb .normal p (c::rest) g/\if A.dir then RN A Fin k O c rest else ∀a,k.Le a->T P (qg P A) fH a O (ju .normal c rest (.tuple #[]))
 |_=>False
def Tp(x:m8)(k:ai)(O:aj)(g:Goroutine):Prop:=
 match x with
 |.bh j p=>∃c rest,pK P A.ng A.gb .normal p (c::rest) g/\T P (Dk P A Fin (j-1)) fH k O (ju .normal c rest (.tuple #[]))
 |_=>False
def RO(s:MS P)(i:Nat)(k:ai)(O:aj)(g:Goroutine):Prop:=(i=0/\Tp P A Fin s.ms k O g)\/(∃j,j<A.n/\i=A.b+j/\Fc P A j (s.w j) k O g)\/(i=A.cl/\QA P A Fin s.c k O g)
def Pa(s:MS P)(i:Nat):Prop:=(∃j sv Y,j<A.n/\i=A.b+j/\s.w j=.lk (.fA sv) Y/\s.sh.ms=0)\/(i=A.cl/\s.c=.wt .w4/\s.gm=0)
def Uc(s:MS P)(i:Nat)(k:ai)(O:aj)(g:Goroutine):Prop:=
 (i=0/\∃a z,g=parked a #[rcase A.cF z] (.recv true)/\dp P A k O a a z/\a.status=.running/\(pM P A Fin (MS.rem P A.n s).length (MS.rem P A.n s)).cN k O a fH)\/
 (∃j,j<A.n/\i=A.b+j/\∃a z v,g=parked a #[scase A.cF v z] .send/\V k v (A.res j)/\O A.fb=none/\T P (jY P A) fH k O (Go.Conc.served a undef)/\A.dir=false)
def dq(s:MS P)(i:Nat):Nat:=
 if i=0 then(match s.ms with|.bh _ p=>qW p|.off=>(match s.c with|.wt p=>qW p|_=>0)|_=>0)
 else if i<A.b+A.n then(s.w (i-A.b)).deaf else(match s.c with|.wt p=>qW p|_=>0)
def jZ(w:World):Prop:=(∃v,w.cell? ⟨A.gb,0,none⟩=some v)/\(∃v,w.cell? ⟨A.gb,1,none⟩=some v)/\∃v,w.cell? ⟨A.fb,A.fo,none⟩=some v
def xj(A:bt):Loc->Prop
 |.cell a=>a.spot=none/\((a.block=A.fb/\(a.off=A.fo\/a.off=A.fo+1))\/(a.block=A.gb/\(a.off=0\/a.off=1)))
 |.obj r=>r=A.cF/\A.dir=false
 |_=>False
def dF(s:MS P)(i:Nat):Prop:=(∃j,j<A.n/\i=A.b+j/\(s.w j).busy=true)\/(i=A.cl/\s.c.busy=true)
def bG(s:MS P)(i:Nat):Prop:=i=0\/(∃j,j<s.sp/\i=A.b+j)\/(i=A.cl/\s.c≠.none)
abbrev uj(s:MS P):Prop:=(A.dir=true->s.c≠.none->s.ms=.off)/\(A.dir=true->s.ms≠.recv/\s.ms≠.parked/\s.c≠.dL/\s.c≠.iH/\s.c≠.gone)/\(A.dir=false->s.ms≠.off)
structure cI(Z:Base)(s:MS P)(kk:Nat->ai)(OO:Nat->aj)(J M:Nat->Prop)(gsz:Nat)(w:World)(t:Trace):Prop where
 I:bD A.n s
 size:gsz=A.b+s.sp+(if s.c.isNone||A.dir then 0 else 1)
 dd:s.d=A.dir
 off:uj P A s
 xk:A.dir=true->∀j,j<A.n->((s.w j).gh=false->(∀i,(kk i).cell A.fb (A.cell j)=none)/\∀m a ad,touchAt t m=some a->a.loc=.cell ad->ad.block=A.fb/\ad.off=A.cell j->m<Z.N0)/\((s.w j).rel=true->(kk (A.b+j)).cell A.fb (A.cell j)=some (A.val j))
 yn:A.dir=false->∃x tm,w.heap[A.cF]?=some (.chan 0 #[] s.c.dO x x tm)
 mu:ShM A.fb A.fo w s.sh
 gr:pJ A.gb w s.gc s.gv s.gm
 tz:∃c e,w.heap[A.fb]?=some (.cells c e (0,0))
 xC:∃c e,w.heap[A.gb]?=some (.cells c e (0,0))
 fe:∀i,(A.dir=false->OO i A.cF=none)/\OO i A.gb=none
 dM:∀i,(kk i).cell A.fb A.fo=none/\(kk i).cell A.fb (A.fo+1)=none/\(kk i).cell A.gb 0=none/\(kk i).cell A.gb 1=none
 tok:∀i x,OO i A.fb=some x->∃j f,j<A.n/\i=A.b+j/\(s.w j).owns=true/\x=.part f/\∀l,f l≠none->A.dir=true/\l=A.cell j
 xD:∀j,j<A.n->(s.w j).owns=true->OO (A.b+j) A.fb≠none
 Mf:(∀j,j<A.n->(s.w j).owns=false)->∃x a,OO Z.lk A.mb=some x/\jJ (kk Z.lk) x a/\A.GI a
 Mg:∀c,OO Z.lk c≠none->c=A.mb/\∀j,j<A.n->(s.w j).owns=false
 hJ:∀i,J i↔dF P A s i
 hM:∀p,M p->t.heard p/\Z.N0<=p/\((t.act? p=some (.mark (.releaseMerge ⟨A.gb,0,none⟩))/\(s.c=.none\/s.c=.dL\/∃q,s.c=.wt q))\/(s.c=.gone/\t.act? p=some (.close A.cF)))
 shut:s.c=.gone->∃p,M p/\t.act? p=some (.close A.cF)/\t.heard p
 quiet:∀m a,touchAt t m=some a->xj A a.loc->a.kind=.plain->∀i,bG P A s i->Knows t i m
 said:∀m a,touchAt t m=some a->xj A a.loc->a.kind=.said->Knows t (if s.c.isNone then 0 else A.cl) m
 old:∀i,bG P A s i->∀m a,m<Z.N0->touchAt t m=some a->a.loc.isMemory=true -> ¬Z.Shun a.loc->Knows t i m
 norel:∀m a,Z.N0<=m->t.act? m≠some (.mark (.release a))
 Bo:∀i,i≠Z.lk -> ¬bG P A s i->kk i=ai.bot/\OO i=aj.bot
 qN:∀a,xj A a->(∃c,a=.cell c/\c.block=A.gb)->Z.Shun a
 jh:∀c:Addr,c.block=A.fb/\(c.off=A.fo\/c.off=A.fo+1\/(A.dir=true/\∃j,j<A.n/\c.off=A.cell j)) -> ¬Z.Shun (.cell c)
 dY:(A.dir=false->Z.W0.heap.size<=A.cF)/\Z.W0.heap.size<=A.fb/\Z.W0.heap.size<=A.gb
 la:Z.la=⟨A.fb,A.fo,none⟩
 n0:Z.N0<=t.size
def Node.Pb{P:Program}:Node P->Prop
 |⟨_,_,_,_,.cN ..⟩=>True
 |_=>False
def tA{P:Program}(x X:Node P):Prop:=∀y,(y=x\/Relation.TransGen nM y x)->y.Pb->(y=X\/Relation.TransGen nM y X)
theorem tA.sub{P:Program}{x y X:Node P}(h:tA x X)(a:nM y x):tA y X:=λz b c=>h z (b.elim (λe=>.inr (by rw[e];exact .single a)) (λe=>.inr (e.tail a))) c
theorem tA.refl{P:Program}(X:Node P):tA X X:=λy a _=>a
def MT(s:MS P)(i:Nat)(x:Node P):Prop:=∀j h X,j<A.n->i=A.b+j->s.w j=.run h X->tA x X
def bL(Z:Base)(a:A.b+A.n+1<=Z.lk):pH P where
 S:=MS P
 r:=MS.eU A.n
 wf:=MR A.n
 mo:=bR P A Fin
 main:=Dl P A Fin
 top:=A.b+A.n+1
 lk:=Z.lk
 Re:=a
 Live:=c9 P A
 Walk:=fa P A
 At:=RO P A Fin
 yh:=Pa P A
 mZ:=ep P A
 Db:=Uc P A Fin
 deaf:=dq P A
 Wd:=jZ A
 Ex:=cI P A Z
 ME:=MT P A
 tie:=λs i x y hs h j b X c d e=>(h j b X c d e).sub hs
end Go.bu
namespace Go.bu
open Go.Conc
open Go.ConcN (sumTo upd sumTo_upd upd_ne upd_same)
theorem vH{t:Trace}(u:Trace){p:Nat}{x:MemAct}(h:t.act? p=some x)(b:t.heard p):(t++u).act? p=some x/\(t++u).heard p:=by have a:=lt_of_act? h;exact⟨by rw[act?_old a];exact h,(heard_old a).2 b⟩
structure Bp(b o:Nat)(w w':World):Prop where
 cell:∀l,l=o\/l=o+1->w'.cell? ⟨b,l,none⟩=w.cell? ⟨b,l,none⟩
 fz:∀l,w'.frozen? ⟨b,l,none⟩=w.frozen? ⟨b,l,none⟩
theorem Bp.of_heap{b o:Nat}{w w':World}(h:w'.heap[b]?=w.heap[b]?):Bp b o w w':=⟨λl _=>by simp only[World.cell?,h],λl=>by simp only[World.frozen?,h]⟩
theorem ShM.same{b o:Nat}{w w':World}{s:Mu.Sh}(h:ShM b o w s)(e:Bp b o w w'):ShM b o w' s:=⟨by rw[e.cell _ (.inl rfl)];exact h.cw,by rw[e.cell _ (.inr rfl)];exact h.cs,λi=>by rw[e.fz];exact h.fz i⟩
theorem pJ.same{b:Nat}{w w':World}{c v m:Nat}(h:pJ b w c v m)(e:Bp b 0 w w'):pJ b w' c v m:=⟨by rw[e.cell _ (.inl rfl)];exact h.cw,by rw[e.cell _ (.inr rfl)];exact h.cs,λi=>by rw[e.fz];exact h.fz i⟩
theorem dB{t u:Trace}{m:Nat}{a:Touch}(h:touchAt (t++u) m=some a):(touchAt t m=some a/\m<t.size)\/∃op∈u,op.act.touch?=some a:=by
 obtain⟨x,d,b⟩:=touch_of h;rcases getElem?_append_cases d with⟨e,c⟩|⟨_,f⟩
 . exact .inl ⟨by rw[touchAt_of c];exact b,e⟩
 grind
theorem oU{t u:Trace}{m:Nat}{x:MemAct}(h:(t++u).act? m=some x):(t.act? m=some x/\m<t.size)\/∃op∈u,op.act=x:=by
 unfold Trace.act? at h;obtain⟨y,b,rfl⟩:=Option.map_eq_some_iff.1 h;rcases getElem?_append_cases b with⟨c,a⟩|⟨_,d⟩
 . exact .inl ⟨by simp[Trace.act?,a],c⟩
 grind
section
variable{P:Program}{A:bt}{Fin:ai->aj->Goroutine->Prop}{Z:Base}{s:MS P}{kk kk':Nat->ai}{OO OO':Nat->aj}{J M:Nat->Prop}{gsz:Nat}{w w':World}{t:Trace}
theorem cI.jB(h:cI P A Z s kk OO J M gsz w t)(u:Trace)(j:∀op∈u,∀a,op.act.touch?=some a->xj A a.loc->a.kind≠.plain):∀m a,touchAt (t++u) m=some a->xj A a.loc->a.kind=.plain->∀i,bG P A s i->Knows (t++u) i m:=λm a c d e i f=>by
 rcases dB c with⟨b,_⟩|⟨op,g,b⟩
 . exact(h.quiet m a b d e i f).app u
 grind
theorem cI.m9(h:cI P A Z s kk OO J M gsz w t)(u:Trace)(i:∀op∈u,∀a,op.act.touch?=some a->xj A a.loc->a.kind≠.said):∀m a,touchAt (t++u) m=some a->xj A a.loc->a.kind=.said->Knows (t++u) (if s.c.isNone then 0 else A.cl) m:=λm a d e f=>by
 rcases dB d with⟨b,_⟩|⟨op,g,b⟩
 . exact(h.said m a b e f).app u
 grind
theorem cI.oc(h:cI P A Z s kk OO J M gsz w t)(u:Trace):∀i,bG P A s i->∀m a,m<Z.N0->touchAt (t++u) m=some a->a.loc.isMemory=true -> ¬Z.Shun a.loc->Knows (t++u) i m:=λi g m a e j b k=>by
 have c:m<t.size:=Nat.lt_of_lt_of_le e h.n0
 have l:touchAt t m=some a:=by obtain⟨x,f,d⟩:=touch_of j;rw[Array.getElem?_append_left c]at f;rw[touchAt_of f];exact d
 exact(h.old i g m a e l b k).app u
theorem cI.iJ(h:cI P A Z s kk OO J M gsz w t)(u:Trace)(f:∀op∈u,∀a,op.act≠.mark (.release a)):∀m a,Z.N0<=m->(t++u).act? m≠some (.mark (.release a)):=λm a c e=>by
 rcases oU e with⟨b,_⟩|⟨op,d,b⟩
 . exact h.norel m a c b
 simp_all
theorem cI.tB(h:cI P A Z s kk OO J M gsz w t)(u:Trace):∀p,M p->(t++u).heard p/\Z.N0<=p/\(((t++u).act? p=some (.mark (.releaseMerge ⟨A.gb,0,none⟩))/\(s.c=.none\/s.c=.dL\/∃q,s.c=.wt q))\/(s.c=.gone/\(t++u).act? p=some (.close A.cF))):=λp e=>by
 obtain⟨b,i,a⟩:=h.hM p e;rcases a with⟨a,d⟩|⟨a,d⟩
 . obtain⟨f,g⟩:=vH u a b
   simp_all
 . obtain⟨f,g⟩:=vH u d b
   simp_all
theorem cI.lG(h:cI P A Z s kk OO J M gsz w t)(u:Trace):s.c=.gone->∃p,M p/\(t++u).act? p=some (.close A.cF)/\(t++u).heard p:=λa=>by
 obtain⟨p,e,b,d⟩:=h.shut a;obtain⟨f,g⟩:=vH u b d
 grind
theorem Dm(I:bD A.n s){i:Nat}(d:c9 P A s i):bG P A s i:=by
 rcases d with⟨h,_⟩|⟨j,b,c,f⟩|⟨b,c⟩
 . exact .inl h
 . refine .inr (.inl ⟨j,?_,c⟩)
   have a:=I.idle j b;cases e:s.w j with
   |idle=>simp_all
   |_=>rw[e]at a;simp[ba.iI]at a;omega
 . refine .inr (.inr ⟨b,λe=>?_⟩)
   simp_all
theorem Je{i:Nat}(a:c9 P A s i):i<A.b+A.n+1:=by
 have:=A.hb;rcases a with⟨h,_⟩|⟨j,c,d,e⟩|⟨c,d⟩<;>omega
theorem cI.MU(h:cI P A Z s kk OO J M gsz w t){i l:Nat}(a:aO (OO i) A.fb l):A.dir=true/\∃j,j<A.n/\(i=A.b+j/\(s.w j).owns=true)/\l=A.cell j:=by
 obtain⟨x,c⟩:=a.own;obtain⟨j,f,d,e,k,rfl,p⟩:=h.tok i x c;rcases a with⟨o,q⟩|⟨m,q,_⟩|⟨g,q,r⟩
 . simp_all
 . simp_all
 . rw[c]at q;cases q;grind
theorem yo{x:ba P}(h:x.owns=true):x.gh=true:=by cases x<;>simp_all [ba.owns,ba.gh]
theorem xE(h:cI P A Z s kk OO J M gsz w t){i:Nat}{e:Event}(n:iq (kk i) (OO i) w.heap.size e){a:Touch}(p:(MemAct.ofEvent e).touch?=some a):¬xj A a.loc:=λb=>by
 have q:A.fb<w.heap.size:=by obtain⟨c,e,k⟩:=h.tz;grind
 have u:A.gb<w.heap.size:=by obtain⟨c,e,k⟩:=h.xC;grind
 have g:∀l,(l=A.fo\/l=A.fo+1) -> ¬aO (OO i) A.fb l:=λl f m=>by obtain⟨_,_,_,_,e⟩:=h.MU m;unfold bt.cell at e;omega
 have j:∀l,¬aO (OO i) A.gb l:=λl=>dE (h.fe i).2
 obtain⟨v,y,z,B⟩:=h.dM i
 rcases jr n p with⟨C,f,m⟩|⟨r,f,d⟩
 . rw[f]at b
   obtain⟨_,b⟩:=b
   grind
 . rw[f]at b
   obtain⟨b,hd⟩:r=A.cF/\A.dir=false:=b;subst b
   rcases d with⟨o,d⟩|d
   . rw[(h.fe i).1 hd]at d;cases d
   . obtain⟨x,D,k⟩:=h.yn hd
     simp_all
theorem xH{k:ai}{O:aj}{B:Nat}{e:Event}(b:iq k O B e)(a:Addr):MemAct.ofEvent e≠.mark (.release a):=by
 obtain⟨loc,wr,c⟩:=e;cases loc with
 |mark m=>simp only[iq]at b;cases m<;>simp_all [jo,lU,MemAct.ofEvent]
 |cell d=>simp[MemAct.ofEvent]
 |obj r=>cases wr<;>cases c<;>simp[MemAct.ofEvent]
 |_=>simp[iq]at b
theorem cI.own(h:cI P A Z s kk OO J M gsz w t)(hZ:A.b+A.n+1<=Z.lk){i:Nat}(V:c9 P A s i){k':ai}{O':aj}{es:List Event}(D:Eff (kk i) (OO i) w k' O' w' es)(u:Trace)
 (H:∀op∈u,∃e,iq (kk i) (OO i) w.heap.size e/\op.act=.ofEvent e):cI P A Z s (bF kk i k') (bF OO i O') J M gsz w' (t++u):=by
 have K:i≠Z.lk:=by have:=Je V;omega
 have Q:=Dm h.I V;have W:A.fb<w.heap.size:=by obtain⟨c,e,d⟩:=h.tz;grind
 have X:A.gb<w.heap.size:=by obtain⟨c,e,d⟩:=h.xC;grind
 have hC:A.dir=false->A.cF<w.heap.size:=λhd=>by obtain⟨x,tm,d⟩:=h.yn hd;grind
 have R:=D.keep A.gb X (h.fe i).2
 have S:Bp A.fb A.fo w w'/\∃c e,w'.heap[A.fb]?=some (.cells c e (0,0)):=by
  cases q:OO i A.fb with
  |none=>have:=D.keep A.fb W q;exact⟨.of_heap this,by rw[this];exact h.tz⟩
  | some x=>
    obtain⟨j,f,_,_,_,rfl,hf⟩:=h.tok i x q;obtain⟨c,e,d⟩:=h.tz;obtain⟨c',N,h3,h4⟩:=D.part A.fb f W q c e d;refine⟨⟨λl V=>?_,λl=>?_⟩,c',e,N⟩
    . simp only[World.cell?,d,N];rw[h4 l (Classical.byContradiction λhh=>by have:=(hf l hh).2;unfold bt.cell at this;omega)]
    . simp only[World.frozen?,d,N]
 have p:∀c,c<w.heap.size->OO i c=none->O' c=none:=λc hc hn=>by
  cases q:O' c with
  |none=>rfl
  | some x=>
    rcases D.own c x q with⟨y,hy,_⟩|hy
    . simp_all
    . omega
 have z:∀l,(l=A.fo\/l=A.fo+1) -> ¬aO (OO i) A.fb l:=λl V hc=>by obtain⟨_,_,_,_,e⟩:=h.MU hc;unfold bt.cell at e;omega
 have a7:∀l,l<A.n->(s.w l).gh=false -> ¬aO (OO i) A.fb (A.cell l):=λl _ O hc=>by
  obtain⟨_,j,_,⟨_,T⟩,e⟩:=h.MU hc;obtain rfl:l=j:=by unfold bt.cell at e;omega
  rw[yo T]at O;cases O
 have E:∀c l,c<w.heap.size -> ¬aO (OO i) c l->(kk i).cell c l=none->k'.cell c l=none:=λc l hc ar hn=>by
  cases q:k'.cell c l with
  |none=>rfl
  | some v=>
    rcases D.cell c l v q with d|d|d
    . simp_all
    . simp_all
    . omega
 obtain⟨a8,a9,ab,al⟩:=h.dM i
 have U:∀op∈u,∀a,op.act.touch?=some a -> ¬xj A a.loc:=λop k a G=>by obtain⟨e,B,C⟩:=H op k;rw[C]at G;exact xE h B G
 refine⟨h.I,h.size,h.dd,h.off,λhd l F=>⟨λO=>⟨λj=>?_,λm a ad G e e'=>?_⟩,λhr=>?_⟩,λhd=>by rw[D.keep A.cF (hC hd) ((h.fe i).1 hd)];exact h.yn hd,h.mu.same S.1,h.gr.same (.of_heap R),S.2,by rw[R];exact h.xC,λj=>?_,λj=>?_,λj x Y=>?_,λj hj T=>?_,λT=>?_,λc hc=>?_,h.hJ,h.tB u,h.lG u,
  h.jB u (λop k a G hs=>absurd hs (U op k a G)),h.m9 u (λop k a G hs=>absurd hs (U op k a G)),h.oc u,h.iJ u (λop k a=>by obtain⟨e,B,C⟩:=H op k;rw[C];exact xH B a),λj hj hb=>?_,h.qN,h.jh,h.dY,h.la,by simp;exact Nat.le_trans h.n0 (Nat.le_add_right _ _)⟩
 . have d:=((h.xk hd l F).1 O).1 j
   by_cases e:j=i
   . subst e;rw[az];simp_all
   . rw[aA _ _ e];exact d
 . rcases dB G with⟨d,_⟩|⟨op,k,d⟩
   . exact((h.xk hd l F).1 O).2 m a ad d e e'
   . obtain⟨ev,B,C⟩:=H op k
     rw[C]at d
     rcases jr B d with⟨ad,L,hc⟩|⟨r,L,_⟩
     . rw[e]at L
       cases L;rw[e'.1,e'.2]at hc
       rcases hc with hc|hc|⟨_,v,hc⟩
       . simp_all
       . omega
       . have:=((h.xk hd l F).1 O).1 i
         simp_all
     simp_all
 . have d:=(h.xk hd l F).2 hr
   by_cases e:A.b+l=i
   . rw[e,az];rw[e]at d;exact D.le.1 _ _ _ d
   . rw[aA _ _ e];exact d
 . by_cases e:j=i
   . subst e;rw[az];exact⟨λhd=>p _ (hC hd) ((h.fe j).1 hd),p _ X (h.fe j).2⟩
   . rw[aA _ _ e];exact h.fe j
 . by_cases e:j=i
   . subst e;rw[az]
     exact⟨E _ _ W (z _ (.inl rfl)) a8,E _ _ W (z _ (.inr rfl)) a9,E _ _ X (dE (h.fe j).2) ab,E _ _ X (dE (h.fe j).2) al⟩
   . rw[aA _ _ e];exact h.dM j
 . by_cases e:j=i
   . subst e;rw[az]at Y
     rcases D.own _ x Y with⟨y,hy,hb⟩|hy
     . obtain⟨l,f,d,N,h3,rfl,h4⟩:=h.tok j y hy
       cases x with
       |obj o=>exact hb.elim
       |tail m=>exact hb.elim
       |part g=>exact⟨l,g,d,N,h3,rfl,λa q=>h4 a (hb a q)⟩
     . omega
   . rw[aA _ _ e]at Y;exact h.tok j x Y
 . have d:=h.xD j hj T
   by_cases e:A.b+j=i
   . rw[e,az]
     rw[e]at d;cases q:OO i A.fb with
     |none=>simp_all
     | some x=>
       obtain⟨_,f,_,_,_,rfl,_⟩:=h.tok i x q;obtain⟨f',N⟩:=D.tok _ f q
       grind
   . rw[aA _ _ e];exact d
 . rw[aA _ _ (Ne.symm K),aA _ _ (Ne.symm K)];exact h.Mf T
 . rw[aA _ _ (Ne.symm K)]at hc;exact h.Mg c hc
 . have e:j≠i:=λe=>hb (e ▸ Q)
   rw[aA _ _ e,aA _ _ e];exact h.Bo j hj hb
theorem cI.still(h:cI P A Z s kk OO J M gsz w t)(u:Trace)(i:∀op∈u,op.act.touch?=none/\∀a,op.act≠.mark (.release a)):cI P A Z s kk OO J M gsz w (t++u):=
 ⟨h.I,h.size,h.dd,h.off,λhd l c=>⟨λf=>⟨((h.xk hd l c).1 f).1,λm a j d e k=>(dB d).elim (λg=>((h.xk hd l c).1 f).2 m a j g.1 e k) (λ⟨op,b,g⟩=>by simp_all)⟩,(h.xk hd l c).2⟩,h.yn,h.mu,h.gr,h.tz,h.xC,h.fe,h.dM,h.tok,h.xD,h.Mf,h.Mg,h.hJ,h.tB u,h.lG u,h.jB u (λop b a d=>by simp_all),h.m9 u (λop b a d=>by simp_all),
   h.oc u,h.iJ u (λop b=>(i op b).2),h.Bo,h.qN,h.jh,h.dY,h.la,by simp;exact Nat.le_trans h.n0 (Nat.le_add_right _ _)⟩
theorem aY(B:A.b+A.n+1<=Z.lk):yi (bL P A Fin Z B) where
 own:=λa o _ he u _ _ q=>cI.own a B o he u q
 slip:=λa u _ hu=>cI.still a u hu
 draw:=λ{s kk OO J M n w t} a d=>by have a:cI P A Z s kk OO J M n w t:=a;exact⟨a.I,a.size,a.dd,a.off,a.xk,a.yn,a.mu.heap rfl,a.gr.same (.of_heap rfl),a.tz,a.xC,a.fe,a.dM,a.tok,a.xD,a.Mf,a.Mg,a.hJ,a.hM,a.shut,a.quiet,a.said,a.old,a.norel,a.Bo,a.qN,a.jh,a.dY,a.la,a.n0⟩
 qP := λ{s kk OO J M n w t j g} a C k O f=>by
  have a:cI P A Z s kk OO J M n w t:=a
  have r:s.c.dO=false:=by
   rcases C with⟨_,hm⟩|⟨l,o,_,hw⟩
   . have:=a.I.ms
     rw[hm]at this;have:=this.2.2.1;cases e:s.c<;>simp_all [iG.dO]
   . cases e:s.c with
     | gone=>
       have:=(a.I.g8 (by rw[e];rfl)).2.2.2 l o
       simp_all
     |_=>rfl
  have hd:A.dir=false:=by
   cases e:A.dir with
   |false=>rfl
   | true=>
     rcases f with⟨h0,_⟩|⟨l,_,_,m,z,v,_,_,_,_,hd⟩
     . have:=A.hb
       rcases C with⟨_,hm⟩|⟨l,o,h,hw⟩
       . exact absurd hm (a.off.2.1 e).2.1
       . omega
     simp_all
  obtain⟨x,D,y⟩:=a.yn hd;rw[r]at y;rcases f with⟨_,m,z,rfl,_⟩|⟨l,_,_,m,z,v,rfl,_⟩
  . exact again_recv_open y
  . exact again_send_open y
 wd:=λ{s kk OO J M n w t} a=>by have a:cI P A Z s kk OO J M n w t:=a;exact⟨⟨_,a.gr.cw⟩,⟨_,a.gr.cs⟩,⟨_,a.mu.cw⟩⟩
 jS:=λ{s i k O g} f=>by
  rcases f with⟨_,f⟩|⟨j,_,_,f⟩|⟨_,f⟩
  . cases e:s.ms with
    |bh j p=>rw[e]at f;obtain⟨c,rest,h,_⟩:=f;exact h.running
    |_=>rw[e]at f;exact f.elim
  . cases e:s.w j with
    |lk p Y=>rw[e]at f;obtain⟨kind,c,rest,_,_,h,_⟩:=f;exact h.running
    |un p Y=>rw[e]at f;obtain⟨kind,c,rest,_,h,_⟩:=f;exact h.running
    |dn p=>rw[e]at f;obtain⟨E,fn,tmps,todo,_,_,h⟩:=f;exact h.running
    |_=>rw[e]at f;exact f.elim
  . cases e:s.c with
    |wt p=>rw[e]at f;obtain⟨c,rest,h,_⟩:=f;exact h.running
    |_=>rw[e]at f;exact f.elim
end
end Go.bu
namespace Go.bu
open Go.Conc
open Go.ConcN (sumTo upd sumTo_upd upd_ne upd_same)
variable{P:Program}
def MS.aP(s:MS P)(j:Nat)(x:ba P)(sh:Mu.Sh):MS P:={s with w:=λi=>if i=j then x else s.w i,sh:=sh}
section
variable{s:MS P}{j n:Nat}{x:ba P}{sh:Mu.Sh}
theorem aQ:(s.aP j x sh).w j=x:=by simp[MS.aP]
theorem bU{i:Nat}(h:i≠j):(s.aP j x sh).w i=s.w i:=by simp[MS.aP,h]
theorem Fe:(λi=>((s.aP j x sh).w i).pc)=Mu.set (λi=>(s.w i).pc) j x.pc:=by
 funext i;by_cases h:i=j
 . subst h;rw[aQ,Mu.ao]
 . rw[bU h,Mu.ak _ _ h]
theorem qX(F:ba P->Nat)(a:j<n):sumTo n (λi=>F ((s.aP j x sh).w i))+F (s.w j)=sumTo n (λi=>F (s.w i))+F x:=by
 have e:(λi=>F ((s.aP j x sh).w i))=upd (λi=>F (s.w i)) j (F x):=by
  funext i;by_cases h:i=j
  . subst h;rw[aQ,upd_same]
  . rw[bU h,upd_ne _ _ h]
 rw[e];have:=sumTo_upd (λi=>F (s.w i)) (F x) id a
 simp_all
def ba.work:ba P->Bool
 |.run ..=>true|.lk ..=>true|.un ..=>true|_=>false
theorem bj{x:ba P}(h:x.work=true):x.cnt=1/\x.bT=20/\x.gJ=false/\x.last=false/\x.iI=false/\x.busy=true/\x≠.gone/\x≠.wait/\∀p,x≠.dn p:=by cases x<;>simp_all [ba.work,ba.cnt,ba.bT,ba.gJ,ba.last,ba.iI,ba.busy]
def ba.zE:ba P->Bool
 |.run ..=>true|.lk ..=>true|.un ..=>true|.xi=>true|.dn .d1=>true|.dn .d2=>true|.dn .d4=>true|_=>false
theorem vI{x:ba P}(h:x.zE=true):x.cnt=1/\x.last=false/\x.iI=false/\x≠.gone/\x≠.wait/\∀p,(p=.d5\/p=.d6\/p=.d7)->x≠.dn p:=by
 cases x with
 |dn p=>cases p<;>simp_all [ba.zE,ba.cnt,ba.last,ba.iI]
 |_=>simp_all [ba.zE,ba.cnt,ba.last,ba.iI]
theorem bD.same(I:bD n s)(o:j<n)(q:(s.w j).zE=true)(r:x.zE=true)(t:x.gJ=(s.w j).gJ\/s.d=true)(H:x.ok=true)(u:Mu.Inv n (Mu.set (λi=>(s.w i).pc) j x.pc) sh):bD n (s.aP j x sh):=by
 obtain⟨J,a4,v,K,L,M⟩:=vI q;obtain⟨N,O,z,Q,R,g⟩:=vI r;have m:=qX (s:=s) (x:=x) (sh:=sh) ba.cnt o
 have look:∀{i:Nat}{y:ba P},(s.aP j x sh).w i=y->x≠y->i≠j/\s.w i=y:=λ{i y} h A=>by
  by_cases e:i=j
  . subst e;rw[aQ]at h;simp_all
  . rw[bU e]at h;simp_all
 have back:∀{i:Nat}{y:ba P},s.w i=y->(s.w j)≠y->(s.aP j x sh).w i=y:=λ{i y} h A=>by
  by_cases e:i=j
  . simp_all
  . rw[bU e];exact h
 have b:∀{i:Nat},((s.aP j x sh).w i).last=(s.w i).last:=λ{i}=>by
  by_cases e:i=j
  . grind
  . rw[bU e]
 refine⟨?_,I.g2,I.Jd,λi a h=>?_,λi l a B h f=>?_,λi a h=>?_,⟨I.g5.1,λh=>?_⟩,λh f k=>?_,λh f=>?_,λh=>?_,I.g9,λi a=>?_,I.Qz,I.sp,λi a=>?_,?_,λhd h i a=>?_,by rw[Fe];exact u⟩
 . have:=I.g1
   show s.gc=sumTo n (λi=>((s.aP j x sh).w i).cnt)+s.ms.pend;omega
 . exact I.g3 i a (h.imp (λh=>(look h (g _ (by simp))).2) (λh=>(look h (g _ (by simp))).2))
 . rw[b]at h f;exact I.H6 i l a B h f
 . exact I.g4 i a (look h (g _ (by simp))).2
 . obtain⟨C,D,E,F⟩:=I.g5.2 h
   exact⟨C,D,E,λi a=>by grind⟩
 . obtain⟨i,a,G⟩:=I.g6 h f k
   grind
 . obtain⟨i,a,G⟩:=I.g7 h f
   grind
 . obtain⟨_,_,_,F⟩:=I.g8 h
   simp_all
 . by_cases e:i=j
   . grind
   . rw[bU e];exact I.ok i a
 . by_cases e:i=j
   . subst e
     rw[aQ,z];have:=I.idle i a;rw[v]at this;exact this
   . rw[bU e];exact I.idle i a
 . have:=I.ms
   show match s.ms with
   |.add l=>s.sp+l=n/\s.c=.none
   |.bh l p=>s.sp+l=n/\s.c=.none/\1<=l/\(p=.a0\/p=.a2\/p=.a4\/p=.ae)
   |.spawn l=>s.sp+l+1=n/\s.c=.none
   |.recv=>s.sp=n/\s.c≠.none
   |.parked=>s.sp=n/\s.c≠.none/\s.c≠.gone/\∀i,i<n->(s.aP j x sh).w i≠.wait
   |.off=>s.sp=n/\s.c≠.none
   grind
 . by_cases e:i=j
   . subst e;rw[aQ,t.resolve_right λe=>by have hd:s.d=false:=hd;grind];exact I.early hd h i a
   . rw[bU e];exact I.early hd h i a
theorem yp{x:ba P}(h:x.work=true):x.zE=true:=by cases x<;>simp_all [ba.work,ba.zE]
theorem bD.work(I:bD n s)(c:j<n)(a:(s.w j).work=true)(b:x.work=true)(d:x.ok=true)(e:Mu.Inv n (Mu.set (λi=>(s.w i).pc) j x.pc) sh):bD n (s.aP j x sh):=I.same c (yp a) (yp b) (.inl (by rw[(bj a).2.2.1,(bj b).2.2.1])) d e
theorem Pd(F:ba P->Nat)(a:j<n)(h:F x=F (s.w j)):sumTo n (λi=>F ((s.aP j x sh).w i))=sumTo n (λi=>F (s.w i)):=by have:=qX (s:=s) (x:=x) (sh:=sh) F a;omega
theorem Bq(a:j<n)(b:(s.w j).work=true)(d:x.work=true):(s.aP j x sh).bT n=s.bT n:=by
 have:=Pd (s:=s) (x:=x) (sh:=sh) ba.bT a (by rw[(bj b).2.1,(bj d).2.1]);show s.ms.bT+sumTo n (λi=>((s.aP j x sh).w i).bT)+s.c.bT s.gc=_;rw[this];rfl
theorem zF(a:j<n)(b:(s.w j).work=true)(c:x.work=true)(h:Gf x.nd (s.w j).nd):MS.eU n (s.aP j x sh) s:=.inr ⟨Bq a b c,.inl ⟨j,a,λi d=>by show((s.aP j x sh).w i).nd=_;rw[bU d],by simp only[aQ];exact h⟩⟩
theorem uE(a:j<n)(b:(s.w j).work=true)(c:x.work=true)(h:x.nd=(s.w j).nd)(d:4*Mu.meas n (Mu.set (λi=>(s.w i).pc) j x.pc) sh+x.ex n<4*Mu.meas n (λi=>(s.w i).pc) s.sh+(s.w j).ex n):MS.eU n (s.aP j x sh) s:=by
 refine .inr ⟨Bq a b c,.inr ⟨?_,?_⟩⟩
 . funext i
   by_cases e:i=j
   . subst e;rw[aQ];exact h
   . rw[bU e]
 . have:=qX (s:=s) (x:=x) (sh:=sh) (ba.ex n) a
   show 4*Mu.meas n (λi=>((s.aP j x sh).w i).pc) sh+sumTo n (λi=>((s.aP j x sh).w i).ex n)<4*Mu.meas n (λi=>(s.w i).pc) s.sh+sumTo n (λi=>(s.w i).ex n);rw[Fe];omega
theorem Ff(I:bD n s)(a:j<n)(b:(s.w j).work=true)(c:x.work=true)(h:x.nd=(s.w j).nd)(d:(x.pc,sh)∈Mu.mv (s.w j).pc s.sh)(e:x.ex n<=3):MS.eU n (s.aP j x sh) s:=by
 have:=(Mu.F1 (pcs:=λi=>(s.w i).pc) a (I.mu.j0 j a) d).1;exact uE a b c h (by omega)
theorem bD.mv(I:bD n s)(a:j<n)(b:(s.w j).work=true)(c:x.work=true)(d:x.ok=true)(e:(x.pc,sh)∈Mu.mv (s.w j).pc s.sh):bD n (s.aP j x sh):=I.work a b c d (I.mu.step a e)
theorem iK(pcs:Nat->Mu.Pc)(i:Nat):Mu.set pcs i (pcs i)=pcs:=by
 funext l;by_cases e:l=i
 . subst e;exact Mu.ao _ _ _
 . exact Mu.ak _ _ e
theorem kR(a:j<n)(b:(s.w j).work=true)(c:x.work=true)(h:x.nd=(s.w j).nd)(d:x.pc=(s.w j).pc)(e:x.ex n<(s.w j).ex n):MS.eU n (s.aP j x s.sh) s:=by
 refine uE a b c h ?_;rw[d,iK (λi=>(s.w i).pc)];omega
theorem bD.still(I:bD n s)(a:j<n)(b:(s.w j).work=true)(c:x.work=true)(d:x.ok=true)(e:x.pc=(s.w j).pc):bD n (s.aP j x s.sh):=I.work a b c d (by rw[e,iK (λi=>(s.w i).pc)];exact I.mu)
theorem eP(F:Mu.Pc->Nat){pcs:Nat->Mu.Pc}{i:Nat}(a:pcs i=.out)(h:F .fZ=F .out):(λl=>F (Mu.set pcs i .fZ l))=λl=>F (pcs l):=by
 funext l;by_cases e:l=i
 . subst e;rw[Mu.ao,a,h]
 . rw[Mu.ak _ _ e]
theorem MV{n:Nat}{pcs:Nat->Mu.Pc}{s:Mu.Sh}{i:Nat}(h:Mu.Inv n pcs s)(a:pcs i=.out):Mu.Inv n (Mu.set pcs i .fZ) s:=by
 obtain⟨⟨m,c,d,f,g⟩,j,o⟩:=h;refine⟨⟨λl k=>?_,?_,?_,?_,?_⟩,j,λl k old sv b=>?_⟩
 . by_cases e:l=i
   . subst e;rw[Mu.ao];trivial
   . rw[Mu.ak _ _ e];grind
 . rw[eP Mu.bO a rfl];exact c
 . rw[eP Mu.eE a rfl,eP Mu.ck a rfl,eP Mu.lZ a rfl,eP Mu.cO a rfl,eP Mu.cj a rfl];exact d
 . rw[eP Mu.eE a rfl,eP Mu.ck a rfl,eP Mu.lZ a rfl,eP Mu.cO a rfl,eP Mu.cj a rfl];exact f
 . rw[eP Mu.ga a rfl];exact g
 . by_cases e:l=i
   . subst e;rw[Mu.ao]at b;cases b
   . rw[Mu.ak _ _ e]at b;grind
theorem Br{n:Nat}{pcs:Nat->Mu.Pc}{s:Mu.Sh}{i:Nat}(a:i<n)(b:pcs i=.out):Mu.meas n (Mu.set pcs i .fZ) s=Mu.meas n pcs s+(6*(18*n+1)+16):=by
 have C:=Mu.eX Mu.fB pcs i .fZ a;have R:=Mu.eX (Mu.iS s.w) pcs i .fZ a;rw[b]at C R;have c:Mu.fB .out=0:=rfl;have d:Mu.fB .fZ=6:=rfl;have e:Mu.iS s.w .out=0:=rfl;have f:Mu.iS s.w .fZ=16:=rfl;rw[c,d]at C;rw[e,f]at R;have g:Mu.phi n (Mu.set pcs i .fZ) s=Mu.phi n pcs s+6:=by unfold Mu.phi;omega
 unfold Mu.meas
 grind
theorem Jf(a:j<n)(b:(s.w j).work=true)(c:x.work=true)(h:x.nd=(s.w j).nd)(d:(s.w j).pc=.out)(e:x.pc=.fZ)(f:(s.w j).ex n=zC n)(g:x.ex n=0):MS.eU n (s.aP j x s.sh) s:=by refine uE a b c h ?_;rw[e,Br a d,f,g];unfold zC;omega
theorem bD.Vh(I:bD n s)(a:j<n)(b:(s.w j).work=true)(c:x.work=true)(d:x.ok=true)(e:(s.w j).pc=.out)(f:x.pc=.fZ):bD n (s.aP j x s.sh):=I.work a b c d (by rw[f];exact MV I.mu e)
end
end Go.bu
namespace Go.bu
open Go.Conc
open Go.ConcN (sumTo upd sumTo_upd upd_ne upd_same)
section
variable{P:Program}{A:pH P}{Z:Base}{s s':A.S}{f f':Nat->Node P}{q q':Nat->Nat}{kk kk':Nat->ai}{OO OO':Nat->aj}{J J' M M':Nat->Prop}{gs:Array Goroutine}{w w':World}{t u:Trace}{i:Nat}{g g1:Goroutine}
structure Beside(A:pH P)(s s':A.S)(f f':Nat->Node P)(q q':Nat->Nat)(kk kk':Nat->ai)(OO OO':Nat->aj)(J J':Nat->Prop)(w':World)(i:Nat)(g g1:Goroutine):Prop where
 ef:∀j,j≠i->f' j=f j
 eq:∀j,j≠i->q' j=q j
 ek:∀j,j≠i->j<A.top->kk' j=kk j
 eO:∀j,j≠i->j<A.top->OO' j=OO j
 eJ:∀j,j≠i->A.Live s j->J j->J' j
 live:∀j,j≠i->(A.Live s' j↔A.Live s j)
 walk:∀j,j≠i->(A.Walk s' j↔A.Walk s j)
 held:∀j,j≠i->(A.mZ s' j↔A.mZ s j)
 mo:∀j,j≠i->A.Live s j->A.mo s' j=A.mo s j
 at':∀j k O x,j≠i->A.Walk s j->A.At s j k O x->A.At s' j k O x
 deaf:∀j,j≠i->A.Walk s j->A.deaf s' j=A.deaf s j
 yh:∀j,j≠i->A.Walk s j->A.yh s j->A.yh s' j\/∀x,A.At s j (kk j) (OO j) x->woken P g g1 w' (blk x)=x
 QB:∀j k O x,j≠i->A.mZ s j->A.Db s j k O x->A.Db s' j k O x
 tie:∀j x,j≠i->A.Live s j->A.ME s j x->A.ME s' j x
structure Self(P:Program)(A:pH P)(s':A.S)(f':Nat->Node P)(q':Nat->Nat)(kk':Nat->ai)(OO':Nat->aj)(J':Nat->Prop)(t':Trace)(i:Nat)(g1:Goroutine):Prop where
 live:A.Live s' i->i<A.top/\g1=(f' i).g/\(f' i).m=A.mo s' i/\(f' i).k=kk' i/\(f' i).O=OO' i/\(f' i).g.status=.running/\Deaf t' i=0/\(i=0\/J' i)/\A.ME s' i (f' i)
 walk:A.Walk s' i -> ¬A.Live s' i/\i<A.top/\Deaf t' i=A.deaf s' i/\∃g',A.At s' i (kk' i) (OO' i) g'/\IN P A.Wd (A.yh s' i) (q' i) g1 g'
 held:A.mZ s' i -> ¬A.Live s' i/\¬A.Walk s' i/\i<A.top/\Deaf t' i=0/\g1.status=.blocked/\A.Db s' i (kk' i) (OO' i) g1
 rest:¬A.Live s' i -> ¬A.Walk s' i -> ¬A.mZ s' i->i≠0/\QuitsD P (q' i) (Deaf t' i) g1
theorem bn.step(B:yi A)(v:bn A Z s f q kk OO J M gs w t)(U:gs[i]?=some g)(C:∀op∈u,op.g=i)(V:bX Z kk' OO' J' M' w' (t++u))(W:A.Ex s' kk' OO' J' M' gs.size w' (t++u))
 (X:∀j x,A.mZ s j->A.Db s j (kk j) (OO j) x->x.again w'=x) (hb:Beside A s s' f f' q q' kk kk' OO OO' J J' w' i g g1) (E:Self P A s' f' q' kk' OO' J' (t++u) i g1):
 bn A Z s' f' q' kk' OO' J' M' ((gs.map (woken P g g1 w')).setIfInBounds i g1) w' (t++u):=by
 have Y:i<gs.size:=(Array.getElem?_eq_some_iff.1 U).1;have F:=v.MF B (i:=i) (a:=g) (a':=g1) (x:=g1) (w':=w') X;have p:((gs.map (woken P g g1 w')).setIfInBounds i g1)[i]?=some g1:=Array.getElem?_setIfInBounds_self_of_lt (by simp_all)
 have G:∀j,j≠i->Deaf (t++u) j=Deaf t j:=λj d=>Deaf_other t (Ne.symm d) _ C
 refine⟨v.lk,V,λj d=>?_,λj d=>?_,λj d=>?_,λj x I N O Q=>?_,λj d=>?_,by simp_all⟩
 . by_cases e:j=i
   . subst e
     obtain⟨l,n,m⟩:=E.live d
     simp_all
   . have b:=(hb.live j e).1 d
     obtain⟨l,n,pm,m,D,z,r,R⟩:=v.live j b;rw[hb.ef j e,hb.ek j e l,hb.eO j e l,G j e,hb.mo j e b];exact⟨l,F.live j e b,pm,m,D,z,r,R.1.imp id (hb.eJ j e b),hb.tie j _ e b R.2⟩
 . by_cases e:j=i
   . subst e
     obtain⟨l,n,m,g',D,z⟩:=E.walk d
     grind
   . have b:=(hb.walk j e).1 d
     obtain⟨l,n,m,x,x',D,z,r⟩:=v.walk j b;refine⟨λh=>l ((hb.live j e).1 h),n,by rw[G j e,hb.deaf j e b];exact m,?_⟩
     rw[hb.ek j e n,hb.eO j e n,hb.eq j e];obtain⟨y,y',o,K,r3⟩:=F.walk j e b
     by_cases hd:∃x,A.yh s j/\y=blk x/\A.At s j (kk j) (OO j) x/\q j=0
     . obtain⟨x0,S,H,d3,d4⟩:=hd
       rcases hb.yh j e b S with h|h
       . exact⟨y,x0,o,hb.at' j _ _ _ e b d3,.inl ⟨h,H,d4⟩⟩
       ·
        have c:((gs.map (woken P g g1 w')).setIfInBounds i g1)[j]?=some (woken P g g1 w' x):=by grind
        obtain⟨T,a2⟩:=B.jS z
        rcases r with⟨_,rfl,_⟩|r
        . rw[h _ z]at c
          rw[c]at o;have:=Option.some.inj o;rw[H]at this;have k:x'.status=.blocked:=by rw[this];rfl
          simp_all
        . rw[woken_run (r.first T)]at c
          rw[c]at o;have hh:=Option.some.inj o;have k:x.status=.blocked:=by rw[hh,H];rfl
          rw[r.first T]at k;cases k
     . rcases r3 with⟨S,rfl,H⟩|r3
       . simp_all
       . exact⟨y,y',o,hb.at' j _ _ _ e b K,.inr r3⟩
 . by_cases e:j=i
   . subst e
     obtain⟨l,n,m,D,z,r⟩:=E.held d
     simp_all
   . have b:=(hb.held j e).1 d
     obtain⟨l,n,m,D,_⟩:=v.held j b;obtain⟨x,o,K,r3⟩:=F.held j e b;refine⟨λh=>l ((hb.live j e).1 h),λh=>n ((hb.walk j e).1 h),m,by simp_all,x,o,K,?_⟩
     rw[hb.ek j e m,hb.eO j e m];exact hb.QB j _ _ _ e b r3
 . by_cases e:j=i
   . subst e
     rw[p]at I;obtain rfl:=Option.some.inj I;exact E.rest N O Q
   . rw[hb.eq j e,G j e]
     exact F.rest j x e I (λh=>N ((hb.live j e).2 h)) (λh=>O ((hb.walk j e).2 h)) (λh=>Q ((hb.held j e).2 h))
 . have L:gs.size<=j:=by simp_all
   rw[G j (by omega)];exact v.above j L
end
theorem knows_own{t u:Trace}{i m:Nat}{op:MemOp}(h:u[m]?=some op)(a:op.g=i):Knows (t++u) i (t.size+m):=⟨t.size+m,op,cX h,a,.inl rfl⟩
section
variable{Z:Base}{kk:Nat->ai}{OO:Nat->aj}{J M:Nat->Prop}{w w':World}{t u:Trace}{i:Nat}
def zI(kk:Nat->ai)(OO:Nat->aj)(B:Nat)(t:Trace)(i:Nat)(u:Trace):Prop:=∀op∈u,∀a,op.act.touch?=some a->a.kind=.atomic/\(a.loc.isMemory=true->ID kk OO B a.loc)/\∀n b,touchAt t n=some b->b.loc=a.loc->b.kind=.plain->Knows t i n
theorem bX.Oe(h:bX Z kk OO J M w t)(d:∀op∈u,op.g=i)(y:w'.heap.size=w.heap.size)(z:Calm Z w w')(hb:∀b,Kept kk OO w w' b)(A:∀op∈u,op.act.low w.heap.size)(q:zI kk OO w.heap.size t i u)
 (l:∀m op a,u[m]?=some op->op.act.touch?=some a->a.loc.isMemory=true->Told Z J M (t++u) (t.size+m) a):bX Z kk OO J M w' (t++u):=
 h.r9 (λa b=>a=b) y z hb A (λa b e n x _ _ _ B=>by subst e;exact B.app u) (λj b n v h=>⟨j,rfl,h⟩) (λj b s h=>⟨j,rfl,h⟩) (λj b x h=>⟨j,rfl,h,λ_ h=>h⟩) h.iF
  (fun said=>noRace_append (h.clean said) d λn a o op c b hb C=>by
    obtain⟨f,k,D⟩:=q op c b hb;obtain⟨E,_,_,F⟩:=C
    simp_all)
  (λop c a o r=>(q op c a o).2.1 r) l
  (λn a o r h=>h.elim (λ⟨j,f,k⟩=>.inr (.inl ⟨j,f,k.app _⟩)) (λ⟨p,f,k⟩=>.inr (.inr (.inl ⟨p,f,k.app _⟩))))
theorem bX.sync(h:bX Z kk OO J M w t)(hJ:i=0\/J i)(c:∀op∈u,op.g=i)(f:w'.heap.size=w.heap.size)(j:Calm Z w w')(hb:∀b,Kept kk OO w w' b)(k:∀op∈u,op.act.low w.heap.size)(l:zI kk OO w.heap.size t i u):bX Z kk OO J M w' (t++u):=
 h.Oe c f j hb k l λm op a d n o=>by
  have e:Knows (t++u) i (t.size+m):=knows_own d (c op (Array.mem_of_getElem? d));rcases hJ with rfl|hJ
  . exact .inl e
  . exact .inr (.inl ⟨i,hJ,e⟩)
end
section
variable{P:Program}{A:bt}{Z:Base}{s:MS P}{kk:Nat->ai}{OO:Nat->aj}{J M:Nat->Prop}{gsz:Nat}{w w':World}{t u:Trace}{j:Nat}{x:ba P}{sh:Mu.Sh}
theorem na(a:j<A.n)(h:x.busy=(s.w j).busy)(i:Nat):dF P A (s.aP j x sh) i↔dF P A s i:=by
 have:∀l,((s.aP j x sh).w l).busy=(s.w l).busy:=λl=>by
  by_cases e:l=j
  . subst e;rw[aQ,h]
  . rw[bU e]
 unfold dF;simp only[this];rfl
theorem Jg{a:Touch}{l:Nat}{ad:Addr}(h:xj A a.loc)(e:a.loc=.cell ad)(b:ad.block=A.fb/\ad.off=A.cell l):False:=by rw[e]at h;obtain⟨_,h⟩:=h;have:=A.d4;rw[b.1,b.2]at h;unfold bt.cell at h;omega
theorem cI.Dn(h:cI P A Z s kk OO J M gsz w t){s':MS P}(d:A.dir=true->∀l,l<A.n->(s'.w l).gh=(s.w l).gh/\(s'.w l).owns=(s.w l).owns)(p:∀op∈u,∀a,op.act.touch?=some a->xj A a.loc):
 A.dir=true->∀j,j<A.n->((s'.w j).gh=false->(∀i,(kk i).cell A.fb (A.cell j)=none)/\∀m a ad,touchAt (t++u) m=some a->a.loc=.cell ad->ad.block=A.fb/\ad.off=A.cell j->m<Z.N0)/\((s'.w j).rel=true->(kk (A.b+j)).cell A.fb (A.cell j)=some (A.val j)):=λhd l c=>by
 obtain⟨q,r⟩:=d hd l c;rw[ba.rel,q,r];exact⟨λk=>⟨((h.xk hd l c).1 k).1,λm a ad v e o=>(dB v).elim (λf=>((h.xk hd l c).1 k).2 m a ad f.1 e o) (λ⟨op,g,f⟩=>(Jg (p op g a f) e o).elim)⟩,(h.xk hd l c).2⟩
theorem cI.vJ(h:cI P A Z s kk OO J M gsz w t)(E:j<A.n)(k:x.busy=(s.w j).busy)(F:x.owns=(s.w j).owns)(o:A.dir=true->x.gh=(s.w j).gh)(G:bD A.n (s.aP j x sh))(p:ShM A.fb A.fo w' sh)
 (d:∀b,b≠A.fb->w'.heap[b]?=w.heap[b]?) (q:∃c e,w'.heap[A.fb]?=some (.cells c e (0,0))) (z:∀op∈u,(∀a,op.act.touch?=some a->a.kind=.atomic/\xj A a.loc)/\∀a,op.act≠.mark (.release a)):
 cI P A Z (s.aP j x sh) kk OO J M gsz w' (t++u):=by
 have m:∀l,((s.aP j x sh).w l).owns=(s.w l).owns:=λl=>by
  by_cases e:l=j
  . subst e;rw[aQ,F]
  . rw[bU e]
 refine⟨G,h.size,h.dd,h.off,h.Dn (λhd l _=>⟨?_,m l⟩) (λop g a r=>((z op g).1 a r).2),λhd=>by rw[d _ A.d1];exact h.yn hd,p,h.gr.same (.of_heap (d _ (Ne.symm A.d4))),q,by rw[d _ (Ne.symm A.d4)];exact h.xC,h.fe,h.dM,λi y H=>?_,λl B v=>h.xD l B (by simp_all),λv=>h.Mf λl B=>by simp_all,λc I=>?_,
  λi=>by rw[h.hJ i];exact(na E k i).symm,h.tB u,h.lG u,h.jB u (λop g a r _ K=>?_),h.m9 u (λop g a r _ K=>?_),h.oc u,h.iJ u (λop g=>(z op g).2),h.Bo,h.qN,h.jh,h.dY,h.la,by simp;exact Nat.le_trans h.n0 (Nat.le_add_right _ _)⟩
 . by_cases e:l=j
   . subst e;rw[aQ,o hd]
   . rw[bU e]
 . obtain⟨l,f,C,D,N,L⟩:=h.tok i y H
   exact⟨l,f,C,D,by simp_all,L⟩
 . obtain⟨C,D⟩:=h.Mg c I
   simp_all
 . grind
 grind
theorem cI.work(h:cI P A Z s kk OO J M gsz w t)(k:j<A.n)(l:(s.w j).work=true)(m:x.work=true)(o:x.owns=(s.w j).owns)(f:A.dir=true->x.gh=(s.w j).gh)(p:bD A.n (s.aP j x sh))(g:ShM A.fb A.fo w' sh)
 (d:∀b,b≠A.fb->w'.heap[b]?=w.heap[b]?) (i:∃c e,w'.heap[A.fb]?=some (.cells c e (0,0))) (q:∀op∈u,(∀a,op.act.touch?=some a->a.kind=.atomic/\xj A a.loc)/\∀a,op.act≠.mark (.release a)):
 cI P A Z (s.aP j x sh) kk OO J M gsz w' (t++u):=
 h.vJ k (by rw[(bj l).2.2.2.2.2.1,(bj m).2.2.2.2.2.1]) o f p g d i q
end
end Go.bu

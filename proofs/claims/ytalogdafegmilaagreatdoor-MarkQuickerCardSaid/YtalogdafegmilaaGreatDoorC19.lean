/- Part 19 of the proof. -/
import Derived.Conc.CrowdComm
import Derived.Test.YtalogdafegmilaaGreatDoorC18
set_option linter.all false
namespace Go.aN
open Go.Conc
open Go.ConcN (sumTo upd sumTo_upd upd_ne upd_same)
structure dM where
 b:Nat
 n:Nat
 cF:Nat
 fb:Nat
 fo:Nat
 gb:Nat
 mb:Nat
 GI:jy->Prop
 res:Nat->AV
 nm:xp
 ng:Gj
 hb:0<b
 hn:n<=900
 d1:cF≠fb
 d2:cF≠gb
 d3:cF≠mb
 d4:fb≠gb
 d5:fb≠mb
 d6:gb≠mb
def iG:ag->ah->Goroutine->Prop:=λ_ _ _=>False
def q9:Nat->Option Value:=λ_=>none
def bC(fo:Nat):Nat->Option Value:=λi=>if i=fo then some (.int .i32 0)else if i=fo+1 then some (.int .u32 0)else none
section
variable(P:Program)(A:dM)(Fin:ag->ah->Goroutine->Prop)
def Ll(k:ag)(O:ah)(g:Goroutine)(N:ag->ah->Goroutine->Prop):Prop:=
 ∃ kind c rest e,kind≠.early/\g=G (Frame.enter P A.nm.lock #[.pointer (some ⟨A.fb,A.fo,none⟩)] kind) (c::rest)/\O A.fb=none/\k.sh A.fb=some e/\
   ∀k' x a,k.Le k'->lc k' x a->A.GI a->O A.mb=none->N k' ((O.set A.mb x).set A.fb (.part q9)) (jT kind c rest (.tuple #[]))
def DL(k:ag)(O:ah)(g:Goroutine)(N:ag->ah->Goroutine->Prop):Prop:=
 ∃ kind c rest f x a,kind≠.early/\g=G (Frame.enter P A.nm.unlock #[.pointer (some ⟨A.fb,A.fo,none⟩)] kind) (c::rest)/\O A.fb=some (.part f)/\O A.mb=some x/\lc k x a/\A.GI a/\
   N k ((O.del A.mb).del A.fb) (jT kind c rest (.tuple #[]))
def pg:Mo:=⟨false,false,λk O g N=>N=iG/\∃fw fn tmps todo,P.funcs[fw]?=some fn/\fn.results=#[]/\g=G (Frame.enter P A.ng.done #[.pointer (some ⟨A.gb,0,none⟩)] .deferred) [jX P fw tmps todo,cR P]⟩
def kh(j:Nat):Mo:=⟨false,false,λk O g N=>Ll P A k O g N\/DL P A k O g N\/(N=iG/\O A.fb=none/\∃g₂ z v,(∀w,Sat k O w->stepG P false g w=.comm g₂ #[scase A.cF v z] true .send w #[])/\V k v (A.res j)/\T P (pg P A) iG k O (Go.Conc.served g₂ undef))⟩
def qh:Mo:=⟨false,false,λk O g N=>N=iG/\∃g' n,mayWake P g=true/\(∀w s r tm,Sat k O w->w.heap[A.cF]?=some (.chan 0 #[] false s r tm)->stepG P false g w=.go g' {w with heap:=w.heap.setIfInBounds A.cF (.chan 0 #[] true s r tm)} #[⟨.obj A.cF,false,true⟩,⟨.obj A.cF,true,true⟩])/\QuitsD P n 0 g'⟩
def vk:Mo:=⟨false,false,λk O g N=>N=iG/\∃c rest,g=G (Frame.enter P A.ng.wait #[.pointer (some ⟨A.gb,0,none⟩)] .normal) (c::rest)/\∀k',k.Le k'->T P (qh P A) iG k' O (jT .normal c rest (.tuple #[]))⟩
def dq(k:ag)(O:ah)(g g₂:Goroutine)(z:Value):Prop:=∀w,Sat k O w->stepG P true g w=.comm g₂ #[rcase A.cF z] true (.recv true) w #[]
def pC:Nat->List Nat->Mo
 | 0,R=>⟨true,false,λk O g N=>N=iG/\∃g₂ z,dq P A k O g g₂ z/\dq P A k O g₂ g₂ z/\g₂.status=.running/\(∃e,k.sh A.fb=some e)/\
    ∀k' x a,k.Le k'->lc k' x a->A.GI a->Fin k' ((O.set A.mb x).set A.fb (.part (bC A.fo))) (Go.Conc.served g₂ (.tuple #[z,.bool false]))⟩
 | m + 1,R=>⟨true,false,λk O g N=>N=iG/\∃g₂ z,dq P A k O g g₂ z/\dq P A k O g₂ g₂ z/\g₂.status=.running/\
     ∀j∈R,∀k' v,k.Le k'->V k' v (A.res j)->T P (pC m (R.erase j)) iG k' O (Go.Conc.served g₂ (.tuple #[v,.bool true]))⟩
def xr:Nat->Mo
 |0=>⟨true,false,λk O g N=>N=iG/\∃g' child,(∀w,Sat k O w->stepG P true g w=.spawn g' child w #[])/\T P (vk P A) iG k ah.bot child/\T P (pC P A Fin A.n (List.range A.n)) iG k O g'⟩
 | m + 1=>⟨true,false,λk O g N=>N=iG/\∃c rest,g=G (Frame.enter P A.ng.add #[.pointer (some ⟨A.gb,0,none⟩),.int .i64 1] .normal) (c::rest)/\
     T P ⟨true,false,λk O g N=>N=iG/\∃g' child,(∀w,Sat k O w->stepG P true g w=.spawn g' child w #[])/\T P (kh P A (A.n-(m+1))) iG k ah.bot child/\T P (xr m) iG k O g'⟩ iG k O (jT .normal c rest (.tuple #[]))⟩
def DM(m:Nat):Mo:=⟨true,false,λk O g N=>N=iG/\∃g' child,(∀w,Sat k O w->stepG P true g w=.spawn g' child w #[])/\T P (kh P A (A.n-(m+1))) iG k ah.bot child/\T P (xr P A Fin m) iG k O g'⟩
structure vl where
 m:Mo
 k:ag
 O:ah
 g:Goroutine
 N:ag->ah->Goroutine->Prop
 h0:g.status=.running
 ht:m.dc k O g N
 c:∀k' O' g',N k' O' g'->TT P m k' O' g'
variable {P} in
def vl.node(y:vl P):Node P:=⟨y.m,y.k,y.O,y.g,.dc y.N y.h0 y.ht y.c⟩
inductive be where
 |idle
 |run (h:Bool) (X:Node P)
 |lk (p:qW) (Y:vl P)
 |un (p:qW) (Y:vl P)
 |wait
 |xu
 |dn (p:t9)
 |gone
inductive jh where
 |none|er|wt (p:t9)|jI|gone
inductive nG where
 |add (j:Nat)|bj (j:Nat) (p:t9)|spawn (j:Nat)|recv|parked
structure MS where
 ms:nG
 sp:Nat
 w:Nat->be P
 c:jh
 sh:Mu.Sh
 gc:Nat
 gv:Nat
 gm:Nat
def qW.abs:qW->Mu.Pc
 |.ld=>.out|.gx=>.gx|.rd l=>.rd l|.sq o l=>.sq o l|.sw o l=>.sw o l|.jS o l=>.jS o l|.t1 sv=>.fN sv|.fN sv=>.fN sv|.tq=>.tq|.up sv=>.up sv|.add o sv=>.add o sv
 |.le=>.held|.la=>.held|.back=>.held|.Dy=>.held|.ur=>.held|.ud=>.held|.held=>.held|.iC o=>.iC o|.tF=>.tF|.give=>.give|.ue=>.out|.Az=>.out
variable{P}
def be.pc:be P->Mu.Pc
 |.run true _=>.held
 |.lk p _=>p.abs
 |.un p _=>p.abs
 |_=>.out
def be.owns:be P->Bool
 |.run h _=>h
 |.un .Dy _=>true
 |.un .ur _=>true
 |_=>false
def AB:qW->Bool
 |.ld=>true|.gx=>true|.rd _=>true|.sq ..=>true|.sw ..=>true|.jS ..=>true|.t1 _=>true|.fN _=>true|.tq=>true|.up _=>true|.add ..=>true|.le=>true|.la=>true
 |_=>false
def wu:qW->Bool
 |.Dy=>true|.ur=>true|.ud=>true|.held=>true|.iC _=>true|.tF=>true|.give=>true|.ue=>true
 |_=>false
def be.deaf:be P->Nat
 |.lk .ld _=>0|.lk .la _=>0|.lk _ _=>1
 |.un .Dy _=>0|.un .ur _=>0|.un .ud _=>0|.un _ _=>1
 |.dn .d1=>0|.dn .d2=>0|.dn _=>1
 |_=>0
def th:t9->Nat
 |.a0=>0|.a2=>1|.a4=>1|.ae=>1
 |.w0=>0|.w1=>1|.we=>1|.wa=>0|.w2 _=>1|.w3=>1|.w4=>1|.w5=>1
 |_=>0
def be.cz:be P->Nat
 |.idle=>0|.run ..=>20|.lk ..=>20|.un ..=>20|.wait=>19|.xu=>18
 |.dn .d1=>12|.dn .d2=>11|.dn .d4=>10|.dn .d5=>4|.dn .d6=>3|.dn _=>2|.gone=>0
def jh.cz(gc:Nat):jh->Nat
 |.none=>0|.er=>14
 |.wt .w0=>13|.wt .w1=>10|.wt (.w2 k)=>if gc=k then 9 else 11|.wt .w3=>8|.wt .w4=>7|.wt .w5=>6|.wt .we=>5|.wt _=>4
 |.jI=>3|.gone=>0
def nG.cz:nG->Nat
 |.add j=>40*j+200|.bj j .a0=>40*j+199|.bj j .a2=>40*j+198|.bj j .a4=>40*j+197|.bj j _=>40*j+196
 |.spawn j=>40*j+225|.recv=>100|.parked=>99
def MS.cz(n:Nat)(s:MS P):Nat:=s.ms.cz+sumTo n (λj=>(s.w j).cz)+s.c.cz s.gc
def yM(n:Nat):Nat:=4*(6*(18*n+1)+16)+20
def be.ex(n:Nat):be P->Nat
 |.run ..=>2*yM n|.lk .ld _=>yM n|.lk (.t1 _) _=>1|.lk .le _=>2|.lk .la _=>1
 |.un .Dy _=>5|.un .ur _=>4|.un .ud _=>3|.un .ue _=>1|_=>0
def MS.inner(n:Nat)(s:MS P):Nat:=4*Mu.meas n (λj=>(s.w j).pc) s.sh+sumTo n (λj=>(s.w j).ex n)
def be.nd:be P->Option (Node P)
 |.run _ X=>some X|.lk _ Y=>some Y.node|.un _ Y=>some Y.node|_=>none
end
def EQ{P:Program}(a b:Option (Node P)):Prop:=∃x y,a=some x/\b=some y/\Relation.TransGen nF x y
theorem Hl{P:Program}:∀a:Option (Node P),Acc EQ a:=by
 have key:∀x:Node P,Acc (Relation.TransGen nF) x->Acc EQ (some x):=by
  intro x hx;induction hx with
  |intro x _ ih=>exact⟨_,λy ⟨u,v,e1,e2,h⟩=>by subst e1;cases e2;exact ih u h⟩
 intro a;cases a with
 |none=>exact⟨_,λy ⟨u,v,_,e,_⟩=>by cases e⟩
 |some x=>exact key x ((WellFounded.intro As).transGen.apply x)
def Hm{α:Type}(R:α->α->Prop)(n:Nat)(f' f:Nat->α):Prop:=∃i,i<n/\(∀j,j≠i->f' j=f j)/\R (f' i) (f i)
theorem AC{α:Type}{R:α->α->Prop}(hR:∀a,Acc R a):∀(n:Nat) (f:Nat->α),Acc (Hm R n) f
 |0,f=>⟨_,λy ⟨i,hi,_⟩=>by omega⟩
 | n + 1,f=>by
   have key:∀x:α,Acc R x->∀f:Nat->α,f n=x->Acc (Hm R (n+1)) f:=by
    intro x hx;induction hx with
    | intro x _ ihx=>
      intro f hf;have hn:=AC hR n f;induction hn with
      | intro f _ ihf=>
        refine⟨_,λf' ⟨i,hi,hne,hs⟩=>?_⟩;by_cases hin:i=n
        . subst hin
          rw[hf]at hs;exact ihx (f' i) hs f' rfl
        . exact ihf f' ⟨i,by omega,hne,hs⟩ (by rw[hne n (λe=>hin e.symm)];exact hf)
   exact key (f n) (hR _) f rfl
def MS.fX{P:Program}(n:Nat)(s' s:MS P):Prop:=s'.cz n<s.cz n\/(s'.cz n=s.cz n/\(Hm EQ n (λj=>(s'.w j).nd) (λj=>(s.w j).nd)\/((λj=>(s'.w j).nd)=(λj=>(s.w j).nd)/\s'.inner n<s.inner n)))
theorem Kb{P:Program}(n:Nat):WellFounded (MS.fX (P:=P) n):=by
 have h1:WellFounded (Hm (EQ (P:=P)) n):=⟨AC Hl n⟩;have h2:=(Prod.lex ⟨Nat.lt,Nat.lt_wfRel.wf⟩ (Prod.lex ⟨Hm (EQ (P:=P)) n,h1⟩ ⟨Nat.lt,Nat.lt_wfRel.wf⟩)).wf;refine Subrelation.wf (r:=InvImage _ (λs:MS P=>(s.cz n,(λj=>(s.w j).nd),s.inner n))) ?_ (InvImage.wf _ h2);intro s' s h;rcases h with h|⟨h,h'|⟨h',h''⟩⟩
 . exact Prod.Lex.left _ _ h
 . show Prod.Lex _ _ (_,_) (_,_)
   rw[h];exact Prod.Lex.right _ (Prod.Lex.left _ _ h')
 . show Prod.Lex _ _ (_,_) (_,_)
   rw[h,h'];exact Prod.Lex.right _ (Prod.Lex.right _ h'')
end Go.aN
namespace Go.aN
open Go.Conc
open Go.ConcN (sumTo upd sumTo_upd upd_ne upd_same)
section
variable{P:Program}
def be.gz:be P->Bool
 |.xu=>true|.dn _=>true|.gone=>true|_=>false
def be.cnt:be P->Nat
 |.run ..=>1|.lk ..=>1|.un ..=>1|.wait=>1|.xu=>1|.dn .d1=>1|.dn .d2=>1|.dn .d4=>1|_=>0
def be.busy:be P->Bool
 |.run ..=>true|.lk ..=>true|.un ..=>true|.wait=>true|.xu=>true|.dn .d1=>true|_=>false
def be.last:be P->Bool
 |.dn .d5=>true|.dn .d6=>true|.dn .d7=>true|_=>false
def be.iW:be P->Bool
 |.idle=>true|_=>false
def be.ok:be P->Bool
 |.lk p _=>AB p
 |.un p _=>wu p
 |.dn p=>(match p with|.d1=>true|.d2=>true|.d4=>true|.d5=>true|.d6=>true|.d7=>true|_=>false)
 |_=>true
def jh.busy:jh->Bool
 |.er=>true|.wt _=>true|.jI=>true|_=>false
def jh.ok:jh->Bool
 |.wt p=>(match p with|.w0=>true|.w1=>true|.w2 _=>true|.w3=>true|.w4=>true|.w5=>true|.we=>true|.wa=>true|_=>false)
 |_=>true
def jh.waits:jh->Bool
 |.wt .w3=>true|.wt .w4=>true|_=>false
def jh.Hn:jh->Bool
 |.wt .w5=>true|.wt .we=>true|.wt .wa=>true|.jI=>true|.gone=>true|_=>false
def jh.isNone:jh->Bool
 |.none=>true|_=>false
def jh.dP:jh->Bool
 |.gone=>true|_=>false
def nG.pend:nG->Nat
 |.bj _ .a4=>1|.bj _ .ae=>1|.spawn _=>1|_=>0
structure bD(n:Nat)(s:MS P):Prop where
 g1:s.gc=sumTo n (λj=>(s.w j).cnt)+s.ms.pend
 g2:s.gv<=1
 ns:s.gv=1->s.c.waits=true/\s.gm=0
 g3:∀j,j<n->(s.w j=.dn .d5\/s.w j=.dn .d6)->s.gv=1/\s.gc=0
 tE:∀i j,i<n->j<n->(s.w i).last=true->(s.w j).last=true->i=j
 g4:∀j,j<n->s.w j=.dn .d7->s.gv=0/\s.gc=0/\s.gm=0/\s.c.waits=true
 g5:s.gm<=1/\(s.gm=1->s.c.waits=true/\s.gv=0/\s.gc=0/\∀j,j<n->(s.w j).last=false)
 g6:s.c.waits=true->s.gv=0->s.gm=0->∃j,j<n/\s.w j=.dn .d7
 g7:s.gv=1->s.gc=0->∃j,j<n/\(s.w j=.dn .d5\/s.w j=.dn .d6)
 g8:s.c.Hn=true->s.gc=0/\s.gv=0/\s.gm=0/\∀j,j<n->s.w j=.gone
 g9:∀k,s.c=.wt (.w2 k)->k≠0
 ok:∀j,j<n->(s.w j).ok=true
 L3:s.c.ok=true
 sp:s.sp<=n
 idle:∀j,j<n->((s.w j).iW=true↔s.sp<=j)
 ms:match s.ms with
  |.add j=>s.sp+j=n/\s.c=.none
  |.bj j p=>s.sp+j=n/\s.c=.none/\1<=j/\(p=.a0\/p=.a2\/p=.a4\/p=.ae)
  |.spawn j=>s.sp+j+1=n/\s.c=.none
  |.recv=>s.sp=n/\s.c≠.none
  |.parked=>s.sp=n/\s.c≠.none/\s.c≠.gone/\∀j,j<n->s.w j≠.wait
 early:s.c=.none->∀j,j<n->(s.w j).gz=false
 mu:Mu.Inv n (λj=>(s.w j).pc) s.sh
end
variable(P:Program)(A:dM)(Fin:ag->ah->Goroutine->Prop)
def MS.rem(n:Nat)(s:MS P):List Nat:=(List.range n).filter λj=>!(s.w j).gz
def dg(s:MS P)(i:Nat):Prop:=(i=0/\(match s.ms with|.add _=>True|.spawn _=>True|.recv=>True|_=>False))\/(∃j,j<A.n/\i=A.b+j/\(match s.w j with|.run ..=>True|.xu=>True|_=>False))\/(i=A.b+A.n/\(match s.c with|.er=>True|.jI=>True|_=>False))
def eV(s:MS P)(i:Nat):Prop:=(i=0/\(match s.ms with|.bj ..=>True|_=>False))\/(∃j,j<A.n/\i=A.b+j/\(match s.w j with|.lk ..=>True|.un ..=>True|.dn _=>True|_=>False))\/(i=A.b+A.n/\(match s.c with|.wt _=>True|_=>False))
def dW(s:MS P)(i:Nat):Prop:=(i=0/\s.ms=.parked)\/(∃j,j<A.n/\i=A.b+j/\s.w j=.wait)
def bu(s:MS P)(i:Nat):Mo:=
 if i=0 then(match s.ms with|.add j=>xr P A Fin j|.spawn j=>DM P A Fin j|_=>pC P A Fin (MS.rem P A.n s).length (MS.rem P A.n s))
 else if i<A.b+A.n then(match s.w (i-A.b)with|.run ..=>kh P A (i-A.b)|_=>pg P A)else(match s.c with|.er=>vk P A|_=>qh P A)
theorem Cy(s:MS P)(i:Nat):(bu P A Fin s i).main=(i==0):=by
 have hR:∀m R,(pC P A Fin m R).main=true:=λm R=>by cases m<;>rfl
 have hA:∀m,(xr P A Fin m).main=true:=λm=>by cases m<;>rfl
 unfold bu
 by_cases hi:i=0
 . subst hi
   simp only[if_true,beq_self_eq_true];split
   . exact hA _
   . rfl
   . exact hR _ _
 . have:(i==0)=false:=by simpa using hi
   rw[if_neg hi,this];split
   . split<;>rfl
   . split<;>rfl
def ER(j:Nat)(x:be P)(k:ag)(O:ah)(g:Goroutine):Prop:=
 match x with
 |.lk p Y=>∃kind c rest e,kind≠.early/\mL P A.nm A.fb A.fo kind p (c::rest) g/\Y.m=kh P A j/\O A.fb=none/\k.sh A.fb=some e/\∀k' x a,k.Le k'->lc k' x a->A.GI a->O A.mb=none->Y.N k' ((O.set A.mb x).set A.fb (.part q9)) (jT kind c rest (.tuple #[]))
 | .un p Y=>∃kind c rest,kind≠.early/\mL P A.nm A.fb A.fo kind p (c::rest) g/\Y.m=kh P A j/\
    ((p=.Dy\/p=.ur)->∃f x a,O A.fb=some (.part f)/\O A.mb=some x/\lc k x a/\A.GI a/\Y.N k ((O.del A.mb).del A.fb) (jT kind c rest (.tuple #[])))/\
    (¬(p=.Dy\/p=.ur)->Y.N k O (jT kind c rest (.tuple #[])))
 |.dn p=>∃fw fn tmps todo,P.funcs[fw]?=some fn/\fn.results=#[]/\py P A.ng A.gb .deferred p [jX P fw tmps todo,cR P] g
 |_=>False
def Oc(x:jh)(k:ag)(O:ah)(g:Goroutine):Prop:=
 match x with
 |.wt p=>∃c rest,py P A.ng A.gb .normal p (c::rest) g/\∀k',k.Le k'->T P (qh P A) iG k' O (jT .normal c rest (.tuple #[]))
 |_=>False
def Pd(x:nG)(k:ag)(O:ah)(g:Goroutine):Prop:=
 match x with
 |.bj j p=>∃c rest,py P A.ng A.gb .normal p (c::rest) g/\T P (DM P A Fin (j-1)) iG k O (jT .normal c rest (.tuple #[]))
 |_=>False
def Od(s:MS P)(i:Nat)(k:ag)(O:ah)(g:Goroutine):Prop:=(i=0/\Pd P A Fin s.ms k O g)\/(∃j,j<A.n/\i=A.b+j/\ER P A j (s.w j) k O g)\/(i=A.b+A.n/\Oc P A s.c k O g)
def L4(s:MS P)(i:Nat):Prop:=(∃j sv Y,j<A.n/\i=A.b+j/\s.w j=.lk (.fN sv) Y/\s.sh.ms=0)\/(i=A.b+A.n/\s.c=.wt .w4/\s.gm=0)
def P2(s:MS P)(i:Nat)(k:ag)(O:ah)(g:Goroutine):Prop:=
 (i=0/\∃g₂ z,g=parked g₂ #[rcase A.cF z] (.recv true)/\dq P A k O g₂ g₂ z/\g₂.status=.running/\(pC P A Fin (MS.rem P A.n s).length (MS.rem P A.n s)).dc k O g₂ iG)\/
 (∃j,j<A.n/\i=A.b+j/\∃g₂ z v,g=parked g₂ #[scase A.cF v z] .send/\V k v (A.res j)/\O A.fb=none/\T P (pg P A) iG k O (Go.Conc.served g₂ undef))
def cN(s:MS P)(i:Nat):Nat:=
 if i=0 then(match s.ms with|.bj _ p=>th p|_=>0)
 else if i<A.b+A.n then(s.w (i-A.b)).deaf else(match s.c with|.wt p=>th p|_=>0)
def kF(w:World):Prop:=(∃v,w.cell? ⟨A.gb,0,none⟩=some v)/\(∃v,w.cell? ⟨A.gb,1,none⟩=some v)/\∃v,w.cell? ⟨A.fb,A.fo,none⟩=some v
def Ho(A:dM):Loc->Prop
 |.cell a=>a.spot=none/\((a.block=A.fb/\(a.off=A.fo\/a.off=A.fo+1))\/(a.block=A.gb/\(a.off=0\/a.off=1)))
 |.obj r=>r=A.cF
 |_=>False
def eX(s:MS P)(i:Nat):Prop:=(∃j,j<A.n/\i=A.b+j/\(s.w j).busy=true)\/(i=A.b+A.n/\s.c.busy=true)
def bE(s:MS P)(i:Nat):Prop:=i=0\/(∃j,j<s.sp/\i=A.b+j)\/(i=A.b+A.n/\s.c≠.none)
structure cW(Z:Base)(s:MS P)(kk:Nat->ag)(OO:Nat->ah)(J M:Nat->Prop)(gsz:Nat)(w:World)(t:Trace):Prop where
 I:bD A.n s
 size:gsz=A.b+s.sp+(if s.c.isNone then 0 else 1)
 v7:∃x tm,w.heap[A.cF]?=some (.chan 0 #[] s.c.dP x x tm)
 mu:ShM A.fb A.fo w s.sh
 gr:px A.gb w s.gc s.gv s.gm
 ti:∃c e,w.heap[A.fb]?=some (.cells c e (0,0))
 wv:∃c e,w.heap[A.gb]?=some (.cells c e (0,0))
 fB:∀i,OO i A.cF=none/\OO i A.gb=none
 dI:∀i,(kk i).cell A.fb A.fo=none/\(kk i).cell A.fb (A.fo+1)=none/\(kk i).cell A.gb 0=none/\(kk i).cell A.gb 1=none
 tok:∀i x,OO i A.fb=some x->∃j f,j<A.n/\i=A.b+j/\(s.w j).owns=true/\x=.part f/\∀l,f l=none
 vm:∀j,j<A.n->(s.w j).owns=true->OO (A.b+j) A.fb≠none
 Hp:(∀j,j<A.n->(s.w j).owns=false)->∃x a,OO Z.lk A.mb=some x/\lc (kk Z.lk) x a/\A.GI a
 Gk:∀c,OO Z.lk c≠none->c=A.mb/\∀j,j<A.n->(s.w j).owns=false
 hJ:∀i,J i↔eX P A s i
 hM:∀p,M p->t.heard p/\Z.N0<=p/\((t.act? p=some (.mark (.releaseMerge ⟨A.gb,0,none⟩))/\(s.c=.none\/s.c=.er\/∃q,s.c=.wt q))\/(s.c=.gone/\t.act? p=some (.close A.cF)))
 shut:s.c=.gone->∃p,M p/\t.act? p=some (.close A.cF)/\t.heard p
 quiet:∀m a,touchAt t m=some a->Ho A a.loc->a.kind=.plain->∀i,bE P A s i->Knows t i m
 said:∀m a,touchAt t m=some a->Ho A a.loc->a.kind=.said->Knows t (if s.c.isNone then 0 else A.b+A.n) m
 old:∀i,bE P A s i->∀m a,m<Z.N0->touchAt t m=some a->a.loc.isMemory=true -> ¬Z.Shun a.loc->Knows t i m
 norel:∀m a,Z.N0<=m->t.act? m≠some (.mark (.release a))
 AE:∀i,i≠Z.lk -> ¬bE P A s i->kk i=ag.bot/\OO i=ah.bot
 qc:∀a,Ho A a->(∃c,a=.cell c/\c.block=A.gb)->Z.Shun a
 jp:∀c:Addr,c.block=A.fb/\(c.off=A.fo\/c.off=A.fo+1) -> ¬Z.Shun (.cell c)
 dX:Z.W0.heap.size<=A.cF/\Z.W0.heap.size<=A.fb/\Z.W0.heap.size<=A.gb
 la:Z.la=⟨A.fb,A.fo,none⟩
 n0:Z.N0<=t.size
def Node.L5{P:Program}:Node P->Prop
 |⟨_,_,_,_,.dc ..⟩=>True
 |_=>False
def tj{P:Program}(x X:Node P):Prop:=∀y,(y=x\/Relation.TransGen nF y x)->y.L5->(y=X\/Relation.TransGen nF y X)
theorem tj.sub{P:Program}{x y X:Node P}(h:tj x X)(hs:nF y x):tj y X:=λz hz ht=>h z (hz.elim (λe=>.inr (by rw[e];exact .single hs)) (λe=>.inr (e.tail hs))) ht
theorem tj.refl{P:Program}(X:Node P):tj X X:=λy hy _=>hy
def Kc(s:MS P)(i:Nat)(x:Node P):Prop:=∀j h X,j<A.n->i=A.b+j->s.w j=.run h X->tj x X
def bW(Z:Base)(hZ:A.b+A.n+1<=Z.lk):pu P where
 S:=MS P
 r:=MS.fX A.n
 wf:=Kb A.n
 mo:=bu P A Fin
 main:=Cy P A Fin
 top:=A.b+A.n+1
 lk:=Z.lk
 JQ:=hZ
 Live:=dg P A
 Walk:=eV P A
 At:=Od P A Fin
 xk:=L4 P A
 mS:=dW P A
 Cn:=P2 P A Fin
 deaf:=cN P A
 Wd:=kF A
 Ex:=cW P A Z
 JZ:=Kc P A
 tie:=λs i x y hs h j b X h1 h2 h3=>(h j b X h1 h2 h3).sub hs
end Go.aN
namespace Go.aN
open Go.Conc
open Go.ConcN (sumTo upd sumTo_upd upd_ne upd_same)
theorem vn{t:Trace}(u:Trace){p:Nat}{x:MemAct}(h:t.act? p=some x)(hh:t.heard p):(t++u).act? p=some x/\(t++u).heard p:=by have hp:=lt_of_act? h;exact⟨by rw[act?_old hp];exact h,(heard_old hp).2 hh⟩
structure AF(b:Nat)(w w':World):Prop where
 cell:∀l,w'.cell? ⟨b,l,none⟩=w.cell? ⟨b,l,none⟩
 fz:∀l,w'.frozen? ⟨b,l,none⟩=w.frozen? ⟨b,l,none⟩
theorem AF.of_heap{b:Nat}{w w':World}(h:w'.heap[b]?=w.heap[b]?):AF b w w':=⟨λl=>by simp only[World.cell?,h],λl=>by simp only[World.frozen?,h]⟩
theorem ShM.same{b o:Nat}{w w':World}{s:Mu.Sh}(h:ShM b o w s)(e:AF b w w'):ShM b o w' s:=⟨by rw[e.cell];exact h.cw,by rw[e.cell];exact h.cs,λi=>by rw[e.fz];exact h.fz i⟩
theorem px.same{b:Nat}{w w':World}{c v m:Nat}(h:px b w c v m)(e:AF b w w'):px b w' c v m:=⟨by rw[e.cell];exact h.cw,by rw[e.cell];exact h.cs,λi=>by rw[e.fz];exact h.fz i⟩
theorem lE{t u:Trace}{m:Nat}{a:Touch}(h:touchAt (t++u) m=some a):(touchAt t m=some a/\m<t.size)\/∃op∈u,op.act.touch?=some a:=by
 obtain⟨x,hx,hxa⟩:=touch_of h;rcases getElem?_append_cases hx with⟨hl,hx'⟩|⟨_,hxu⟩
 . exact .inl ⟨by rw[touchAt_of hx'];exact hxa,hl⟩
 . exact .inr ⟨x,hxu,hxa⟩
theorem sf{t u:Trace}{m:Nat}{x:MemAct}(h:(t++u).act? m=some x):(t.act? m=some x/\m<t.size)\/∃op∈u,op.act=x:=by
 unfold Trace.act? at h;obtain⟨y,hy,rfl⟩:=Option.map_eq_some_iff.1 h;rcases getElem?_append_cases hy with⟨hl,hx'⟩|⟨_,hxu⟩
 . exact .inl ⟨by simp[Trace.act?,hx'],hl⟩
 . exact .inr ⟨y,hxu,rfl⟩
section
variable{P:Program}{A:dM}{Fin:ag->ah->Goroutine->Prop}{Z:Base}{s:MS P}{kk kk':Nat->ag}{OO OO':Nat->ah}{J M:Nat->Prop}{gsz:Nat}{w w':World}{t:Trace}
theorem cW.iX(h:cW P A Z s kk OO J M gsz w t)(u:Trace)(hu:∀op∈u,∀a,op.act.touch?=some a->Ho A a.loc->a.kind≠.plain):∀m a,touchAt (t++u) m=some a->Ho A a.loc->a.kind=.plain->∀i,bE P A s i->Knows (t++u) i m:=λm a ha hs hk i hi=>by
 rcases lE ha with⟨h1,_⟩|⟨op,hop,h1⟩
 . exact(h.quiet m a h1 hs hk i hi).app u
 . exact absurd hk (hu op hop a h1 hs)
theorem cW.lF(h:cW P A Z s kk OO J M gsz w t)(u:Trace)(hu:∀op∈u,∀a,op.act.touch?=some a->Ho A a.loc->a.kind≠.said):∀m a,touchAt (t++u) m=some a->Ho A a.loc->a.kind=.said->Knows (t++u) (if s.c.isNone then 0 else A.b+A.n) m:=λm a ha hs hk=>by
 rcases lE ha with⟨h1,_⟩|⟨op,hop,h1⟩
 . exact(h.said m a h1 hs hk).app u
 . exact absurd hk (hu op hop a h1 hs)
theorem cW.mW(h:cW P A Z s kk OO J M gsz w t)(u:Trace):∀i,bE P A s i->∀m a,m<Z.N0->touchAt (t++u) m=some a->a.loc.isMemory=true -> ¬Z.Shun a.loc->Knows (t++u) i m:=λi hi m a hm ha hmem hz=>by
 have hlt:m<t.size:=Nat.lt_of_lt_of_le hm h.n0
 have h1:touchAt t m=some a:=by obtain⟨x,hx,hxa⟩:=touch_of ha;rw[Array.getElem?_append_left hlt]at hx;rw[touchAt_of hx];exact hxa
 exact(h.old i hi m a hm h1 hmem hz).app u
theorem cW.gV(h:cW P A Z s kk OO J M gsz w t)(u:Trace)(hu:∀op∈u,∀a,op.act≠.mark (.release a)):∀m a,Z.N0<=m->(t++u).act? m≠some (.mark (.release a)):=λm a hm e=>by
 rcases sf e with⟨h1,_⟩|⟨op,hop,h1⟩
 . exact h.norel m a hm h1
 . exact hu op hop a h1
theorem cW.rb(h:cW P A Z s kk OO J M gsz w t)(u:Trace):∀p,M p->(t++u).heard p/\Z.N0<=p/\(((t++u).act? p=some (.mark (.releaseMerge ⟨A.gb,0,none⟩))/\(s.c=.none\/s.c=.er\/∃q,s.c=.wt q))\/(s.c=.gone/\(t++u).act? p=some (.close A.cF))):=λp hp=>by
 obtain⟨h1,h2,h3⟩:=h.hM p hp;rcases h3 with⟨h3,h4⟩|⟨h3,h4⟩
 . obtain⟨e1,e2⟩:=vn u h3 h1
   exact⟨e2,h2,.inl ⟨e1,h4⟩⟩
 . obtain⟨e1,e2⟩:=vn u h4 h1
   exact⟨e2,h2,.inr ⟨h3,e1⟩⟩
theorem cW.ki(h:cW P A Z s kk OO J M gsz w t)(u:Trace):s.c=.gone->∃p,M p/\(t++u).act? p=some (.close A.cF)/\(t++u).heard p:=λhc=>by obtain⟨p,h1,h2,h3⟩:=h.shut hc;obtain⟨e1,e2⟩:=vn u h2 h3;exact⟨p,h1,e1,e2⟩
theorem Cz(I:bD A.n s){i:Nat}(hl:dg P A s i):bE P A s i:=by
 rcases hl with⟨h,_⟩|⟨j,h1,h2,h3⟩|⟨h1,h2⟩
 . exact .inl h
 . refine .inr (.inl ⟨j,?_,h2⟩)
   have hid:=I.idle j h1;cases e:s.w j with
   |idle=>rw[e]at h3;exact h3.elim
   |_=>rw[e]at hid;simp[be.iW]at hid;omega
 . refine .inr (.inr ⟨h1,λe=>?_⟩)
   rw[e]at h2;exact h2
theorem Hq{i:Nat}(hl:dg P A s i):i<A.b+A.n+1:=by
 have:=A.hb;rcases hl with⟨h,_⟩|⟨j,h1,h2,h3⟩|⟨h1,h2⟩<;>omega
theorem ww(h:cW P A Z s kk OO J M gsz w t){i:Nat}{e:Event}(he:iJ (kk i) (OO i) w.heap.size e){a:Touch}(ha:(MemAct.ofEvent e).touch?=some a):¬Ho A a.loc:=λhs=>by
 have hF:A.fb<w.heap.size:=by obtain⟨c,e,h1⟩:=h.ti;exact(Array.getElem?_eq_some_iff.1 h1).1
 have hG:A.gb<w.heap.size:=by obtain⟨c,e,h1⟩:=h.wv;exact(Array.getElem?_eq_some_iff.1 h1).1
 have hcovF:∀l,¬aP (OO i) A.fb l:=λl hc=>by
  obtain⟨x,hx⟩:=hc.own;obtain⟨j,f,_,_,_,rfl,hf⟩:=h.tok i x hx
  rcases hc with⟨o,q⟩|⟨m,q,_⟩|⟨g,q,hg⟩
  . rw[hx]at q;cases q
  . rw[hx]at q;cases q
  . rw[hx]at q;cases q;exact hg (hf l)
 have hcovG:∀l,¬aP (OO i) A.gb l:=λl=>dH (h.fB i).2
 obtain⟨k1,k2,k3,k4⟩:=h.dI i;have hC:A.cF<w.heap.size:=by obtain⟨x,tm,h1⟩:=h.v7;exact(Array.getElem?_eq_some_iff.1 h1).1
 rcases lR he ha with⟨ad,hl,hc⟩|⟨r,hl,hr⟩
 . rw [hl]at hs
   obtain⟨_,hs⟩:=hs
   rcases hs with⟨h1,h2⟩|⟨h1,h2⟩
   . rw[h1]at hc
     rcases hc with hc|hc|⟨_,v,hc⟩
     . exact hcovF _ hc
     . omega
     . rcases h2 with h2|h2<;>rw[h2]at hc
       . rw[k1]at hc;cases hc
       . rw[k2]at hc;cases hc
   . rw[h1]at hc
     rcases hc with hc|hc|⟨_,v,hc⟩
     . exact hcovG _ hc
     . omega
     . rcases h2 with h2|h2<;>rw[h2]at hc
       . rw[k3]at hc;cases hc
       . rw[k4]at hc;cases hc
 . rw[hl]at hs
   have hs:r=A.cF:=hs;subst hs
   rcases hr with⟨o,hr⟩|hr
   . rw[(h.fB i).1]at hr;cases hr
   . omega
theorem wx{k:ag}{O:ah}{B:Nat}{e:Event}(he:iJ k O B e)(a:Addr):MemAct.ofEvent e≠.mark (.release a):=by
 obtain⟨loc,wr,sy⟩:=e;cases loc with
 |mark m=>simp only[iJ]at he;cases m<;>simp_all [js,lM,MemAct.ofEvent]
 |cell ad=>simp[MemAct.ofEvent]
 |obj r=>cases wr<;>cases sy<;>simp[MemAct.ofEvent]
 |_=>simp[iJ]at he
theorem cW.own(h:cW P A Z s kk OO J M gsz w t)(hZ:A.b+A.n+1<=Z.lk){i:Nat}(hl:dg P A s i){k':ag}{O':ah}{es:List Event}(he:Eff (kk i) (OO i) w k' O' w' es)(u:Trace)
 (hev:∀op∈u,∃e,iJ (kk i) (OO i) w.heap.size e/\op.act=.ofEvent e):cW P A Z s (bv kk i k') (bv OO i O') J M gsz w' (t++u):=by
 have hlk:i≠Z.lk:=by have:=Hq hl;omega
 have hbeg:=Cz h.I hl;have hF:A.fb<w.heap.size:=by obtain⟨c,e,h1⟩:=h.ti;exact(Array.getElem?_eq_some_iff.1 h1).1
 have hG:A.gb<w.heap.size:=by obtain⟨c,e,h1⟩:=h.wv;exact(Array.getElem?_eq_some_iff.1 h1).1
 have hC:A.cF<w.heap.size:=by obtain⟨x,tm,h1⟩:=h.v7;exact(Array.getElem?_eq_some_iff.1 h1).1
 have hcF:=he.keep A.cF hC (h.fB i).1;have hgb:=he.keep A.gb hG (h.fB i).2
 have hfb:AF A.fb w w'/\∃c e,w'.heap[A.fb]?=some (.cells c e (0,0)):=by
  cases q:OO i A.fb with
  |none=>have:=he.keep A.fb hF q;exact⟨.of_heap this,by rw[this];exact h.ti⟩
  | some x=>
    obtain⟨j,f,_,_,_,rfl,hf⟩:=h.tok i x q;obtain⟨c,e,h1⟩:=h.ti;obtain⟨c',h2,h3,h4⟩:=he.part A.fb f hF q c e h1;refine⟨⟨λl=>?_,λl=>?_⟩,c',e,h2⟩
    . simp only[World.cell?,h1,h2];rw[h4 l (hf l)]
    . simp only[World.frozen?,h1,h2]
 have hnone:∀c,c<w.heap.size->OO i c=none->O' c=none:=λc hc hn=>by
  cases q:O' c with
  |none=>rfl
  | some x=>
    rcases he.own c x q with⟨y,hy,_⟩|hy
    . rw[hn]at hy;cases hy
    . omega
 have hcovF:∀l,¬aP (OO i) A.fb l:=λl hc=>by
  obtain⟨x,hx⟩:=hc.own;obtain⟨j,f,_,_,_,rfl,hf⟩:=h.tok i x hx
  rcases hc with⟨o,q⟩|⟨m,q,_⟩|⟨g,q,hg⟩
  . rw[hx]at q;cases q
  . rw[hx]at q;cases q
  . rw[hx]at q;cases q;exact hg (hf l)
 have hkn:∀c l,c<w.heap.size -> ¬aP (OO i) c l->(kk i).cell c l=none->k'.cell c l=none:=λc l hc hcv hn=>by
  cases q:k'.cell c l with
  |none=>rfl
  | some v=>
    rcases he.cell c l v q with h1|h1|h1
    . rw[hn]at h1;cases h1
    . exact absurd h1 hcv
    . omega
 obtain⟨kf1,kf2,kf3,kf4⟩:=h.dI i
 have hns:∀op∈u,∀a,op.act.touch?=some a -> ¬Ho A a.loc:=λop hop a ha=>by obtain⟨e,he1,he2⟩:=hev op hop;rw[he2]at ha;exact ww h he1 ha
 refine⟨h.I,h.size,by rw[hcF];exact h.v7,h.mu.same hfb.1,h.gr.same (.of_heap hgb),hfb.2,by rw[hgb];exact h.wv,λj=>?_,λj=>?_,λj x hx=>?_,λj hj ho=>?_,λho=>?_,λc hc=>?_,h.hJ,h.rb u,h.ki u,
  h.iX u (λop hop a ha hs=>absurd hs (hns op hop a ha)),h.lF u (λop hop a ha hs=>absurd hs (hns op hop a ha)),h.mW u,h.gV u (λop hop a=>by obtain⟨e,he1,he2⟩:=hev op hop;rw[he2];exact wx he1 a),λj hj hb=>?_,h.qc,h.jp,h.dX,h.la,by simp;exact Nat.le_trans h.n0 (Nat.le_add_right _ _)⟩
 . by_cases e:j=i
   . subst e;rw[an];exact⟨hnone _ hC (h.fB j).1,hnone _ hG (h.fB j).2⟩
   . rw[ar _ _ e];exact h.fB j
 . by_cases e:j=i
   . subst e;rw[an]
     exact⟨hkn _ _ hF (hcovF _) kf1,hkn _ _ hF (hcovF _) kf2,hkn _ _ hG (dH (h.fB j).2) kf3,hkn _ _ hG (dH (h.fB j).2) kf4⟩
   . rw[ar _ _ e];exact h.dI j
 . by_cases e:j=i
   . subst e;rw[an]at hx
     rcases he.own _ x hx with⟨y,hy,hb⟩|hy
     . obtain⟨l,f,h1,h2,h3,rfl,h4⟩:=h.tok j y hy
       cases x with
       |obj o=>exact hb.elim
       |tail m=>exact hb.elim
       |part g=>exact⟨l,g,h1,h2,h3,rfl,λa=>Classical.byContradiction λq=>hb a q (h4 a)⟩
     . omega
   . rw[ar _ _ e]at hx;exact h.tok j x hx
 . have h1:=h.vm j hj ho
   by_cases e:A.b+j=i
   . rw[e,an]
     rw[e]at h1;cases q:OO i A.fb with
     |none=>exact absurd q h1
     |some x=>obtain⟨_,f,_,_,_,rfl,_⟩:=h.tok i x q;obtain⟨f',h2⟩:=he.tok _ f q;rw[h2];simp
   . rw[ar _ _ e];exact h1
 . rw[ar _ _ (Ne.symm hlk),ar _ _ (Ne.symm hlk)];exact h.Hp ho
 . rw[ar _ _ (Ne.symm hlk)]at hc;exact h.Gk c hc
 . have e:j≠i:=λe=>hb (e ▸ hbeg)
   rw[ar _ _ e,ar _ _ e];exact h.AE j hj hb
theorem cW.still(h:cW P A Z s kk OO J M gsz w t)(u:Trace)(hu:∀op∈u,op.act.touch?=none/\∀a,op.act≠.mark (.release a)):cW P A Z s kk OO J M gsz w (t++u):=
 ⟨h.I,h.size,h.v7,h.mu,h.gr,h.ti,h.wv,h.fB,h.dI,h.tok,h.vm,h.Hp,h.Gk,h.hJ,h.rb u,h.ki u,h.iX u (λop hop a ha=>by rw[(hu op hop).1]at ha;cases ha),h.lF u (λop hop a ha=>by rw[(hu op hop).1]at ha;cases ha),
   h.mW u,h.gV u (λop hop=>(hu op hop).2),h.AE,h.qc,h.jp,h.dX,h.la,by simp;exact Nat.le_trans h.n0 (Nat.le_add_right _ _)⟩
theorem ba(hZ:A.b+A.n+1<=Z.lk):xl (bW P A Fin Z hZ) where
 own:=λhE hl _ he u _ _ hev=>cW.own hE hZ hl he u hev
 slip:=λhE u _ hu=>cW.still hE u hu
 draw:=λ{s kk OO J M n w t} hE d=>by have hE:cW P A Z s kk OO J M n w t:=hE;exact⟨hE.I,hE.size,hE.v7,hE.mu.heap rfl,hE.gr.same (.of_heap rfl),hE.ti,hE.wv,hE.fB,hE.dI,hE.tok,hE.vm,hE.Hp,hE.Gk,hE.hJ,hE.hM,hE.shut,hE.quiet,hE.said,hE.old,hE.norel,hE.AE,hE.qc,hE.jp,hE.dX,hE.la,hE.n0⟩
 r7 := λ{s kk OO J M n w t j g} hE hh k O hA=>by
  have hE:cW P A Z s kk OO J M n w t:=hE;obtain⟨x,tm,hF⟩:=hE.v7
  have hng:s.c.dP=false:=by
   rcases hh with⟨_,hm⟩|⟨l,hl,_,hw⟩
   . have:=hE.I.ms
     rw[hm]at this;have:=this.2.2.1;cases e:s.c<;>simp_all [jh.dP]
   . cases e:s.c with
     | gone=>
       have:=(hE.I.g8 (by rw[e];rfl)).2.2.2 l hl;rw[hw]at this;cases this
     |_=>rfl
  rw[hng]at hF;rcases hA with⟨_,g₂,z,rfl,_⟩|⟨l,_,_,g₂,z,v,rfl,_⟩
  . exact again_recv_open hF
  . exact again_send_open hF
 wd:=λ{s kk OO J M n w t} hE=>by have hE:cW P A Z s kk OO J M n w t:=hE;exact⟨⟨_,hE.gr.cw⟩,⟨_,hE.gr.cs⟩,⟨_,hE.mu.cw⟩⟩
 kU:=λ{s i k O g} hA=>by
  rcases hA with⟨_,hA⟩|⟨j,_,_,hA⟩|⟨_,hA⟩
  . cases e:s.ms with
    |bj j p=>rw[e]at hA;obtain⟨c,rest,h1,_⟩:=hA;exact h1.running
    |_=>rw[e]at hA;exact hA.elim
  . cases e:s.w j with
    |lk p Y=>rw[e]at hA;obtain⟨kind,c,rest,_,_,h1,_⟩:=hA;exact h1.running
    |un p Y=>rw[e]at hA;obtain⟨kind,c,rest,_,h1,_⟩:=hA;exact h1.running
    |dn p=>rw[e]at hA;obtain⟨fw,fn,tmps,todo,_,_,h1⟩:=hA;exact h1.running
    |_=>rw[e]at hA;exact hA.elim
  . cases e:s.c with
    |wt p=>rw[e]at hA;obtain⟨c,rest,h1,_⟩:=hA;exact h1.running
    |_=>rw[e]at hA;exact hA.elim
end
end Go.aN
namespace Go.aN
open Go.Conc
open Go.ConcN (sumTo upd sumTo_upd upd_ne upd_same)
variable{P:Program}
def MS.aE(s:MS P)(j:Nat)(x:be P)(sh:Mu.Sh):MS P:={s with w:=λi=>if i=j then x else s.w i,sh:=sh}
section
variable{s:MS P}{j n:Nat}{x:be P}{sh:Mu.Sh}
theorem aD:(s.aE j x sh).w j=x:=by simp[MS.aE]
theorem bf{i:Nat}(h:i≠j):(s.aE j x sh).w i=s.w i:=by simp[MS.aE,h]
theorem yN:(λi=>((s.aE j x sh).w i).pc)=Mu.set (λi=>(s.w i).pc) j x.pc:=by
 funext i;by_cases h:i=j
 . subst h;rw[aD,Mu.ao]
 . rw[bf h,Mu.ai _ _ h]
theorem od(F:be P->Nat)(hj:j<n):sumTo n (λi=>F ((s.aE j x sh).w i))+F (s.w j)=sumTo n (λi=>F (s.w i))+F x:=by
 have e:(λi=>F ((s.aE j x sh).w i))=upd (λi=>F (s.w i)) j (F x):=by
  funext i;by_cases h:i=j
  . subst h;rw[aD,upd_same]
  . rw[bf h,upd_ne _ _ h]
 rw[e];have:=sumTo_upd (λi=>F (s.w i)) (F x) id hj;simpa using this
def be.work:be P->Bool
 |.run ..=>true|.lk ..=>true|.un ..=>true|_=>false
theorem bb{x:be P}(h:x.work=true):x.cnt=1/\x.cz=20/\x.gz=false/\x.last=false/\x.iW=false/\x.busy=true/\x≠.gone/\x≠.wait/\∀p,x≠.dn p:=by cases x<;>simp_all [be.work,be.cnt,be.cz,be.gz,be.last,be.iW,be.busy]
theorem bD.work(I:bD n s)(hj:j<n)(h1:(s.w j).work=true)(h2:x.work=true)(hx:x.ok=true)(hm:Mu.Inv n (Mu.set (λi=>(s.w i).pc) j x.pc) sh):bD n (s.aE j x sh):=by
 obtain⟨a1,a2,a3,a4,a5,a6,a7,a8,a9⟩:=bb h1;obtain⟨b1,b2,b3,b4,b5,b6,b7,b8,b9⟩:=bb h2;have hcnt:=od (s:=s) (x:=x) (sh:=sh) be.cnt hj
 have look:∀{i:Nat}{y:be P},(s.aE j x sh).w i=y->x≠y->i≠j/\s.w i=y:=λ{i y} h hn=>by
  by_cases e:i=j
  . subst e;rw[aD]at h;exact absurd h hn
  . rw[bf e]at h;exact⟨e,h⟩
 have back:∀{i:Nat}{y:be P},s.w i=y->(s.w j)≠y->(s.aE j x sh).w i=y:=λ{i y} h hn=>by
  by_cases e:i=j
  . subst e;exact absurd h hn
  . rw[bf e];exact h
 have lastI:∀{i:Nat},((s.aE j x sh).w i).last=(s.w i).last:=λ{i}=>by
  by_cases e:i=j
  . subst e;rw[aD,a4,b4]
  . rw[bf e]
 refine⟨?_,I.g2,I.ns,λi hi h=>?_,λi l hi hl h h'=>?_,λi hi h=>?_,⟨I.g5.1,λh=>?_⟩,λh h' h''=>?_,λh h'=>?_,λh=>?_,I.g9,λi hi=>?_,I.L3,I.sp,λi hi=>?_,?_,λh i hi=>?_,by rw[yN];exact hm⟩
 . have:=I.g1
   show s.gc=sumTo n (λi=>((s.aE j x sh).w i).cnt)+s.ms.pend;omega
 . exact I.g3 i hi (h.imp (λh=>(look h (b9 _)).2) (λh=>(look h (b9 _)).2))
 . rw[lastI]at h h';exact I.tE i l hi hl h h'
 . exact I.g4 i hi (look h (b9 _)).2
 . obtain⟨c1,c2,c3,c4⟩:=I.g5.2 h
   exact⟨c1,c2,c3,λi hi=>by rw[lastI];exact c4 i hi⟩
 . obtain⟨i,hi,h3⟩:=I.g6 h h' h''
   exact⟨i,hi,back h3 (a9 _)⟩
 . obtain⟨i,hi,h3⟩:=I.g7 h h'
   exact⟨i,hi,h3.imp (λh=>back h (a9 _)) (λh=>back h (a9 _))⟩
 . obtain⟨_,_,_,c4⟩:=I.g8 h
   exact absurd (c4 j hj) a7
 . by_cases e:i=j
   . subst e;rw[aD];exact hx
   . rw[bf e];exact I.ok i hi
 . by_cases e:i=j
   . subst e
     rw[aD,b5];have:=I.idle i hi;rw[a5]at this;exact this
   . rw[bf e];exact I.idle i hi
 . have:=I.ms
   show match s.ms with
   |.add l=>s.sp+l=n/\s.c=.none
   |.bj l p=>s.sp+l=n/\s.c=.none/\1<=l/\(p=.a0\/p=.a2\/p=.a4\/p=.ae)
   |.spawn l=>s.sp+l+1=n/\s.c=.none
   |.recv=>s.sp=n/\s.c≠.none
   |.parked=>s.sp=n/\s.c≠.none/\s.c≠.gone/\∀i,i<n->(s.aE j x sh).w i≠.wait
   cases e:s.ms with
   |parked=>rw[e]at this;obtain⟨c1,c2,c3,c4⟩:=this;exact⟨c1,c2,c3,λi hi h=>c4 i hi (look h b8).2⟩
   |_=>rw[e]at this;exact this
 . by_cases e:i=j
   . subst e;rw[aD];exact b3
   . rw[bf e];exact I.early h i hi
theorem L6(F:be P->Nat)(hj:j<n)(h:F x=F (s.w j)):sumTo n (λi=>F ((s.aE j x sh).w i))=sumTo n (λi=>F (s.w i)):=by have:=od (s:=s) (x:=x) (sh:=sh) F hj;omega
theorem AG(hj:j<n)(h1:(s.w j).work=true)(h2:x.work=true):(s.aE j x sh).cz n=s.cz n:=by
 have:=L6 (s:=s) (x:=x) (sh:=sh) be.cz hj (by rw[(bb h1).2.1,(bb h2).2.1]);show s.ms.cz+sumTo n (λi=>((s.aE j x sh).w i).cz)+s.c.cz s.gc=_;rw[this];rfl
theorem yO(hj:j<n)(h1:(s.w j).work=true)(h2:x.work=true)(h:EQ x.nd (s.w j).nd):MS.fX n (s.aE j x sh) s:=.inr ⟨AG hj h1 h2,.inl ⟨j,hj,λi hi=>by show((s.aE j x sh).w i).nd=_;rw[bf hi],by simp only[aD];exact h⟩⟩
theorem ua(hj:j<n)(h1:(s.w j).work=true)(h2:x.work=true)(h:x.nd=(s.w j).nd)(hi:4*Mu.meas n (Mu.set (λi=>(s.w i).pc) j x.pc) sh+x.ex n<4*Mu.meas n (λi=>(s.w i).pc) s.sh+(s.w j).ex n):MS.fX n (s.aE j x sh) s:=by
 refine .inr ⟨AG hj h1 h2,.inr ⟨?_,?_⟩⟩
 . funext i
   by_cases e:i=j
   . subst e;rw[aD];exact h
   . rw[bf e]
 . have:=od (s:=s) (x:=x) (sh:=sh) (be.ex n) hj
   show 4*Mu.meas n (λi=>((s.aE j x sh).w i).pc) sh+sumTo n (λi=>((s.aE j x sh).w i).ex n)<4*Mu.meas n (λi=>(s.w i).pc) s.sh+sumTo n (λi=>(s.w i).ex n);rw[yN];omega
theorem DN(I:bD n s)(hj:j<n)(h1:(s.w j).work=true)(h2:x.work=true)(h:x.nd=(s.w j).nd)(hm:(x.pc,sh)∈Mu.mv (s.w j).pc s.sh)(hx:x.ex n<=3):MS.fX n (s.aE j x sh) s:=by
 have:=(Mu.EE (pcs:=λi=>(s.w i).pc) hj (I.mu.j0 j hj) hm).1;exact ua hj h1 h2 h (by omega)
theorem bD.mv(I:bD n s)(hj:j<n)(h1:(s.w j).work=true)(h2:x.work=true)(hx:x.ok=true)(hm:(x.pc,sh)∈Mu.mv (s.w j).pc s.sh):bD n (s.aE j x sh):=I.work hj h1 h2 hx (I.mu.step hj hm)
theorem kW(pcs:Nat->Mu.Pc)(i:Nat):Mu.set pcs i (pcs i)=pcs:=by
 funext l;by_cases e:l=i
 . subst e;exact Mu.ao _ _ _
 . exact Mu.ai _ _ e
theorem kX(hj:j<n)(h1:(s.w j).work=true)(h2:x.work=true)(h:x.nd=(s.w j).nd)(hp:x.pc=(s.w j).pc)(hx:x.ex n<(s.w j).ex n):MS.fX n (s.aE j x s.sh) s:=by
 refine ua hj h1 h2 h ?_;rw[hp,kW (λi=>(s.w i).pc)];omega
theorem bD.still(I:bD n s)(hj:j<n)(h1:(s.w j).work=true)(h2:x.work=true)(hx:x.ok=true)(hp:x.pc=(s.w j).pc):bD n (s.aE j x s.sh):=I.work hj h1 h2 hx (by rw[hp,kW (λi=>(s.w i).pc)];exact I.mu)
theorem fC(F:Mu.Pc->Nat){pcs:Nat->Mu.Pc}{i:Nat}(ho:pcs i=.out)(h:F .gx=F .out):(λl=>F (Mu.set pcs i .gx l))=λl=>F (pcs l):=by
 funext l;by_cases e:l=i
 . subst e;rw[Mu.ao,ho,h]
 . rw[Mu.ai _ _ e]
theorem Kd{n:Nat}{pcs:Nat->Mu.Pc}{s:Mu.Sh}{i:Nat}(h:Mu.Inv n pcs s)(ho:pcs i=.out):Mu.Inv n (Mu.set pcs i .gx) s:=by
 obtain⟨⟨h0,h1,h2,h3,h4⟩,h5,h6⟩:=h;refine⟨⟨λl hl=>?_,?_,?_,?_,?_⟩,h5,λl hl old sv hp=>?_⟩
 . by_cases e:l=i
   . subst e;rw[Mu.ao];trivial
   . rw[Mu.ai _ _ e];exact h0 l hl
 . rw[fC Mu.bI ho rfl];exact h1
 . rw[fC Mu.fj ho rfl,fC Mu.cj ho rfl,fC Mu.lS ho rfl,fC Mu.cQ ho rfl,fC Mu.ci ho rfl];exact h2
 . rw[fC Mu.fj ho rfl,fC Mu.cj ho rfl,fC Mu.lS ho rfl,fC Mu.cQ ho rfl,fC Mu.ci ho rfl];exact h3
 . rw[fC Mu.gy ho rfl];exact h4
 . by_cases e:l=i
   . subst e;rw[Mu.ao]at hp;cases hp
   . rw[Mu.ai _ _ e]at hp;exact h6 l hl old sv hp
theorem AH{n:Nat}{pcs:Nat->Mu.Pc}{s:Mu.Sh}{i:Nat}(hi:i<n)(ho:pcs i=.out):Mu.meas n (Mu.set pcs i .gx) s=Mu.meas n pcs s+(6*(18*n+1)+16):=by
 have C:=Mu.fL Mu.fP pcs i .gx hi;have R:=Mu.fL (Mu.jc s.w) pcs i .gx hi;rw[ho]at C R;have c0:Mu.fP .out=0:=rfl;have c1:Mu.fP .gx=6:=rfl;have r0:Mu.jc s.w .out=0:=rfl;have r1:Mu.jc s.w .gx=16:=rfl;rw[c0,c1]at C;rw[r0,r1]at R;have hp:Mu.phi n (Mu.set pcs i .gx) s=Mu.phi n pcs s+6:=by unfold Mu.phi;omega
 unfold Mu.meas;rw[hp,Nat.add_mul];omega
theorem Hr(hj:j<n)(h1:(s.w j).work=true)(h2:x.work=true)(h:x.nd=(s.w j).nd)(ho:(s.w j).pc=.out)(hp:x.pc=.gx)(he:(s.w j).ex n=yM n)(hx:x.ex n=0):MS.fX n (s.aE j x s.sh) s:=by refine ua hj h1 h2 h ?_;rw[hp,AH hj ho,he,hx];unfold yM;omega
theorem bD.Q2(I:bD n s)(hj:j<n)(h1:(s.w j).work=true)(h2:x.work=true)(hx:x.ok=true)(ho:(s.w j).pc=.out)(hp:x.pc=.gx):bD n (s.aE j x s.sh):=I.work hj h1 h2 hx (by rw[hp];exact Kd I.mu ho)
end
end Go.aN
namespace Go.aN
open Go.Conc
open Go.ConcN (sumTo upd sumTo_upd upd_ne upd_same)
section
variable{P:Program}{A:pu P}{Z:Base}{s s':A.S}{f f':Nat->Node P}{q q':Nat->Nat}{kk kk':Nat->ag}{OO OO':Nat->ah}{J J' M M':Nat->Prop}{gs:Array Goroutine}{w w':World}{t u:Trace}{i:Nat}{g g1:Goroutine}
structure Beside(A:pu P)(s s':A.S)(f f':Nat->Node P)(q q':Nat->Nat)(kk kk':Nat->ag)(OO OO':Nat->ah)(J J':Nat->Prop)(w':World)(i:Nat)(g g1:Goroutine):Prop where
 ef:∀j,j≠i->f' j=f j
 eq:∀j,j≠i->q' j=q j
 ek:∀j,j≠i->j<A.top->kk' j=kk j
 eO:∀j,j≠i->j<A.top->OO' j=OO j
 eJ:∀j,j≠i->A.Live s j->J j->J' j
 live:∀j,j≠i->(A.Live s' j↔A.Live s j)
 walk:∀j,j≠i->(A.Walk s' j↔A.Walk s j)
 held:∀j,j≠i->(A.mS s' j↔A.mS s j)
 mo:∀j,j≠i->A.Live s j->A.mo s' j=A.mo s j
 at':∀j k O x,j≠i->A.Walk s j->A.At s j k O x->A.At s' j k O x
 deaf:∀j,j≠i->A.Walk s j->A.deaf s' j=A.deaf s j
 xk:∀j,j≠i->A.Walk s j->A.xk s j->A.xk s' j\/∀x,A.At s j (kk j) (OO j) x->woken P g g1 w' (blk x)=x
 L7:∀j k O x,j≠i->A.mS s j->A.Cn s j k O x->A.Cn s' j k O x
 tie:∀j x,j≠i->A.Live s j->A.JZ s j x->A.JZ s' j x
structure Self(P:Program)(A:pu P)(s':A.S)(f':Nat->Node P)(q':Nat->Nat)(kk':Nat->ag)(OO':Nat->ah)(J':Nat->Prop)(t':Trace)(i:Nat)(g1:Goroutine):Prop where
 live:A.Live s' i->i<A.top/\g1=(f' i).g/\(f' i).m=A.mo s' i/\(f' i).k=kk' i/\(f' i).O=OO' i/\(f' i).g.status=.running/\Deaf t' i=0/\(i=0\/J' i)/\A.JZ s' i (f' i)
 walk:A.Walk s' i -> ¬A.Live s' i/\i<A.top/\Deaf t' i=A.deaf s' i/\∃g',A.At s' i (kk' i) (OO' i) g'/\GY P A.Wd (A.xk s' i) (q' i) g1 g'
 held:A.mS s' i -> ¬A.Live s' i/\¬A.Walk s' i/\i<A.top/\Deaf t' i=0/\g1.status=.blocked/\A.Cn s' i (kk' i) (OO' i) g1
 rest:¬A.Live s' i -> ¬A.Walk s' i -> ¬A.mS s' i->i≠0/\QuitsD P (q' i) (Deaf t' i) g1
theorem br.step(B:xl A)(hC:br A Z s f q kk OO J M gs w t)(hi:gs[i]?=some g)(hops:∀op∈u,op.g=i)(hP:bV Z kk' OO' J' M' w' (t++u))(hEx:A.Ex s' kk' OO' J' M' gs.size w' (t++u))
 (hw:∀j x,A.mS s j->A.Cn s j (kk j) (OO j) x->x.again w'=x) (hb:Beside A s s' f f' q q' kk kk' OO OO' J J' w' i g g1) (hs:Self P A s' f' q' kk' OO' J' (t++u) i g1):
 br A Z s' f' q' kk' OO' J' M' ((gs.map (woken P g g1 w')).setIfInBounds i g1) w' (t++u):=by
 have hlt:i<gs.size:=(Array.getElem?_eq_some_iff.1 hi).1;have hR:=hC.J0 B (i:=i) (a:=g) (a':=g1) (x:=g1) (w':=w') hw;have hself:((gs.map (woken P g g1 w')).setIfInBounds i g1)[i]?=some g1:=Array.getElem?_setIfInBounds_self_of_lt (by simpa using hlt)
 have hD:∀j,j≠i->Deaf (t++u) j=Deaf t j:=λj hj=>Deaf_other t (Ne.symm hj) _ hops
 refine⟨hC.lk,hP,λj hj=>?_,λj hj=>?_,λj hj=>?_,λj x hx n1 n2 n3=>?_,λj hj=>?_,by simpa using hEx⟩
 . by_cases e:j=i
   . subst e
     obtain⟨p0,p1,p2⟩:=hs.live hj;exact⟨p0,by rw[hself,p1],p2⟩
   . have hj0:=(hb.live j e).1 hj
     obtain⟨p0,p1,pm,p2,p3,p4,p5,p6⟩:=hC.live j hj0;rw[hb.ef j e,hb.ek j e p0,hb.eO j e p0,hD j e,hb.mo j e hj0];exact⟨p0,hR.live j e hj0,pm,p2,p3,p4,p5,p6.1.imp id (hb.eJ j e hj0),hb.tie j _ e hj0 p6.2⟩
 . by_cases e:j=i
   . subst e
     obtain⟨p0,p1,p2,g',p3,p4⟩:=hs.walk hj;exact⟨p0,p1,p2,g1,g',hself,p3,p4⟩
   . have hj0:=(hb.walk j e).1 hj
     obtain⟨p0,p1,p2,x,x',p3,p4,p5⟩:=hC.walk j hj0;refine⟨λh=>p0 ((hb.live j e).1 h),p1,by rw[hD j e,hb.deaf j e hj0];exact p2,?_⟩
     rw[hb.ek j e p1,hb.eO j e p1,hb.eq j e];obtain⟨y,y',r1,r2,r3⟩:=hR.walk j e hj0
     by_cases hd:∃x,A.xk s j/\y=blk x/\A.At s j (kk j) (OO j) x/\q j=0
     . obtain⟨x0,d1,d2,d3,d4⟩:=hd
       rcases hb.xk j e hj0 d1 with h|h
       . exact⟨y,x0,r1,hb.at' j _ _ _ e hj0 d3,.inl ⟨h,d2,d4⟩⟩
       ·
        have hget:((gs.map (woken P g g1 w')).setIfInBounds i g1)[j]?=some (woken P g g1 w' x):=by rw[Array.getElem?_setIfInBounds_ne (Ne.symm e),Array.getElem?_map,p3];rfl
        obtain⟨a1,a2⟩:=B.kU p4
        rcases p5 with⟨_,rfl,_⟩|p5
        . rw[h _ p4]at hget
          rw[hget]at r1;have:=Option.some.inj r1;rw[d2]at this;have hbad:x'.status=.blocked:=by rw[this];rfl
          rw[a1]at hbad;cases hbad
        . rw[woken_run (p5.first a1)]at hget
          rw[hget]at r1;have hh:=Option.some.inj r1;have hbad:x.status=.blocked:=by rw[hh,d2];rfl
          rw[p5.first a1]at hbad;cases hbad
     . rcases r3 with⟨d1,rfl,d2⟩|r3
       . exact absurd ⟨y',d1,rfl,r2,d2⟩ hd
       . exact⟨y,y',r1,hb.at' j _ _ _ e hj0 r2,.inr r3⟩
 . by_cases e:j=i
   . subst e
     obtain⟨p0,p1,p2,p3,p4,p5⟩:=hs.held hj;exact⟨p0,p1,p2,p3,g1,hself,p4,p5⟩
   . have hj0:=(hb.held j e).1 hj
     obtain⟨p0,p1,p2,p3,_⟩:=hC.held j hj0;obtain⟨x,r1,r2,r3⟩:=hR.held j e hj0;refine⟨λh=>p0 ((hb.live j e).1 h),λh=>p1 ((hb.walk j e).1 h),p2,by rw[hD j e];exact p3,x,r1,r2,?_⟩
     rw[hb.ek j e p2,hb.eO j e p2];exact hb.L7 j _ _ _ e hj0 r3
 . by_cases e:j=i
   . subst e
     rw[hself]at hx;obtain rfl:=Option.some.inj hx;exact hs.rest n1 n2 n3
   . rw[hb.eq j e,hD j e]
     exact hR.rest j x e hx (λh=>n1 ((hb.live j e).2 h)) (λh=>n2 ((hb.walk j e).2 h)) (λh=>n3 ((hb.held j e).2 h))
 . have hj':gs.size<=j:=by simpa using hj
   rw[hD j (by omega)];exact hC.above j hj'
end
theorem knows_own{t u:Trace}{i m:Nat}{op:MemOp}(h:u[m]?=some op)(hg:op.g=i):Knows (t++u) i (t.size+m):=⟨t.size+m,op,cY h,hg,.inl rfl⟩
section
variable{Z:Base}{kk:Nat->ag}{OO:Nat->ah}{J M:Nat->Prop}{w w':World}{t u:Trace}{i:Nat}
def yP(kk:Nat->ag)(OO:Nat->ah)(B:Nat)(t:Trace)(i:Nat)(u:Trace):Prop:=∀op∈u,∀a,op.act.touch?=some a->a.kind=.atomic/\(a.loc.isMemory=true->GO kk OO B a.loc)/\∀n b,touchAt t n=some b->b.loc=a.loc->b.kind=.plain->Knows t i n
theorem bV.Lm(h:bV Z kk OO J M w t)(hops:∀op∈u,op.g=i)(hw:w'.heap.size=w.heap.size)(hq:Calm Z w w')(hb:∀b,Kept kk OO w w' b)(hl:∀op∈u,op.act.low w.heap.size)(hu:yP kk OO w.heap.size t i u)
 (hun:∀m op a,u[m]?=some op->op.act.touch?=some a->a.loc.isMemory=true->Told Z J M (t++u) (t.size+m) a):bV Z kk OO J M w' (t++u):=
 h.rY (λa b=>a=b) hw hq hb hl (λa b e n x _ _ _ hk=>by subst e;exact hk.app u) (λj b n v h=>⟨j,rfl,h⟩) (λj b s h=>⟨j,rfl,h⟩) (λj b x h=>⟨j,rfl,h,λ_ h=>h⟩) h.iV
  (fun said=>noRace_append (h.clean said) hops λn a ha op hop b hb hc=>by
    obtain⟨h1,h2,h3⟩:=hu op hop b hb;obtain⟨c1,_,_,c4⟩:=hc;rcases c4 with c4|c4|⟨_,_,c4⟩
    . exact h3 n a ha c1 c4
    . rw[h1]at c4;cases c4
    . rw[h1]at c4;cases c4)
  (λop hop a ha hm=>(hu op hop a ha).2.1 hm) hun
  (λn a ha hm h=>h.elim (λ⟨j,h1,h2⟩=>.inr (.inl ⟨j,h1,h2.app _⟩)) (λ⟨p,h1,h2⟩=>.inr (.inr (.inl ⟨p,h1,h2.app _⟩))))
theorem bV.sync(h:bV Z kk OO J M w t)(hJ:i=0\/J i)(hops:∀op∈u,op.g=i)(hw:w'.heap.size=w.heap.size)(hq:Calm Z w w')(hb:∀b,Kept kk OO w w' b)(hl:∀op∈u,op.act.low w.heap.size)(hu:yP kk OO w.heap.size t i u):bV Z kk OO J M w' (t++u):=
 h.Lm hops hw hq hb hl hu λm op a h1 h2 h3=>by
  have hk:Knows (t++u) i (t.size+m):=knows_own h1 (hops op (Array.mem_of_getElem? h1));rcases hJ with rfl|hJ
  . exact .inl hk
  . exact .inr (.inl ⟨i,hJ,hk⟩)
end
section
variable{P:Program}{A:dM}{Z:Base}{s:MS P}{kk:Nat->ag}{OO:Nat->ah}{J M:Nat->Prop}{gsz:Nat}{w w':World}{t u:Trace}{j:Nat}{x:be P}{sh:Mu.Sh}
theorem kY(hj:j<A.n)(h:x.busy=(s.w j).busy)(i:Nat):eX P A (s.aE j x sh) i↔eX P A s i:=by
 have:∀l,((s.aE j x sh).w l).busy=(s.w l).busy:=λl=>by
  by_cases e:l=j
  . subst e;rw[aD,h]
  . rw[bf e]
 unfold eX;simp only[this];rfl
theorem cW.work(h:cW P A Z s kk OO J M gsz w t)(hj:j<A.n)(h1:(s.w j).work=true)(h2:x.work=true)(ho:x.owns=(s.w j).owns)(hI:bD A.n (s.aE j x sh))(hmu:ShM A.fb A.fo w' sh)
 (hheap:∀b,b≠A.fb->w'.heap[b]?=w.heap[b]?) (hfb:∃c e,w'.heap[A.fb]?=some (.cells c e (0,0))) (hu:∀op∈u,(∀a,op.act.touch?=some a->a.kind=.atomic)/\∀a,op.act≠.mark (.release a)):
 cW P A Z (s.aE j x sh) kk OO J M gsz w' (t++u):=by
 have hown:∀l,((s.aE j x sh).w l).owns=(s.w l).owns:=λl=>by
  by_cases e:l=j
  . subst e;rw[aD,ho]
  . rw[bf e]
 have hbusy:x.busy=(s.w j).busy:=by rw[(bb h1).2.2.2.2.2.1,(bb h2).2.2.2.2.2.1]
 refine⟨hI,h.size,by rw[hheap _ A.d1];exact h.v7,hmu,h.gr.same (.of_heap (hheap _ (Ne.symm A.d4))),hfb,by rw[hheap _ (Ne.symm A.d4)];exact h.wv,h.fB,h.dI,λi y hy=>?_,λl hl hlo=>h.vm l hl (by rw[<-hown l];exact hlo),λhlo=>h.Hp λl hl=>by rw[<-hown l];exact hlo l hl,λc hc=>?_,
  λi=>by rw[h.hJ i];exact(kY hj hbusy i).symm,h.rb u,h.ki u,h.iX u (λop hop a ha _ hk=>?_),h.lF u (λop hop a ha _ hk=>?_),h.mW u,h.gV u (λop hop=>(hu op hop).2),h.AE,h.qc,h.jp,h.dX,h.la,by simp;exact Nat.le_trans h.n0 (Nat.le_add_right _ _)⟩
 . obtain⟨l,f,h3,h4,h5,h6⟩:=h.tok i y hy
   exact⟨l,f,h3,h4,by rw[hown];exact h5,h6⟩
 . obtain⟨h3,h4⟩:=h.Gk c hc
   exact⟨h3,λl hl=>by rw[hown];exact h4 l hl⟩
 . rw[(hu op hop).1 a ha]at hk;cases hk
 . rw[(hu op hop).1 a ha]at hk;cases hk
end
section
variable{P:Program}
theorem yQ {y:Sy} {s:jf} {fr:Frame} {f:FuncId} {l:List SV} {e:Array Value->Sem Value} {cs:List Frame} (hr:FR y s fr) (h:aR s=some (f,l)) (he:Ext P f e):mayWake P (G fr cs)=true:=by
 obtain⟨ops,i,rest,kk,o,as,ats,h1,h2,h3,h4,h5,h6⟩:=cU hr h;obtain⟨fn,e1,e2,e3,e4,e5⟩:=he.ex;have hm:fr.mode = .run:=by rw[h5];rfl
 have ht:fr.todo = .inRegion ops (i :: rest) :: kk:=by rw[h5];rfl
 unfold mayWake;simp only[G,Goroutine.frame,hm,ht,h1,Option.map_some,h3,Frame.eval,e1,Option.any_some];simpa using e3
theorem ES{n:xp}{b o:Nat}{kind:CallKind}{cs:List Frame}{g:Goroutine}(C:iy P n)(X:iz P n)(h:mL P n b o kind .give cs g):mayWake P g=true:=by
 obtain⟨c,y,fr,frs,hc,hy,hr,hrs,rfl⟩:=h;rcases hc with rfl|rfl
 . exact yQ hr (C.PG b o kind) X.mU
 . exact yQ hr (C.PH b o kind) X.mU
theorem lG{b o:Nat}{w w':World}(h:MW b o w w')(hc:∃c e,w.heap[b]?=some (.cells c e (0,0))):
 w'.heap.size=w.heap.size/\(∀r,r≠b->w'.heap[r]?=w.heap[r]?)/\∃c e c',w.heap[b]?=some (.cells c e (0,0))/\w'.heap[b]?=some (.cells c' e (0,0))/\c'.size=c.size/\∀n,n≠o->n≠o+1->c'[n]?=c[n]?:=by
 obtain⟨c,e,hc⟩:=hc;rcases h.2 with h|⟨i,v,hi,hv,h⟩
 . exact⟨by rw[h],λr _=>by rw[h],c,e,c,hc,by rw[h];exact hc,rfl,λ_ _ _=>rfl⟩
 . refine⟨by rw[h];simp[World.setCell],λr hr=>?_,c,e,c.setIfInBounds i v,hc,?_,by simp,λn h1 h2=>?_⟩
   . rw[h];simp only[World.setCell,Array.getElem?_modify,if_neg (Ne.symm hr)]
   . rw[h];simp[World.setCell,Array.getElem?_modify,hc]
   . exact Array.getElem?_setIfInBounds_ne (by rcases hi with rfl|rfl<;>omega)
end
section
variable{P:Program}{A:dM}{Z:Base}{s:MS P}{kk:Nat->ag}{OO:Nat->ah}{J M:Nat->Prop}{gsz:Nat}{w w':World}{t:Trace}{j:Nat}{x:be P}{sh:Mu.Sh}
theorem cW.calm(h:cW P A Z s kk OO J M gsz w t)(hm:MW A.fb A.fo w w'):Calm Z w w':=by obtain⟨h1,h2,_⟩:=lG hm h.ti;have:=h.dX.2.1;exact⟨hm.1,λb hb=>h2 b (by omega)⟩
theorem cW.kept(h:cW P A Z s kk OO J M gsz w t)(hm:MW A.fb A.fo w w'):∀b,Kept kk OO w w' b:=λb=>by
 obtain⟨h1,h2,c,e,c',h3,h4,h5,h6⟩:=lG hm h.ti;by_cases hb:b=A.fb
 . subst hb
   refine .inr (.inr ⟨c,c',e,h3,h4,h5,λi x hx=>by obtain⟨_,g,_,_,_,rfl,hg⟩:=h.tok i x hx;exact⟨g,rfl,λn hn=>absurd (hg n) hn⟩,λn=>?_⟩);by_cases e1:n=A.fo
   . subst e1;exact .inr λi=>(h.dI i).1
   . by_cases e2:n=A.fo+1
     . subst e2;exact .inr λi=>(h.dI i).2.1
     . exact .inl (h6 n e1 e2)
 . exact .inl (h2 b hb)
theorem cW.Oe(h:cW P A Z s kk OO J M gsz w t){n:Nat}(hn:n=A.fo\/n=A.fo+1):GO kk OO w.heap.size (.cell ⟨A.fb,n,none⟩):=by
 have hF:A.fb<w.heap.size:=by obtain⟨c,e,h1⟩:=h.ti;exact(Array.getElem?_eq_some_iff.1 h1).1
 refine⟨hF,λi=>⟨λhc=>?_,?_⟩⟩
 . obtain⟨x,hx⟩:=hc.own
   obtain⟨j,f,_,_,_,rfl,hf⟩:=h.tok i x hx
   rcases hc with⟨o,q⟩|⟨m,q,_⟩|⟨g,q,hg⟩
   . rw[hx]at q;cases q
   . rw[hx]at q;cases q
   . rw[hx]at q;cases q;exact hg (hf _)
 . rcases hn with rfl|rfl
   . exact(h.dI i).1
   . exact(h.dI i).2.1
theorem mE{b o:Nat}{e:Event}(he:(e.loc=.mark .disable\/e.loc=.mark .enable)\/∃i,(i=o\/i=o+1)/\e.loc=.cell ⟨b,i,none⟩/\e.sync=true):
 (∀a,(MemAct.ofEvent e).touch?=some a->a.kind=.atomic/\∃i,(i=o\/i=o+1)/\a.loc=.cell ⟨b,i,none⟩)/\(∀a,MemAct.ofEvent e≠.mark (.release a))/\∀B,b<B->(MemAct.ofEvent e).low B:=by
 obtain⟨loc,wr,sy⟩:=e;rcases he with(h|h)|⟨i,hi,h,h'⟩
 . simp only at h;subst h
   simp[MemAct.ofEvent,MemAct.touch?,MemAct.low]
 . simp only at h;subst h
   simp[MemAct.ofEvent,MemAct.touch?,MemAct.low]
 . simp only at h h';subst h;subst h'
   refine⟨λa ha=>?_,by simp[MemAct.ofEvent],λB hB=>by simpa[MemAct.ofEvent,MemAct.low,Loc.low]using hB⟩;simp only[MemAct.ofEvent,MemAct.touch?,Option.some.injEq]at ha;subst ha;exact⟨rfl,i,hi,rfl⟩
theorem cW.Ht(h:cW P A Z s kk OO J M gsz w t){es:Array Event}(he:EvM A.fb A.fo es){i:Nat}(hi:bE P A s i)(fn:FuncId)(pos:String):
 yP kk OO w.heap.size t i (MemOp.ofEvents i fn pos es)/\(∀op∈MemOp.ofEvents i fn pos es,op.act.low w.heap.size)/\∀op∈MemOp.ofEvents i fn pos es,(∀a,op.act.touch?=some a->a.kind=.atomic)/\∀a,op.act≠.mark (.release a):=by
 have hF:A.fb<w.heap.size:=by obtain⟨c,e,h1⟩:=h.ti;exact(Array.getElem?_eq_some_iff.1 h1).1
 refine⟨λop hop a ha=>?_,λop hop=>?_,λop hop=>?_⟩<;>obtain⟨e,he1,rfl⟩:=Go.Conc.mem_ofEvents hop<;>obtain⟨t1,t2,t3⟩:=mE (he e he1)
 . obtain⟨h1,n,hn,h2⟩:=t1 a ha
   refine⟨h1,λ_=>by rw[h2];exact h.Oe hn,λm b hb hl hk=>h.quiet m b hb ?_ hk i hi⟩
   rw[hl,h2];exact⟨rfl,.inl ⟨rfl,hn⟩⟩
 . exact t3 _ hF
 . exact⟨λa ha=>(t1 a ha).1,t2⟩
end
section
variable{P:Program}{A:dM}{Fin:ag->ah->Goroutine->Prop}{Z:Base}{s:MS P}{f f':Nat->Node P}{q q':Nat->Nat}{kk kk':Nat->ag}{OO OO':Nat->ah}{J J' M:Nat->Prop}{gs:Array Goroutine}{w w':World}{t:Trace}{j:Nat}{x:be P}{sh:Mu.Sh}{g g1:Goroutine}
theorem AI{n:Nat}(h:x.gz=(s.w j).gz):MS.rem P n (s.aE j x sh)=MS.rem P n s:=by
 unfold MS.rem;congr 1;funext l;by_cases e:l=j
 . subst e;rw[aD,h]
 . rw[bf e]
theorem jJ(hZ:A.b+A.n+1<=Z.lk)(hj:j<A.n)(h1:(s.w j).work=true)(h2:x.work=true)(hf:∀i,i≠A.b+j->f' i=f i)(hq:∀i,i≠A.b+j->q' i=q i)(hk:∀i,i≠A.b+j->i<A.b+A.n+1->kk' i=kk i)(hO:∀i,i≠A.b+j->i<A.b+A.n+1->OO' i=OO i)(hJ:∀i,J i->J' i)
 (hdry:(s.sh.ms=0->sh.ms=0)\/(mayWake P g=true/\g1.status=.running)) (hE:∀{i k O y},Od P A Fin s i k O y->y.status=.running/\y.offers=none):
 Beside (bW P A Fin Z hZ) s (s.aE j x sh) f f' q q' kk kk' OO OO' J J' w' (A.b+j) g g1:=by
 have hb:=A.hb;have wl:∀{i l:Nat},i≠A.b+j->i=A.b+l->(s.aE j x sh).w l=s.w l:=λ{i l} h e=>bf (by omega)
 have hr:MS.rem P A.n (s.aE j x sh)=MS.rem P A.n s:=AI (by rw[(bb h2).2.2.1,(bb h1).2.2.1])
 have live:∀i,i≠A.b+j->(dg P A (s.aE j x sh) i↔dg P A s i):=λi hi=>by
  constructor<;>rintro(h|⟨l,h1,h2,h3⟩|h)
  . exact .inl h
  . exact .inr (.inl ⟨l,h1,h2,by rw[<-wl hi h2];exact h3⟩)
  . exact .inr (.inr h)
  . exact .inl h
  . exact .inr (.inl ⟨l,h1,h2,by rw[wl hi h2];exact h3⟩)
  . exact .inr (.inr h)
 have walk:∀i,i≠A.b+j->(eV P A (s.aE j x sh) i↔eV P A s i):=λi hi=>by
  constructor<;>rintro(h|⟨l,h1,h2,h3⟩|h)
  . exact .inl h
  . exact .inr (.inl ⟨l,h1,h2,by rw[<-wl hi h2];exact h3⟩)
  . exact .inr (.inr h)
  . exact .inl h
  . exact .inr (.inl ⟨l,h1,h2,by rw[wl hi h2];exact h3⟩)
  . exact .inr (.inr h)
 have held:∀i,i≠A.b+j->(dW P A (s.aE j x sh) i↔dW P A s i):=λi hi=>by
  constructor<;>rintro(h|⟨l,h1,h2,h3⟩)
  . exact .inl h
  . exact .inr ⟨l,h1,h2,by rw[<-wl hi h2];exact h3⟩
  . exact .inl h
  . exact .inr ⟨l,h1,h2,by rw[wl hi h2];exact h3⟩
 refine⟨hf,hq,hk,hO,λi _ _ h=>hJ i h,live,walk,held,λi hi hl=>?_,λi k O y hi _ hA=>?_,λi hi hw=>?_,λi hi hw hd=>?_,λi k O y hi _ hA=>?_,λi y hi _ ht=>?_⟩
 . show bu P A Fin (s.aE j x sh) i=bu P A Fin s i
   unfold bu;rw[hr]
   rcases hl with⟨rfl,_⟩|⟨l,h3,rfl,_⟩|⟨rfl,_⟩
   . rfl
   . have e:A.b+l-A.b=l:=by omega
     rw[e,bf (by omega)]
     rfl
   . rw[if_neg (by omega),if_neg (by omega),if_neg (by omega),if_neg (by omega)]
     rfl
 . rcases hA with h|⟨l,h3,h4,h5⟩|h
   . exact .inl h
   . exact .inr (.inl ⟨l,h3,h4,by rw[wl hi h4];exact h5⟩)
   . exact .inr (.inr h)
 . show cN P A (s.aE j x sh) i=cN P A s i
   unfold cN
   rcases hw with⟨rfl,_⟩|⟨l,h3,rfl,_⟩|⟨rfl,_⟩
   . rfl
   . have e:A.b+l-A.b=l:=by omega
     rw[e,bf (by omega)]
     rfl
   . rw[if_neg (by omega),if_neg (by omega),if_neg (by omega),if_neg (by omega)]
     rfl
 . rcases hdry with hdry|⟨hm,hr⟩
   . refine .inl ?_
     rcases hd with⟨l,sv,Y,h3,h4,h5,h6⟩|h
     . exact .inl ⟨l,sv,Y,h3,h4,by rw[wl hi h4];exact h5,hdry h6⟩
     . exact .inr h
   . refine .inr λy hy=>?_
     obtain⟨a1,a2⟩:=hE hy;have hc:(mayWake P g && g1.status !=.blocked && g1.status !=.waiting)=true:=by rw[hm,hr];rfl
     unfold Go.Conc.woken;rw[if_pos hc,oT a1 a2]
 . rcases hA with⟨h0,g₂,z,h3,h4,h5,h6⟩|h
   . exact .inl ⟨h0,g₂,z,h3,h4,h5,by rw[hr];exact h6⟩
   . exact .inr h
 . exact λl b X h3 h4 h5=>ht l b X h3 h4 (by rw[<-h5];exact(wl hi h4).symm)
end
end Go.aN

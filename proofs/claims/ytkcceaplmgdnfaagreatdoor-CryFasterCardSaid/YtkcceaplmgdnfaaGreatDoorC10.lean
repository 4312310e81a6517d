import Derived.Conc.CrowdComm
import Derived.Test.YtkcceaplmgdnfaaGreatDoorC9
set_option linter.all false
namespace Go.cC
section
open Go.Conc
open Go.ConcN (sumTo upd sumTo_upd upd_ne upd_same)
structure bJ where
 b:Nat
 n:Nat
 cl:Nat
 cF:Nat
 fb:Nat
 fo:Nat
 gb:Nat
 mb:Nat
 GI:rK->Prop
 res:Nat->AV
 val:Nat->Value
 nm:CB
 ng:OA
 hb:0<b/\(cl=0\/cl=b+n)
 hn:n<=900
 d1:cF≠fb
 d2:cF≠gb
 d3:cF≠mb
 d4:fb≠gb
 d5:fb≠mb
 d6:gb≠mb
def bJ.dir(A:bJ):Bool:=A.cl==0
def bJ.cell(A:bJ)(j:Nat):Nat:=A.fo+2+j
def KR{A:bJ}(h:A.dir=true):A.cl=0:=by simpa[bJ.dir]using h
def uQ{A:bJ}(h:A.dir=false):A.cl=A.b+A.n:=by have:=A.hb;simp[bJ.dir]at h;omega
def gT:abV:=λ_ _ _=>False
def KS:Nat->aci:=λ_=>none
def bJ.Tk(A:bJ)(j:Nat)(f:Nat->aci):Prop:=if A.dir then ∃v,f=λi=>if i=A.cell j then some v else none else f=KS
def bG(fo:Nat):Nat->aci:=λi=>if i=fo then some (.int .i32 0)else if i=fo+1 then some (.int .u32 0)else none
section
variable(P:acH)(A:bJ)(Fin:abV)
def Qd(j:Nat)(k:ao)(O:aj)(g:acx)(N:abV):Prop:=
 ∃ kind c rest e,kind≠.early/\g=G (Frame.enter P A.nm.lock #[.pointer (some ⟨A.fb,A.fo,none⟩)] kind) (c::rest)/\O A.fb=none/\k.sh A.fb=some e/\(A.dir=true->A.cell j<e.2)/\
   ∀b x a f,k.Le b->ko b x a->A.GI a->O A.mb=none->A.Tk j f->N b ((O.set A.mb x).set A.fb (.part f)) (jT kind c rest (.tuple #[]))
def GL(j:Nat)(k:ao)(O:aj)(g:acx)(N:abV):Prop:=
 ∃ kind c rest f x a,kind≠.early/\g=G (Frame.enter P A.nm.unlock #[.pointer (some ⟨A.fb,A.fo,none⟩)] kind) (c::rest)/\O A.fb=some (.part f)/\O A.mb=some x/\ko k x a/\A.GI a/\(A.dir=true->k.cell A.fb (A.cell j)=some (A.val j))/\
   N k ((O.del A.mb).del A.fb) (jT kind c rest (.tuple #[]))
def kM:Mo:=⟨false,false,λk O g N=>N=gT/\∃a fn tmps todo,P.funcs[a]?=some fn/\fn.results=#[]/\g=G (Frame.enter P A.ng.done #[.pointer (some ⟨A.gb,0,none⟩)] .deferred) [kA P a tmps todo,cB P]⟩
def Ev(N:abV):abV:=if A.dir then T P (kM P A) gT else N
def iq(j:Nat):Mo:=⟨false,false,λk O g N=>Qd P A j k O g N\/GL P A j k O g (Ev P A N)\/(A.dir=false/\N=gT/\O A.fb=none/\∃a z v,(∀w,Sat k O w->stepG P false g w=.comm a #[scase A.cF v z] true .send w #[])/\V k v (A.res j)/\T P (kM P A) gT k O (Go.Conc.served a undef))⟩
def ru:Mo:=⟨false,false,λk O g N=>N=gT/\∃a n,mayWake P g=true/\(∀w s r b,Sat k O w->w.heap[A.cF]?=some (.chan 0 #[] false s r b)->stepG P false g w=.go a {w with heap:=w.heap.setIfInBounds A.cF (.chan 0 #[] true s r b)} #[⟨.obj A.cF,false,true⟩,⟨.obj A.cF,true,true⟩])/\QuitsD P n 0 a⟩
def xf:Mo:=⟨false,false,λk O g N=>N=gT/\∃c rest,g=G (Frame.enter P A.ng.wait #[.pointer (some ⟨A.gb,0,none⟩)] .normal) (c::rest)/\∀a,k.Le a->T P (ru P A) gT a O (jT .normal c rest (.tuple #[]))⟩
def TP(k:ao)(O:aj)(c:Frame)(rest:acr):Prop:=(∃e,k.sh A.fb=some e)/\∀b x a,k.Le b->(∀j,j<A.n->b.cell A.fb (A.cell j)=some (A.val j))->ko b x a->A.GI a->Fin b ((O.set A.mb x).set A.fb (.part (bG A.fo))) (jT .normal c rest (.tuple #[]))
def dK(k:ao)(O:aj)(g a:acx)(z:Value):Prop:=∀w,Sat k O w->stepG P true g w=.comm a #[rcase A.cF z] true (.recv true) w #[]
def qO:Nat->acz->Mo
 | 0,R=>⟨true,false,λk O g N=>N=gT/\∃b z,dK P A k O g b z/\dK P A k O b b z/\b.status=.running/\(∃e,k.sh A.fb=some e)/\
    ∀c x a,k.Le c->ko c x a->A.GI a->Fin c ((O.set A.mb x).set A.fb (.part (bG A.fo))) (Go.Conc.served b (.tuple #[z,.bool false]))⟩
 | m + 1,R=>⟨true,false,λk O g N=>N=gT/\∃b z,dK P A k O g b z/\dK P A k O b b z/\b.status=.running/\
     ∀j∈R,∀c v,k.Le c->V c v (A.res j)->T P (qO m (R.erase j)) gT c O (Go.Conc.served b (.tuple #[v,.bool true]))⟩
def oP:Nat->Mo
 |0=>if A.dir then⟨true,false,λk O g N=>N=gT/\∃c rest,g=G (Frame.enter P A.ng.wait #[.pointer (some ⟨A.gb,0,none⟩)] .normal) (c::rest)/\TP A Fin k O c rest⟩else⟨true,false,λk O g N=>N=gT/\∃a child,(∀w,Sat k O w->stepG P true g w=.spawn a child w #[])/\T P (xf P A) gT k aj.bot child/\T P (qO P A Fin A.n (List.range A.n)) gT k O a⟩
 | m + 1=>⟨true,false,λk O g N=>N=gT/\∃c rest,g=G (Frame.enter P A.ng.add #[.pointer (some ⟨A.gb,0,none⟩),.int .i64 1] .normal) (c::rest)/\
     T P ⟨true,false,λk O g N=>N=gT/\∃a child,(∀w,Sat k O w->stepG P true g w=.spawn a child w #[])/\T P (iq P A (A.n-(m+1))) gT k aj.bot child/\T P (oP m) gT k O a⟩ gT k O (jT .normal c rest (.tuple #[]))⟩
def EZ(m:Nat):Mo:=⟨true,false,λk O g N=>N=gT/\∃a child,(∀w,Sat k O w->stepG P true g w=.spawn a child w #[])/\T P (iq P A (A.n-(m+1))) gT k aj.bot child/\T P (oP P A Fin m) gT k O a⟩
structure HY where
 m:Mo
 k:ao
 O:aj
 g:acx
 N:abV
 h0:g.status=.running
 ht:m.de k O g N
 c:∀k' O' g',N k' O' g'->TT P m k' O' g'
variable {P} in
def HY.node(y:HY P):Node P:=⟨y.m,y.k,y.O,y.g,.de y.N y.h0 y.ht y.c⟩
inductive bq where
 |idle
 |run (h:Bool) (X:Node P)
 |lk (p:Bb) (Y:HY P)
 |un (p:Bb) (Y:HY P)
 |wait
 |yD
 |dn (p:GJ)
 |gone
inductive jL where
 |none|eo|wt (p:GJ)|jr|gone
inductive oZ where
 |add (j:Nat)|bC (j:Nat) (p:GJ)|spawn (j:Nat)|recv|parked|off
structure MS where
 d:Bool
 ms:oZ
 sp:Nat
 w:Nat->bq P
 c:jL
 sh:Mu.Sh
 gc:Nat
 gv:Nat
 gm:Nat
def Bb.abs:Bb->Mu.Pc
 |.ld=>.out|.fY=>.fY|.rd l=>.rd l|.sq o l=>.sq o l|.sw o l=>.sw o l|.km o l=>.km o l|.t1 sv=>.gL sv|.gL sv=>.gL sv|.tq=>.tq|.up sv=>.up sv|.add o sv=>.add o sv
 |.le=>.held|.la=>.held|.back=>.held|.Gw=>.held|.ur=>.held|.ud=>.held|.held=>.held|.jc o=>.jc o|.vp=>.vp|.give=>.give|.ue=>.out|.CG=>.out
variable{P}
def bq.pc:bq P->Mu.Pc
 |.run true _=>.held
 |.lk p _=>p.abs
 |.un p _=>p.abs
 |_=>.out
def bq.owns:bq P->Bool
 |.run h _=>h
 |.un .Gw _=>true
 |.un .ur _=>true
 |_=>false
def CI:Bb->Bool
 |.ld=>true|.fY=>true|.rd _=>true|.sq ..=>true|.sw ..=>true|.km ..=>true|.t1 _=>true|.gL _=>true|.tq=>true|.up _=>true|.add ..=>true|.le=>true|.la=>true
 |_=>false
def yR:Bb->Bool
 |.Gw=>true|.ur=>true|.ud=>true|.held=>true|.jc _=>true|.vp=>true|.give=>true|.ue=>true
 |_=>false
def bq.deaf:bq P->Nat
 |.lk .ld _=>0|.lk .la _=>0|.lk _ _=>1
 |.un .Gw _=>0|.un .ur _=>0|.un .ud _=>0|.un _ _=>1
 |.dn .d1=>0|.dn .d2=>0|.dn _=>1
 |_=>0
def sx:GJ->Nat
 |.a0=>0|.a2=>1|.a4=>1|.ae=>1
 |.w0=>0|.w1=>1|.we=>1|.wa=>0|.w2 _=>1|.w3=>1|.w4=>1|.w5=>1
 |_=>0
def bq.ck:bq P->Nat
 |.idle=>0|.run ..=>20|.lk ..=>20|.un ..=>20|.wait=>19|.yD=>18
 |.dn .d1=>12|.dn .d2=>11|.dn .d4=>10|.dn .d5=>4|.dn .d6=>3|.dn _=>2|.gone=>0
def jL.ck(gc:Nat):jL->Nat
 |.none=>0|.eo=>14
 |.wt .w0=>13|.wt .w1=>10|.wt (.w2 k)=>if gc=k then 9 else 11|.wt .w3=>8|.wt .w4=>7|.wt .w5=>6|.wt .we=>5|.wt _=>4
 |.jr=>3|.gone=>0
def oZ.ck:oZ->Nat
 |.add j=>40*j+200|.bC j .a0=>40*j+199|.bC j .a2=>40*j+198|.bC j .a4=>40*j+197|.bC j _=>40*j+196
 |.spawn j=>40*j+225|.recv=>100|.parked=>99|.off=>0
def MS.ck(n:Nat)(s:MS P):Nat:=s.ms.ck+sumTo n (λj=>(s.w j).ck)+s.c.ck s.gc
def Bj(n:Nat):Nat:=4*(6*(18*n+1)+16)+20
def bq.ex(n:Nat):bq P->Nat
 |.run ..=>2*Bj n|.lk .ld _=>Bj n|.lk (.t1 _) _=>1|.lk .le _=>2|.lk .la _=>1
 |.un .Gw _=>5|.un .ur _=>4|.un .ud _=>3|.un .ue _=>1|_=>0
def MS.inner(n:Nat)(s:MS P):Nat:=4*Mu.meas n (λj=>(s.w j).pc) s.sh+sumTo n (λj=>(s.w j).ex n)
def bq.nd:bq P->Option (Node P)
 |.run _ X=>some X|.lk _ Y=>some Y.node|.un _ Y=>some Y.node|_=>none
end
def HZ{P}(a b:Option (Node P)):Prop:=∃x y,a=some x/\b=some y/\Relation.TransGen oW x y
def KT{P}:∀a:Option (Node P),Acc HZ a:=by
 have key:∀x:Node P,Acc (Relation.TransGen oW) x->Acc HZ (some x):=by
  intro x b;induction b with
  |intro x _ c=>exact⟨_,λy ⟨u,v,d,f,h⟩=>by simp_all⟩
 intro a;cases a with
 |none=>exact⟨_,λy ⟨u,v,_,e,_⟩=>by cases e⟩
 |some x=>exact key x ((WellFounded.intro Cy).transGen.apply x)
def KU{α:Type}(R:α->α->Prop)(n:Nat)(f' f:Nat->α):Prop:=∃i,i<n/\(∀j,j≠i->f' j=f j)/\R (f' i) (f i)
def CJ{α R}(d:∀a,Acc R a):∀  n  (f:Nat->α),Acc (KU R n) f
 |0,f=>⟨_,λy ⟨i,e,_⟩=>by omega⟩
 | n + 1,f=>by
   have key:∀x:α,Acc R x->∀f:Nat->α,f n=x->Acc (KU R (n+1)) f:=by
    intro x g;induction g with
    | intro x _ h=>
      intro f m;have j:=CJ d n f;induction j with
      | intro f _ b=>
        refine⟨_,λf' ⟨i,e,c,k⟩=>?_⟩;by_cases l:i=n
        . grind
        . exact b f' ⟨i,by omega,c,k⟩ (by grind)
   simp_all
def MS.fZ{P}(n:Nat)(s' s:MS P):Prop:=s'.ck n<s.ck n\/(s'.ck n=s.ck n/\(KU HZ n (λj=>(s'.w j).nd) (λj=>(s.w j).nd)\/((λj=>(s'.w j).nd)=(λj=>(s.w j).nd)/\s'.inner n<s.inner n)))
def OE{P}  n :WellFounded (MS.fZ (P:=P) n):=by
 have c:WellFounded (KU (HZ (P:=P)) n):=⟨CJ KT n⟩;have d:=(Prod.lex ⟨Nat.lt,Nat.lt_wfRel.wf⟩ (Prod.lex ⟨KU (HZ (P:=P)) n,c⟩ ⟨Nat.lt,Nat.lt_wfRel.wf⟩)).wf;refine Subrelation.wf (r:=InvImage _ (λs:MS P=>(s.ck n,(λj=>(s.w j).nd),s.inner n))) ?_ (InvImage.wf _ d);intro s' s h;rcases h with h|⟨h,b|⟨b,a⟩⟩
 . exact Prod.Lex.left _ _ h
 . show Prod.Lex _ _ (_,_) (_,_)
   grind
 . show Prod.Lex _ _ (_,_) (_,_)
   rw[h,b];exact Prod.Lex.right _ (Prod.Lex.right _ a)
section
variable{P:acH}
def bq.iE:bq P->Bool
 |.yD=>true|.dn _=>true|.gone=>true|_=>false
def bq.ir:bq P->Bool
 |.idle=>false|.run h _=>h|.lk ..=>false|_=>true
def bq.rel(x:bq P):Bool:=x.ir && !x.owns
def bq.cnt:bq P->Nat
 |.run ..=>1|.lk ..=>1|.un ..=>1|.wait=>1|.yD=>1|.dn .d1=>1|.dn .d2=>1|.dn .d4=>1|_=>0
def bq.busy:bq P->Bool
 |.run ..=>true|.lk ..=>true|.un ..=>true|.wait=>true|.yD=>true|.dn .d1=>true|_=>false
def bq.last:bq P->Bool
 |.dn .d5=>true|.dn .d6=>true|.dn .d7=>true|_=>false
def bq.js:bq P->Bool
 |.idle=>true|_=>false
def bq.ok:bq P->Bool
 |.lk p _=>CI p
 |.un p _=>yR p
 |.dn p=>(match p with|.d1=>true|.d2=>true|.d4=>true|.d5=>true|.d6=>true|.d7=>true|_=>false)
 |_=>true
def jL.busy:jL->Bool
 |.eo=>true|.wt _=>true|.jr=>true|_=>false
def jL.ok:jL->Bool
 |.wt p=>(match p with|.w0=>true|.w1=>true|.w2 _=>true|.w3=>true|.w4=>true|.w5=>true|.we=>true|.wa=>true|_=>false)
 |_=>true
def jL.waits:jL->Bool
 |.wt .w3=>true|.wt .w4=>true|_=>false
def jL.KV:jL->Bool
 |.wt .w5=>true|.wt .we=>true|.wt .wa=>true|.jr=>true|.gone=>true|_=>false
def jL.isNone:jL->Bool
 |.none=>true|_=>false
def jL.eD:jL->Bool
 |.gone=>true|_=>false
def oZ.pend:oZ->Nat
 |.bC _ .a4=>1|.bC _ .ae=>1|.spawn _=>1|_=>0
structure bN(n:Nat)(s:MS P):Prop where
 g1:s.gc=sumTo n (λj=>(s.w j).cnt)+s.ms.pend
 g2:s.gv<=1
 E0:s.gv=1->s.c.waits=true/\s.gm=0
 g3:∀j,j<n->(s.w j=.dn .d5\/s.w j=.dn .d6)->s.gv=1/\s.gc=0
 GM:∀i j,i<n->j<n->(s.w i).last=true->(s.w j).last=true->i=j
 g4:∀j,j<n->s.w j=.dn .d7->s.gv=0/\s.gc=0/\s.gm=0/\s.c.waits=true
 g5:s.gm<=1/\(s.gm=1->s.c.waits=true/\s.gv=0/\s.gc=0/\∀j,j<n->(s.w j).last=false)
 g6:s.c.waits=true->s.gv=0->s.gm=0->∃j,j<n/\s.w j=.dn .d7
 g7:s.gv=1->s.gc=0->∃j,j<n/\(s.w j=.dn .d5\/s.w j=.dn .d6)
 g8:s.c.KV=true->s.gc=0/\s.gv=0/\s.gm=0/\∀j,j<n->s.w j=.gone
 g9:∀k,s.c=.wt (.w2 k)->k≠0
 ok:∀j,j<n->(s.w j).ok=true
 Sv:s.c.ok=true
 sp:s.sp<=n
 idle:∀j,j<n->((s.w j).js=true↔s.sp<=j)
 ms:match s.ms with
  |.add j=>s.sp+j=n/\s.c=.none
  |.bC j p=>s.sp+j=n/\s.c=.none/\1<=j/\(p=.a0\/p=.a2\/p=.a4\/p=.ae)
  |.spawn j=>s.sp+j+1=n/\s.c=.none
  |.recv=>s.sp=n/\s.c≠.none
  |.parked=>s.sp=n/\s.c≠.none/\s.c≠.gone/\∀j,j<n->s.w j≠.wait
  |.off=>s.sp=n/\s.c≠.none
 early:s.d=false->s.c=.none->∀j,j<n->(s.w j).iE=false
 mu:Mu.Inv n (λj=>(s.w j).pc) s.sh
end
variable(P:acH)(A:bJ)(Fin:abV)
def MS.rem(n:Nat)(s:MS P):acz:=(List.range n).filter λj=>!(s.w j).iE
def dA(s:MS P)(i:Nat):Prop:=(i=0/\(match s.ms with|.add _=>True|.spawn _=>True|.recv=>True|_=>False))\/(∃j,j<A.n/\i=A.b+j/\(match s.w j with|.run ..=>True|.yD=>True|_=>False))\/(i=A.cl/\(match s.c with|.eo=>True|.jr=>True|_=>False))
def gE(s:MS P)(i:Nat):Prop:=(i=0/\(match s.ms with|.bC ..=>True|_=>False))\/(∃j,j<A.n/\i=A.b+j/\(match s.w j with|.lk ..=>True|.un ..=>True|.dn _=>True|_=>False))\/(i=A.cl/\(match s.c with|.wt _=>True|_=>False))
def fq(s:MS P)(i:Nat):Prop:=(i=0/\s.ms=.parked)\/(∃j,j<A.n/\i=A.b+j/\s.w j=.wait)
def cz(s:MS P)(i:Nat):Mo:=
 if i=0 then(match s.ms with|.add j=>oP P A Fin j|.spawn j=>EZ P A Fin j|_=>qO P A Fin (MS.rem P A.n s).length (MS.rem P A.n s))
 else if i<A.b+A.n then(match s.w (i-A.b)with|.run ..=>iq P A (i-A.b)|_=>kM P A)else(match s.c with|.eo=>xf P A|_=>ru P A)
def E1(s:MS P)(i:Nat):(cz P A Fin s i).main=(i==0):=by
 have c:∀m R,(qO P A Fin m R).main=true:=λm R=>by cases m<;>rfl
 have b:∀m,(oP P A Fin m).main=true:=λm=>by
  cases m with
  |zero=>unfold oP;grind
  |succ m=>rfl
 unfold cz;by_cases a:i=0
 . subst a
   simp only[ZR,beq_self_eq_true];split
   . exact b _
   . rfl
   simp_all
 . have:(i==0)=false:=by simp_all
   rw[ZM a,this];split
   . split<;>rfl
   . split<;>rfl
def GN(j:Nat)(x:bq P)(k:ao)(O:aj)(g:acx):Prop:=
 match x with
 |.lk p Y=>∃kind c rest e,kind≠.early/\nJ P A.nm A.fb A.fo kind p (c::rest) g/\Y.m=iq P A j/\O A.fb=none/\k.sh A.fb=some e/\(A.dir=true->A.cell j<e.2)/\∀b x a f,k.Le b->ko b x a->A.GI a->O A.mb=none->A.Tk j f->Y.N b ((O.set A.mb x).set A.fb (.part f)) (jT kind c rest (.tuple #[]))
 | .un p Y=>∃kind c rest,kind≠.early/\nJ P A.nm A.fb A.fo kind p (c::rest) g/\Y.m=iq P A j/\
    ((p=.Gw\/p=.ur)->∃f x a,O A.fb=some (.part f)/\O A.mb=some x/\ko k x a/\A.GI a/\(A.dir=true->k.cell A.fb (A.cell j)=some (A.val j))/\Ev P A Y.N k ((O.del A.mb).del A.fb) (jT kind c rest (.tuple #[])))/\
    (¬(p=.Gw\/p=.ur)->Ev P A Y.N k O (jT kind c rest (.tuple #[])))
 |.dn p=>∃d fn tmps todo,P.funcs[d]?=some fn/\fn.results=#[]/\qM P A.ng A.gb .deferred p [kA P d tmps todo,cB P] g
 |_=>False
def Sw(x:jL)(k:ao)(O:aj)(g:acx):Prop:=
 match x with
 |.wt p=>∃c rest,qM P A.ng A.gb .normal p (c::rest) g/\if A.dir then TP A Fin k O c rest else ∀a,k.Le a->T P (ru P A) gT a O (jT .normal c rest (.tuple #[]))
 |_=>False
def Vp(x:oZ)(k:ao)(O:aj)(g:acx):Prop:=
 match x with
 |.bC j p=>∃c rest,qM P A.ng A.gb .normal p (c::rest) g/\T P (EZ P A Fin (j-1)) gT k O (jT .normal c rest (.tuple #[]))
 |_=>False
def TR(s:MS P)(i:Nat)(k:ao)(O:aj)(g:acx):Prop:=(i=0/\Vp P A Fin s.ms k O g)\/(∃j,j<A.n/\i=A.b+j/\GN P A j (s.w j) k O g)\/(i=A.cl/\Sw P A Fin s.c k O g)
def Q0(s:MS P)(i:Nat):Prop:=(∃j sv Y,j<A.n/\i=A.b+j/\s.w j=.lk (.gL sv) Y/\s.sh.ms=0)\/(i=A.cl/\s.c=.wt .w4/\s.gm=0)
def V'(s:MS P)(i:Nat)(k:ao)(O:aj)(g:acx):Prop:=
 (i=0/\∃a z,g=parked a #[rcase A.cF z] (.recv true)/\dK P A k O a a z/\a.status=.running/\(qO P A Fin (MS.rem P A.n s).length (MS.rem P A.n s)).de k O a gT)\/
 (∃j,j<A.n/\i=A.b+j/\∃a z v,g=parked a #[scase A.cF v z] .send/\V k v (A.res j)/\O A.fb=none/\T P (kM P A) gT k O (Go.Conc.served a undef)/\A.dir=false)
def dL(s:MS P)(i:Nat):Nat:=
 if i=0 then(match s.ms with|.bC _ p=>sx p|.off=>(match s.c with|.wt p=>sx p|_=>0)|_=>0)
 else if i<A.b+A.n then(s.w (i-A.b)).deaf else(match s.c with|.wt p=>sx p|_=>0)
def kN(w:World):Prop:=(∃v,w.cell? ⟨A.gb,0,none⟩=some v)/\(∃v,w.cell? ⟨A.gb,1,none⟩=some v)/\∃v,w.cell? ⟨A.fb,A.fo,none⟩=some v
def yE(A:bJ):Loc->Prop
 |.cell a=>a.spot=none/\((a.block=A.fb/\(a.off=A.fo\/a.off=A.fo+1))\/(a.block=A.gb/\(a.off=0\/a.off=1)))
 |.obj r=>r=A.cF/\A.dir=false
 |_=>False
def dU(s:MS P)(i:Nat):Prop:=(∃j,j<A.n/\i=A.b+j/\(s.w j).busy=true)\/(i=A.cl/\s.c.busy=true)
def bQ(s:MS P)(i:Nat):Prop:=i=0\/(∃j,j<s.sp/\i=A.b+j)\/(i=A.cl/\s.c≠.none)
abbrev vv(s:MS P):Prop:=(A.dir=true->s.c≠.none->s.ms=.off)/\(A.dir=true->s.ms≠.recv/\s.ms≠.parked/\s.c≠.eo/\s.c≠.jr/\s.c≠.gone)/\(A.dir=false->s.ms≠.off)
structure cZ(Z:Base)(s:MS P)(kk:acG)(OO:acF)(J M:acu)(gsz:Nat)(w:World)(t:Trace):Prop where
 I:bN A.n s
 size:gsz=A.b+s.sp+(if s.c.isNone||A.dir then 0 else 1)
 dd:s.d=A.dir
 off:vv P A s
 yF:A.dir=true->∀j,j<A.n->((s.w j).ir=false->(∀i,(kk i).cell A.fb (A.cell j)=none)/\∀m a ad,touchAt t m=some a->a.loc=.cell ad->ad.block=A.fb/\ad.off=A.cell j->m<Z.N0)/\((s.w j).rel=true->(kk (A.b+j)).cell A.fb (A.cell j)=some (A.val j))
 zK:A.dir=false->∃x tm,w.heap[A.cF]?=some (.chan 0 #[] s.c.eD x x tm)
 mu:ShM A.fb A.fo w s.sh
 gr:qL A.gb w s.gc s.gv s.gm
 uR:∃c e,w.heap[A.fb]?=some (.cells c e (0,0))
 yS:∃c e,w.heap[A.gb]?=some (.cells c e (0,0))
 gF:∀i,(A.dir=false->OO i A.cF=none)/\OO i A.gb=none
 er:∀i,(kk i).cell A.fb A.fo=none/\(kk i).cell A.fb (A.fo+1)=none/\(kk i).cell A.gb 0=none/\(kk i).cell A.gb 1=none
 tok:∀i x,OO i A.fb=some x->∃j f,j<A.n/\i=A.b+j/\(s.w j).owns=true/\x=.part f/\∀l,f l≠none->A.dir=true/\l=A.cell j
 yT:∀j,j<A.n->(s.w j).owns=true->OO (A.b+j) A.fb≠none
 N1:(∀j,j<A.n->(s.w j).owns=false)->∃x a,OO Z.lk A.mb=some x/\ko (kk Z.lk) x a/\A.GI a
 N2:∀c,OO Z.lk c≠none->c=A.mb/\∀j,j<A.n->(s.w j).owns=false
 hJ:∀i,J i↔dU P A s i
 hM:∀p,M p->t.heard p/\Z.N0<=p/\((t.act? p=some (.mark (.releaseMerge ⟨A.gb,0,none⟩))/\(s.c=.none\/s.c=.eo\/∃q,s.c=.wt q))\/(s.c=.gone/\t.act? p=some (.close A.cF)))
 shut:s.c=.gone->∃p,M p/\t.act? p=some (.close A.cF)/\t.heard p
 quiet:∀m a,touchAt t m=some a->yE A a.loc->a.kind=.plain->∀i,bQ P A s i->Knows t i m
 said:∀m a,touchAt t m=some a->yE A a.loc->a.kind=.said->Knows t (if s.c.isNone then 0 else A.cl) m
 old:∀i,bQ P A s i->∀m a,m<Z.N0->touchAt t m=some a->a.loc.isMemory=true -> ¬Z.Shun a.loc->Knows t i m
 norel:∀m a,Z.N0<=m->t.act? m≠some (.mark (.release a))
 CN:∀i,i≠Z.lk -> ¬bQ P A s i->kk i=ao.bot/\OO i=aj.bot
 sb:∀a,yE A a->(∃c,a=.cell c/\c.block=A.gb)->Z.Shun a
 jM:∀c:Addr,c.block=A.fb/\(c.off=A.fo\/c.off=A.fo+1\/(A.dir=true/\∃j,j<A.n/\c.off=A.cell j)) -> ¬Z.Shun (.cell c)
 fa:(A.dir=false->Z.W0.heap.size<=A.cF)/\Z.W0.heap.size<=A.fb/\Z.W0.heap.size<=A.gb
 la:Z.la=⟨A.fb,A.fo,none⟩
 n0:Z.N0<=t.size
def Node.Q1{P:acH}:Node P->Prop
 |⟨_,_,_,_,.de ..⟩=>True
 |_=>False
def uS{P:acH}(x X:Node P):Prop:=∀y,(y=x\/Relation.TransGen oW y x)->y.Q1->(y=X\/Relation.TransGen oW y X)
def uS.sub{P:acH}{x y X:Node P}(h:uS x X)(a:oW y x):uS y X:=λz b c=>h z (b.elim (λe=>.inr (by rw[e];exact .single a)) (λe=>.inr (e.tail a))) c
def uS.refl{P:acH}(X:Node P):uS X X:=λy a _=>a
def OF(s:MS P)(i:Nat)(x:Node P):Prop:=∀j h X,j<A.n->i=A.b+j->s.w j=.run h X->uS x X
def bX(Z:Base)(a:A.b+A.n+1<=Z.lk):qJ P where
 S:=MS P
 r:=MS.fZ A.n
 wf:=OE A.n
 mo:=cz P A Fin
 main:=E1 P A Fin
 top:=A.b+A.n+1
 lk:=Z.lk
 Tp:=a
 Live:=dA P A
 Walk:=gE P A
 At:=TR P A Fin
 zz:=Q0 P A
 nT:=fq P A
 EN:=V' P A Fin
 deaf:=dL P A
 Wd:=kN A
 Ex:=cZ P A Z
 Om:=OF P A
 tie:=λs i x y hs h j b X c d e=>(h j b X c d e).sub hs
end
section
open Go.Conc
open Go.ConcN (sumTo upd sumTo_upd upd_ne upd_same)
def xg{t}(u:Trace){p x}(h:t.act? p=some x)(b:t.heard p):(t++u).act? p=some x/\(t++u).heard p:=by have a:=lt_of_act? h;exact⟨by rw[act?_old a];exact h,(heard_old a).2 b⟩
structure CO  b o  (w w':World):Prop where
 cell:∀l,l=o\/l=o+1->w'.cell? ⟨b,l,none⟩=w.cell? ⟨b,l,none⟩
 fz:∀l,w'.frozen? ⟨b,l,none⟩=w.frozen? ⟨b,l,none⟩
def CO.of_heap{b o w w'}(h:w'.heap[b]?=w.heap[b]?):CO b o w w':=⟨λl _=>by simp only[World.cell?,h],λl=>by simp only[World.frozen?,h]⟩
def ShM.same{b o w w' s}(h:ShM b o w s)(e:CO b o w w'):ShM b o w' s:=⟨by rw[e.cell _ (.inl rfl)];exact h.cw,by rw[e.cell _ (.inr rfl)];exact h.cs,λi=>by rw[e.fz];exact h.fz i⟩
def qL.same{b w w' c v m}(h:qL b w c v m)(e:CO b 0 w w'):qL b w' c v m:=⟨by rw[e.cell _ (.inl rfl)];exact h.cw,by rw[e.cell _ (.inr rfl)];exact h.cs,λi=>by rw[e.fz];exact h.fz i⟩
def dR{t u m a}(h:touchAt (t++u) m=some a):(touchAt t m=some a/\m<t.size)\/∃op∈u,op.act.touch?=some a:=by
 obtain⟨x,d,b⟩:=touch_of h;rcases getElem?_append_cases d with⟨e,c⟩|⟨_,f⟩
 . exact .inl ⟨by rw[touchAt_of c];exact b,e⟩
 grind
def qk{t u:Trace}{m x}(h:(t++u).act? m=some x):(t.act? m=some x/\m<t.size)\/∃op∈u,op.act=x:=by
 unfold Trace.act? at h;obtain⟨y,b,rfl⟩:=ZW.1 h;rcases getElem?_append_cases b with⟨c,a⟩|⟨_,d⟩
 . exact .inl ⟨by simp[Trace.act?,a],c⟩
 grind
section
variable{P:acH}{A:bJ}{Fin:abV}{Z:Base}{s:MS P}{kk kk':acG}{OO OO':acF}{J M:acu}{gsz:Nat}{w w':World}{t:Trace}
def cZ.jY(h:cZ P A Z s kk OO J M gsz w t)  u  (j:∀op∈u,∀a,op.act.touch?=some a->yE A a.loc->a.kind≠.plain):∀m a,touchAt (t++u) m=some a->yE A a.loc->a.kind=.plain->∀i,bQ P A s i->Knows (t++u) i m:=λm a c d e i f=>by
 rcases dR c with⟨b,_⟩|⟨op,g,b⟩
 . exact(h.quiet m a b d e i f).app u
 grind
def cZ.nZ(h:cZ P A Z s kk OO J M gsz w t)  u  (i:∀op∈u,∀a,op.act.touch?=some a->yE A a.loc->a.kind≠.said):∀m a,touchAt (t++u) m=some a->yE A a.loc->a.kind=.said->Knows (t++u) (if s.c.isNone then 0 else A.cl) m:=λm a d e f=>by
 rcases dR d with⟨b,_⟩|⟨op,g,b⟩
 . exact(h.said m a b e f).app u
 grind
def cZ.pz(h:cZ P A Z s kk OO J M gsz w t)  u :∀i,bQ P A s i->∀m a,m<Z.N0->touchAt (t++u) m=some a->a.loc.isMemory=true -> ¬Z.Shun a.loc->Knows (t++u) i m:=λi g m a e j b k=>by
 have c:m<t.size:=aaj e h.n0
 have l:touchAt t m=some a:=by obtain⟨x,f,d⟩:=touch_of j;rw[abF c]at f;rw[touchAt_of f];exact d
 exact(h.old i g m a e l b k).app u
def cZ.ju(h:cZ P A Z s kk OO J M gsz w t)  u  (f:∀op∈u,∀a,op.act≠.mark (.release a)):∀m a,Z.N0<=m->(t++u).act? m≠some (.mark (.release a)):=λm a c e=>by
 rcases qk e with⟨b,_⟩|⟨op,d,b⟩
 . exact h.norel m a c b
 simp_all
def cZ.uT(h:cZ P A Z s kk OO J M gsz w t)  u :∀p,M p->(t++u).heard p/\Z.N0<=p/\(((t++u).act? p=some (.mark (.releaseMerge ⟨A.gb,0,none⟩))/\(s.c=.none\/s.c=.eo\/∃q,s.c=.wt q))\/(s.c=.gone/\(t++u).act? p=some (.close A.cF))):=λp e=>by
 obtain⟨b,i,a⟩:=h.hM p e;rcases a with⟨a,d⟩|⟨a,d⟩
 . obtain⟨f,g⟩:=xg u a b
   simp_all
 . obtain⟨f,g⟩:=xg u d b
   simp_all
def cZ.mr(h:cZ P A Z s kk OO J M gsz w t)  u :s.c=.gone->∃p,M p/\(t++u).act? p=some (.close A.cF)/\(t++u).heard p:=λa=>by
 obtain⟨p,e,b,d⟩:=h.shut a;obtain⟨f,g⟩:=xg u b d
 grind
def E2(I:bN A.n s){i}(d:dA P A s i):bQ P A s i:=by
 rcases d with⟨h,_⟩|⟨j,b,c,f⟩|⟨b,c⟩
 . exact .inl h
 . refine .inr (.inl ⟨j,?_,c⟩)
   have a:=I.idle j b;cases e:s.w j with
   |idle=>simp_all
   |_=>rw[e]at a;simp[bq.js]at a;omega
 . refine .inr (.inr ⟨b,λe=>?_⟩)
   simp_all
def KW{i}(a:dA P A s i):i<A.b+A.n+1:=by
 have:=A.hb;rcases a with⟨h,_⟩|⟨j,c,d,e⟩|⟨c,d⟩<;>omega
def cZ.OG(h:cZ P A Z s kk OO J M gsz w t){i l}(a:aT (OO i) A.fb l):A.dir=true/\∃j,j<A.n/\(i=A.b+j/\(s.w j).owns=true)/\l=A.cell j:=by
 obtain⟨x,c⟩:=a.own;obtain⟨j,f,d,e,k,rfl,p⟩:=h.tok i x c;rcases a with⟨o,q⟩|⟨m,q,_⟩|⟨g,q,r⟩
 . simp_all
 . simp_all
 . rw[c]at q;cases q;grind
def zL{x:bq P}(h:x.owns=true):x.ir=true:=by cases x<;>simp_all [bq.owns,bq.ir]
def yU(h:cZ P A Z s kk OO J M gsz w t){i e}(n:jb (kk i) (OO i) w.heap.size e){a}(p:(MemAct.ofEvent e).touch?=some a):¬yE A a.loc:=λb=>by
 have q:A.fb<w.heap.size:=by obtain⟨c,e,k⟩:=h.uR;grind
 have u:A.gb<w.heap.size:=by obtain⟨c,e,k⟩:=h.yS;grind
 have g:∀l,(l=A.fo\/l=A.fo+1) -> ¬aT (OO i) A.fb l:=λl f m=>by obtain⟨_,_,_,_,e⟩:=h.OG m;unfold bJ.cell at e;omega
 have j:∀l,¬aT (OO i) A.gb l:=λl=>dT (h.gF i).2
 obtain⟨v,y,z,B⟩:=h.er i
 rcases jR n p with⟨C,f,m⟩|⟨r,f,d⟩
 . rw[f]at b
   obtain⟨_,b⟩:=b
   grind
 . rw[f]at b
   obtain⟨b,hd⟩:r=A.cF/\A.dir=false:=b;subst b
   rcases d with⟨o,d⟩|d
   . rw[(h.gF i).1 hd]at d;cases d
   . obtain⟨x,D,k⟩:=h.zK hd
     simp_all
def yV{k O B e}(b:jb k O B e)  a :MemAct.ofEvent e≠.mark (.release a):=by
 obtain⟨loc,wr,c⟩:=e;cases loc with
 |mark m=>simp only[jb]at b;cases m<;>simp_all [jQ,mP,MemAct.ofEvent]
 |cell d=>simp[MemAct.ofEvent]
 |obj r=>cases wr<;>cases c<;>simp[MemAct.ofEvent]
 |_=>simp[jb]at b
def cZ.own(h:cZ P A Z s kk OO J M gsz w t)(hZ:A.b+A.n+1<=Z.lk){i}(V:dA P A s i){k' O' es}(D:Eff (kk i) (OO i) w k' O' w' es)  u
 (H:∀op∈u,∃e,jb (kk i) (OO i) w.heap.size e/\op.act=.ofEvent e):cZ P A Z s (bP kk i k') (bP OO i O') J M gsz w' (t++u):=by
 have K:i≠Z.lk:=by have:=KW V;omega
 have Q:=E2 h.I V;have W:A.fb<w.heap.size:=by obtain⟨c,e,d⟩:=h.uR;grind
 have X:A.gb<w.heap.size:=by obtain⟨c,e,d⟩:=h.yS;grind
 have hC:A.dir=false->A.cF<w.heap.size:=λhd=>by obtain⟨x,tm,d⟩:=h.zK hd;grind
 have R:=D.keep A.gb X (h.gF i).2
 have S:CO A.fb A.fo w w'/\∃c e,w'.heap[A.fb]?=some (.cells c e (0,0)):=by
  cases q:OO i A.fb with
  |none=>have:=D.keep A.fb W q;exact⟨.of_heap this,by rw[this];exact h.uR⟩
  | some x=>
    obtain⟨j,f,_,_,_,rfl,hf⟩:=h.tok i x q;obtain⟨c,e,d⟩:=h.uR;obtain⟨c',N,h3,h4⟩:=D.part A.fb f W q c e d;refine⟨⟨λl V=>?_,λl=>?_⟩,c',e,N⟩
    . simp only[World.cell?,d,N];rw[h4 l (aaA λhh=>by have:=(hf l hh).2;unfold bJ.cell at this;omega)]
    . simp only[World.frozen?,d,N]
 have p:∀c,c<w.heap.size->OO i c=none->O' c=none:=λc hc hn=>by
  cases q:O' c with
  |none=>rfl
  | some x=>
    rcases D.own c x q with⟨y,hy,_⟩|hy
    . simp_all
    . omega
 have z:∀l,(l=A.fo\/l=A.fo+1) -> ¬aT (OO i) A.fb l:=λl V hc=>by obtain⟨_,_,_,_,e⟩:=h.OG hc;unfold bJ.cell at e;omega
 have a7:∀l,l<A.n->(s.w l).ir=false -> ¬aT (OO i) A.fb (A.cell l):=λl _ O hc=>by
  obtain⟨_,j,_,⟨_,T⟩,e⟩:=h.OG hc;obtain rfl:l=j:=by unfold bJ.cell at e;omega
  rw[zL T]at O;cases O
 have E:∀c l,c<w.heap.size -> ¬aT (OO i) c l->(kk i).cell c l=none->k'.cell c l=none:=λc l hc ax hn=>by
  cases q:k'.cell c l with
  |none=>rfl
  | some v=>
    rcases D.cell c l v q with d|d|d
    . simp_all
    . simp_all
    . omega
 obtain⟨a8,a9,al,av⟩:=h.er i
 have U:∀op∈u,∀a,op.act.touch?=some a -> ¬yE A a.loc:=λop k a G=>by obtain⟨e,B,C⟩:=H op k;rw[C]at G;exact yU h B G
 refine⟨h.I,h.size,h.dd,h.off,λhd l F=>⟨λO=>⟨λj=>?_,λm a ad G e e'=>?_⟩,λhr=>?_⟩,λhd=>by rw[D.keep A.cF (hC hd) ((h.gF i).1 hd)];exact h.zK hd,h.mu.same S.1,h.gr.same (.of_heap R),S.2,by rw[R];exact h.yS,λj=>?_,λj=>?_,λj x Y=>?_,λj hj T=>?_,λT=>?_,λc hc=>?_,h.hJ,h.uT u,h.mr u,
  h.jY u (λop k a G hs=>absurd hs (U op k a G)),h.nZ u (λop k a G hs=>absurd hs (U op k a G)),h.pz u,h.ju u (λop k a=>by obtain⟨e,B,C⟩:=H op k;rw[C];exact yV B a),λj hj hb=>?_,h.sb,h.jM,h.fa,h.la,by simp;exact ZV h.n0 (aaI _ _)⟩
 . have d:=((h.yF hd l F).1 O).1 j
   by_cases e:j=i
   . subst e;rw[an];simp_all
   . rw[au _ _ e];exact d
 . rcases dR G with⟨d,_⟩|⟨op,k,d⟩
   . exact((h.yF hd l F).1 O).2 m a ad d e e'
   . obtain⟨ev,B,C⟩:=H op k
     rw[C]at d
     rcases jR B d with⟨ad,L,hc⟩|⟨r,L,_⟩
     . rw[e]at L
       cases L;rw[e'.1,e'.2]at hc
       rcases hc with hc|hc|⟨_,v,hc⟩
       . simp_all
       . omega
       . have:=((h.yF hd l F).1 O).1 i
         simp_all
     simp_all
 . have d:=(h.yF hd l F).2 hr
   by_cases e:A.b+l=i
   . rw[e,an];rw[e]at d;exact D.le.1 _ _ _ d
   . rw[au _ _ e];exact d
 . by_cases e:j=i
   . subst e;rw[an];exact⟨λhd=>p _ (hC hd) ((h.gF j).1 hd),p _ X (h.gF j).2⟩
   . rw[au _ _ e];exact h.gF j
 . by_cases e:j=i
   . subst e;rw[an]
     exact⟨E _ _ W (z _ (.inl rfl)) a8,E _ _ W (z _ (.inr rfl)) a9,E _ _ X (dT (h.gF j).2) al,E _ _ X (dT (h.gF j).2) av⟩
   . rw[au _ _ e];exact h.er j
 . by_cases e:j=i
   . subst e;rw[an]at Y
     rcases D.own _ x Y with⟨y,hy,hb⟩|hy
     . obtain⟨l,f,d,N,h3,rfl,h4⟩:=h.tok j y hy
       cases x with
       |obj o=>exact hb.elim
       |tail m=>exact hb.elim
       |part g=>exact⟨l,g,d,N,h3,rfl,λa q=>h4 a (hb a q)⟩
     . omega
   . rw[au _ _ e]at Y;exact h.tok j x Y
 . have d:=h.yT j hj T
   by_cases e:A.b+j=i
   . rw[e,an]
     rw[e]at d;cases q:OO i A.fb with
     |none=>simp_all
     | some x=>
       obtain⟨_,f,_,_,_,rfl,_⟩:=h.tok i x q;obtain⟨f',N⟩:=D.tok _ f q
       grind
   . rw[au _ _ e];exact d
 . rw[au _ _ (za K),au _ _ (za K)];exact h.N1 T
 . rw[au _ _ (za K)]at hc;exact h.N2 c hc
 . have e:j≠i:=λe=>hb (e ▸ Q)
   rw[au _ _ e,au _ _ e];exact h.CN j hj hb
def cZ.still(h:cZ P A Z s kk OO J M gsz w t)  u  (i:∀op∈u,op.act.touch?=none/\∀a,op.act≠.mark (.release a)):cZ P A Z s kk OO J M gsz w (t++u):=
 ⟨h.I,h.size,h.dd,h.off,λhd l c=>⟨λf=>⟨((h.yF hd l c).1 f).1,λm a j d e k=>(dR d).elim (λg=>((h.yF hd l c).1 f).2 m a j g.1 e k) (λ⟨op,b,g⟩=>by simp_all)⟩,(h.yF hd l c).2⟩,h.zK,h.mu,h.gr,h.uR,h.yS,h.gF,h.er,h.tok,h.yT,h.N1,h.N2,h.hJ,h.uT u,h.mr u,h.jY u (λop b a d=>by simp_all),h.nZ u (λop b a d=>by simp_all),
   h.pz u,h.ju u (λop b=>(i op b).2),h.CN,h.sb,h.jM,h.fa,h.la,by simp;exact ZV h.n0 (aaI _ _)⟩
def bd  y :zB (bX P A Fin Z y) where
 own:=λa m _ he u _ _ o=>cZ.own a y m he u o
 slip:=λa u _ hu=>cZ.still a u hu
 draw:=λ{s kk OO J M n w t} a d=>by have a:cZ P A Z s kk OO J M n w t:=a;exact⟨a.I,a.size,a.dd,a.off,a.yF,a.zK,a.mu.heap rfl,a.gr.same (.of_heap rfl),a.uR,a.yS,a.gF,a.er,a.tok,a.yT,a.N1,a.N2,a.hJ,a.hM,a.shut,a.quiet,a.said,a.old,a.norel,a.CN,a.sb,a.jM,a.fa,a.la,a.n0⟩
 se := λ{s kk OO J M n w t j g} a B k O b=>by
  have a:cZ P A Z s kk OO J M n w t:=a
  have q:s.c.eD=false:=by
   rcases B with⟨_,hm⟩|⟨l,m,_,hw⟩
   . have:=a.I.ms
     rw[hm]at this;have:=this.2.2.1;cases e:s.c<;>simp_all [jL.eD]
   . cases e:s.c with
     | gone=>
       have:=(a.I.g8 (by rw[e];rfl)).2.2.2 l m
       simp_all
     |_=>rfl
  have hd:A.dir=false:=by
   cases e:A.dir with
   |false=>rfl
   | true=>
     rcases b with⟨h0,_⟩|⟨l,_,_,h,z,v,_,_,_,_,hd⟩
     . have:=A.hb
       rcases B with⟨_,hm⟩|⟨l,m,f,hw⟩
       . exact absurd hm (a.off.2.1 e).2.1
       . omega
     simp_all
  obtain⟨x,C,r⟩:=a.zK hd;rw[q]at r;rcases b with⟨_,h,z,rfl,_⟩|⟨l,_,_,h,z,v,rfl,_⟩
  . exact again_recv_open r
  . exact again_send_open r
 wd:=λ{s kk OO J M n w t} a=>by have a:cZ P A Z s kk OO J M n w t:=a;exact⟨⟨_,a.gr.cw⟩,⟨_,a.gr.cs⟩,⟨_,a.mu.cw⟩⟩
 kH:=λ{s i k O g} b=>by
  rcases b with⟨_,b⟩|⟨j,_,_,b⟩|⟨_,b⟩
  . cases e:s.ms with
    |bC j p=>rw[e]at b;obtain⟨c,rest,f,_⟩:=b;exact f.running
    |_=>rw[e]at b;exact b.elim
  . cases e:s.w j with
    |lk p Y=>rw[e]at b;obtain⟨kind,c,rest,_,_,f,_⟩:=b;exact f.running
    |un p Y=>rw[e]at b;obtain⟨kind,c,rest,_,f,_⟩:=b;exact f.running
    |dn p=>rw[e]at b;obtain⟨D,fn,tmps,todo,_,_,f⟩:=b;exact f.running
    |_=>rw[e]at b;exact b.elim
  . cases e:s.c with
    |wt p=>rw[e]at b;obtain⟨c,rest,f,_⟩:=b;exact f.running
    |_=>rw[e]at b;exact b.elim
end
end
section
open Go.Conc
open Go.ConcN (sumTo upd sumTo_upd upd_ne upd_same)
variable{P:acH}
def MS.aU(s:MS P)(j:Nat)(x:bq P)(sh:Mu.Sh):MS P:={s with w:=λi=>if i=j then x else s.w i,sh:=sh}
section
variable{s:MS P}{j n:Nat}{x:bq P}{sh:Mu.Sh}
def aV:(s.aU j x sh).w j=x:=by simp[MS.aU]
def cq{i}(h:i≠j):(s.aU j x sh).w i=s.w i:=by simp[MS.aU,h]
def GO:(λi=>((s.aU j x sh).w i).pc)=Mu.set (λi=>(s.w i).pc) j x.pc:=by
 funext i;by_cases h:i=j
 . subst h;rw[aV,Mu.ai]
 . rw[cq h,Mu.ah _ _ h]
def sz(F:bq P->Nat)(hj:j<n):sumTo n (λi=>F ((s.aU j x sh).w i))+F (s.w j)=sumTo n (λi=>F (s.w i))+F x:=by
 have e:(λi=>F ((s.aU j x sh).w i))=upd (λi=>F (s.w i)) j (F x):=by
  funext i;by_cases h:i=j
  . subst h;rw[aV,upd_same]
  . rw[cq h,upd_ne _ _ h]
 rw[e];have:=sumTo_upd (λi=>F (s.w i)) (F x) id hj
 simp_all
def bq.work:bq P->Bool
 |.run ..=>true|.lk ..=>true|.un ..=>true|_=>false
def bD{x:bq P}(h:x.work=true):x.cnt=1/\x.ck=20/\x.iE=false/\x.last=false/\x.js=false/\x.busy=true/\x≠.gone/\x≠.wait/\∀p,x≠.dn p:=by cases x<;>simp_all [bq.work,bq.cnt,bq.ck,bq.iE,bq.last,bq.js,bq.busy]
def bq.Bl:bq P->Bool
 |.run ..=>true|.lk ..=>true|.un ..=>true|.yD=>true|.dn .d1=>true|.dn .d2=>true|.dn .d4=>true|_=>false
def xh{x:bq P}(h:x.Bl=true):x.cnt=1/\x.last=false/\x.js=false/\x≠.gone/\x≠.wait/\∀p,(p=.d5\/p=.d6\/p=.d7)->x≠.dn p:=by
 cases x with
 |dn p=>cases p<;>simp_all [bq.Bl,bq.cnt,bq.last,bq.js]
 |_=>simp_all [bq.Bl,bq.cnt,bq.last,bq.js]
def bN.same(I:bN n s)(hj:j<n)(o:(s.w j).Bl=true)(q:x.Bl=true)(r:x.iE=(s.w j).iE\/s.d=true)(G:x.ok=true)(t:Mu.Inv n (Mu.set (λi=>(s.w i).pc) j x.pc) sh):bN n (s.aU j x sh):=by
 obtain⟨H,a4,u,J,K,L⟩:=xh o;obtain⟨M,N,v,O,Q,g⟩:=xh q;have m:=sz (s:=s) (x:=x) (sh:=sh) bq.cnt hj
 have look:∀{i:Nat}{y:bq P},(s.aU j x sh).w i=y->x≠y->i≠j/\s.w i=y:=λ{i y} h z=>by
  by_cases e:i=j
  . subst e;rw[aV]at h;simp_all
  . rw[cq e]at h;simp_all
 have back:∀{i:Nat}{y:bq P},s.w i=y->(s.w j)≠y->(s.aU j x sh).w i=y:=λ{i y} h z=>by
  by_cases e:i=j
  . simp_all
  . rw[cq e];exact h
 have b:∀{i:Nat},((s.aU j x sh).w i).last=(s.w i).last:=λ{i}=>by
  by_cases e:i=j
  . grind
  . rw[cq e]
 refine⟨?_,I.g2,I.E0,λi a h=>?_,λi l a A h f=>?_,λi a h=>?_,⟨I.g5.1,λh=>?_⟩,λh f k=>?_,λh f=>?_,λh=>?_,I.g9,λi a=>?_,I.Sv,I.sp,λi a=>?_,?_,λhd h i a=>?_,by rw[GO];exact t⟩
 . have:=I.g1
   show s.gc=sumTo n (λi=>((s.aU j x sh).w i).cnt)+s.ms.pend;omega
 . exact I.g3 i a (h.imp (λh=>(look h (g _ (by simp))).2) (λh=>(look h (g _ (by simp))).2))
 . rw[b]at h f;exact I.GM i l a A h f
 . exact I.g4 i a (look h (g _ (by simp))).2
 . obtain⟨B,C,D,E⟩:=I.g5.2 h
   exact⟨B,C,D,λi a=>by grind⟩
 . obtain⟨i,a,F⟩:=I.g6 h f k
   grind
 . obtain⟨i,a,F⟩:=I.g7 h f
   grind
 . obtain⟨_,_,_,E⟩:=I.g8 h
   simp_all
 . by_cases e:i=j
   . grind
   . rw[cq e];exact I.ok i a
 . by_cases e:i=j
   . subst e
     rw[aV,v];have:=I.idle i a;rw[u]at this;exact this
   . rw[cq e];exact I.idle i a
 . have:=I.ms
   show match s.ms with
   |.add l=>s.sp+l=n/\s.c=.none
   |.bC l p=>s.sp+l=n/\s.c=.none/\1<=l/\(p=.a0\/p=.a2\/p=.a4\/p=.ae)
   |.spawn l=>s.sp+l+1=n/\s.c=.none
   |.recv=>s.sp=n/\s.c≠.none
   |.parked=>s.sp=n/\s.c≠.none/\s.c≠.gone/\∀i,i<n->(s.aU j x sh).w i≠.wait
   |.off=>s.sp=n/\s.c≠.none
   grind
 . by_cases e:i=j
   . subst e;rw[aV,r.resolve_right λe=>by have hd:s.d=false:=hd;grind];exact I.early hd h i a
   . rw[cq e];exact I.early hd h i a
def zM{x:bq P}(h:x.work=true):x.Bl=true:=by cases x<;>simp_all [bq.work,bq.Bl]
def bN.work(I:bN n s)(hj:j<n)(a:(s.w j).work=true)(b:x.work=true)(c:x.ok=true)(d:Mu.Inv n (Mu.set (λi=>(s.w i).pc) j x.pc) sh):bN n (s.aU j x sh):=I.same hj (zM a) (zM b) (.inl (by rw[(bD a).2.2.1,(bD b).2.2.1])) c d
def Q2(F:bq P->Nat)(hj:j<n)(h:F x=F (s.w j)):sumTo n (λi=>F ((s.aU j x sh).w i))=sumTo n (λi=>F (s.w i)):=by have:=sz (s:=s) (x:=x) (sh:=sh) F hj;omega
def CP(hj:j<n)(a:(s.w j).work=true)(b:x.work=true):(s.aU j x sh).ck n=s.ck n:=by
 have:=Q2 (s:=s) (x:=x) (sh:=sh) bq.ck hj (by rw[(bD a).2.1,(bD b).2.1]);show s.ms.ck+sumTo n (λi=>((s.aU j x sh).w i).ck)+s.c.ck s.gc=_;rw[this];rfl
def Bm(hj:j<n)(a:(s.w j).work=true)(b:x.work=true)(h:HZ x.nd (s.w j).nd):MS.fZ n (s.aU j x sh) s:=.inr ⟨CP hj a b,.inl ⟨j,hj,λi c=>by show((s.aU j x sh).w i).nd=_;rw[cq c],by simp only[aV];exact h⟩⟩
def vI(hj:j<n)(a:(s.w j).work=true)(b:x.work=true)(h:x.nd=(s.w j).nd)(hi:4*Mu.meas n (Mu.set (λi=>(s.w i).pc) j x.pc) sh+x.ex n<4*Mu.meas n (λi=>(s.w i).pc) s.sh+(s.w j).ex n):MS.fZ n (s.aU j x sh) s:=by
 refine .inr ⟨CP hj a b,.inr ⟨?_,?_⟩⟩
 . funext i
   by_cases e:i=j
   . subst e;rw[aV];exact h
   . rw[cq e]
 . have:=sz (s:=s) (x:=x) (sh:=sh) (bq.ex n) hj
   show 4*Mu.meas n (λi=>((s.aU j x sh).w i).pc) sh+sumTo n (λi=>((s.aU j x sh).w i).ex n)<4*Mu.meas n (λi=>(s.w i).pc) s.sh+sumTo n (λi=>(s.w i).ex n);rw[GO];omega
def GP(I:bN n s)(hj:j<n)(a:(s.w j).work=true)(b:x.work=true)(h:x.nd=(s.w j).nd)(c:(x.pc,sh)∈Mu.mv (s.w j).pc s.sh)(d:x.ex n<=3):MS.fZ n (s.aU j x sh) s:=by
 have:=(Mu.HK (pcs:=λi=>(s.w i).pc) hj (I.mu.j0 j hj) c).1;exact vI hj a b h (by omega)
def bN.mv(I:bN n s)(hj:j<n)(a:(s.w j).work=true)(b:x.work=true)(c:x.ok=true)(d:(x.pc,sh)∈Mu.mv (s.w j).pc s.sh):bN n (s.aU j x sh):=I.work hj a b c (I.mu.step hj d)
def jv  pcs   i :Mu.set pcs i (pcs i)=pcs:=by
 funext l;by_cases e:l=i
 . subst e;exact Mu.ai _ _ _
 . exact Mu.ah _ _ e
def lH(hj:j<n)(a:(s.w j).work=true)(b:x.work=true)(h:x.nd=(s.w j).nd)(c:x.pc=(s.w j).pc)(d:x.ex n<(s.w j).ex n):MS.fZ n (s.aU j x s.sh) s:=by
 refine vI hj a b h ?_;rw[c,jv (λi=>(s.w i).pc)];omega
def bN.still(I:bN n s)(hj:j<n)(a:(s.w j).work=true)(b:x.work=true)(c:x.ok=true)(d:x.pc=(s.w j).pc):bN n (s.aU j x s.sh):=I.work hj a b c (by rw[d,jv (λi=>(s.w i).pc)];exact I.mu)
def fQ(F:Mu.Pc->Nat){pcs i}(a:pcs i=.out)(h:F .fY=F .out):(λl=>F (Mu.set pcs i .fY l))=λl=>F (pcs l):=by
 funext l;by_cases e:l=i
 . subst e;rw[Mu.ai,a,h]
 . rw[Mu.ah _ _ e]
def OH{n pcs s i}(h:Mu.Inv n pcs s)(a:pcs i=.out):Mu.Inv n (Mu.set pcs i .fY) s:=by
 obtain⟨⟨m,c,d,f,g⟩,j,o⟩:=h;refine⟨⟨λl k=>?_,?_,?_,?_,?_⟩,j,λl k old sv b=>?_⟩
 . by_cases e:l=i
   . subst e;rw[Mu.ai];trivial
   . rw[Mu.ah _ _ e];grind
 . rw[fQ Mu.bZ a rfl];exact c
 . rw[fQ Mu.fH a rfl,fQ Mu.cE a rfl,fQ Mu.mV a rfl,fQ Mu.dc a rfl,fQ Mu.cD a rfl];exact d
 . rw[fQ Mu.fH a rfl,fQ Mu.cE a rfl,fQ Mu.mV a rfl,fQ Mu.dc a rfl,fQ Mu.cD a rfl];exact f
 . rw[fQ Mu.im a rfl];exact g
 . by_cases e:l=i
   . subst e;rw[Mu.ai]at b;cases b
   . rw[Mu.ah _ _ e]at b;grind
def CQ{n pcs s i}(hi:i<n)(a:pcs i=.out):Mu.meas n (Mu.set pcs i .fY) s=Mu.meas n pcs s+(6*(18*n+1)+16):=by
 have C:=Mu.gu Mu.gM pcs i .fY hi;have R:=Mu.gu (Mu.jC s.w) pcs i .fY hi;rw[a]at C R;have b:Mu.gM .out=0:=rfl;have c:Mu.gM .fY=6:=rfl;have d:Mu.jC s.w .out=0:=rfl;have e:Mu.jC s.w .fY=16:=rfl;rw[b,c]at C;rw[d,e]at R;have f:Mu.phi n (Mu.set pcs i .fY) s=Mu.phi n pcs s+6:=by unfold Mu.phi;omega
 unfold Mu.meas
 grind
def KX(hj:j<n)(a:(s.w j).work=true)(b:x.work=true)(h:x.nd=(s.w j).nd)(c:(s.w j).pc=.out)(d:x.pc=.fY)(e:(s.w j).ex n=Bj n)(f:x.ex n=0):MS.fZ n (s.aU j x s.sh) s:=by refine vI hj a b h ?_;rw[d,CQ hj c,e,f];unfold Bj;omega
def bN.Xw(I:bN n s)(hj:j<n)(a:(s.w j).work=true)(b:x.work=true)(c:x.ok=true)(d:(s.w j).pc=.out)(e:x.pc=.fY):bN n (s.aU j x s.sh):=I.work hj a b c (by rw[e];exact OH I.mu d)
end
end
open Go.Conc
open Go.ConcN (sumTo upd sumTo_upd upd_ne upd_same)
section
variable{P:acH}{A:qJ P}{Z:Base}{s s':A.S}{f f':Nat->Node P}{q q':acA}{kk kk':acG}{OO OO':acF}{J J' M M':acu}{gs:abZ}{w w':World}{t u:Trace}{i:Nat}{g g1:acx}
structure Beside(A:qJ P)(s s':A.S)(f f':Nat->Node P)(q q':acA)(kk kk':acG)(OO OO':acF)(J J':acu)(w':World)(i:Nat)(g g1:acx):Prop where
 ef:∀j,j≠i->f' j=f j
 eq:∀j,j≠i->q' j=q j
 ek:∀j,j≠i->j<A.top->kk' j=kk j
 eO:∀j,j≠i->j<A.top->OO' j=OO j
 eJ:∀j,j≠i->A.Live s j->J j->J' j
 live:∀j,j≠i->(A.Live s' j↔A.Live s j)
 walk:∀j,j≠i->(A.Walk s' j↔A.Walk s j)
 held:∀j,j≠i->(A.nT s' j↔A.nT s j)
 mo:∀j,j≠i->A.Live s j->A.mo s' j=A.mo s j
 at':∀j k O x,j≠i->A.Walk s j->A.At s j k O x->A.At s' j k O x
 deaf:∀j,j≠i->A.Walk s j->A.deaf s' j=A.deaf s j
 zz:∀j,j≠i->A.Walk s j->A.zz s j->A.zz s' j\/∀x,A.At s j (kk j) (OO j) x->woken P g g1 w' (blk x)=x
 Sx:∀j k O x,j≠i->A.nT s j->A.EN s j k O x->A.EN s' j k O x
 tie:∀j x,j≠i->A.Live s j->A.Om s j x->A.Om s' j x
structure Self(P:acH)(A:qJ P)(s':A.S)(f':Nat->Node P)(q':acA)(kk':acG)(OO':acF)(J':acu)(t':Trace)(i:Nat)(g1:acx):Prop where
 live:A.Live s' i->i<A.top/\g1=(f' i).g/\(f' i).m=A.mo s' i/\(f' i).k=kk' i/\(f' i).O=OO' i/\(f' i).g.status=.running/\Deaf t' i=0/\(i=0\/J' i)/\A.Om s' i (f' i)
 walk:A.Walk s' i -> ¬A.Live s' i/\i<A.top/\Deaf t' i=A.deaf s' i/\∃g',A.At s' i (kk' i) (OO' i) g'/\Ko P A.Wd (A.zz s' i) (q' i) g1 g'
 held:A.nT s' i -> ¬A.Live s' i/\¬A.Walk s' i/\i<A.top/\Deaf t' i=0/\g1.status=.blocked/\A.EN s' i (kk' i) (OO' i) g1
 rest:¬A.Live s' i -> ¬A.Walk s' i -> ¬A.nT s' i->i≠0/\QuitsD P (q' i) (Deaf t' i) g1
def bF.step(B:zB A)(v:bF A Z s f q kk OO J M gs w t)(hi:gs[i]?=some g)(C:∀op∈u,op.g=i)(U:cr Z kk' OO' J' M' w' (t++u))(V:A.Ex s' kk' OO' J' M' gs.size w' (t++u))
 (W:∀j x,A.nT s j->A.EN s j (kk j) (OO j) x->x.again w'=x) (hb:Beside A s s' f f' q q' kk kk' OO OO' J J' w' i g g1) (E:Self P A s' f' q' kk' OO' J' (t++u) i g1):
 bF A Z s' f' q' kk' OO' J' M' ((gs.map (woken P g g1 w')).setIfInBounds i g1) w' (t++u):=by
 have X:i<gs.size:=(zs.1 hi).1;have F:=v.On B (i:=i) (a:=g) (a':=g1) (x:=g1) (w':=w') W;have p:((gs.map (woken P g g1 w')).setIfInBounds i g1)[i]?=some g1:=zU (by simp_all)
 have G:∀j,j≠i->Deaf (t++u) j=Deaf t j:=λj d=>Deaf_other t (za d) _ C
 refine⟨v.lk,U,λj d=>?_,λj d=>?_,λj d=>?_,λj x I N O Q=>?_,λj d=>?_,by simp_all⟩
 . by_cases e:j=i
   . subst e
     obtain⟨l,n,m⟩:=E.live d
     simp_all
   . have b:=(hb.live j e).1 d
     obtain⟨l,n,pm,m,D,z,r,R⟩:=v.live j b;rw[hb.ef j e,hb.ek j e l,hb.eO j e l,G j e,hb.mo j e b];exact⟨l,F.live j e b,pm,m,D,z,r,R.1.imp id (hb.eJ j e b),hb.tie j _ e b R.2⟩
 . by_cases e:j=i
   . subst e
     obtain⟨l,n,m,g',D,z⟩:=E.walk d
     grind
   . have b:=(hb.walk j e).1 d
     obtain⟨l,n,m,x,Y,D,z,r⟩:=v.walk j b;refine⟨λh=>l ((hb.live j e).1 h),n,by rw[G j e,hb.deaf j e b];exact m,?_⟩
     rw[hb.ek j e n,hb.eO j e n,hb.eq j e];obtain⟨y,y',o,K,r3⟩:=F.walk j e b
     by_cases hd:∃x,A.zz s j/\y=blk x/\A.At s j (kk j) (OO j) x/\q j=0
     . obtain⟨x0,S,H,d3,d4⟩:=hd
       rcases hb.zz j e b S with h|h
       . exact⟨y,x0,o,hb.at' j _ _ _ e b d3,.inl ⟨h,H,d4⟩⟩
       ·
        have c:((gs.map (woken P g g1 w')).setIfInBounds i g1)[j]?=some (woken P g g1 w' x):=by grind
        obtain⟨T,a2⟩:=B.kH z
        rcases r with⟨_,rfl,_⟩|r
        . rw[h _ z]at c
          rw[c]at o;have:=aag o;rw[H]at this;have k:Y.status=.blocked:=by rw[this];rfl
          simp_all
        . rw[woken_run (r.first T)]at c
          rw[c]at o;have hh:=aag o;have k:x.status=.blocked:=by rw[hh,H];rfl
          rw[r.first T]at k;cases k
     . rcases r3 with⟨S,rfl,H⟩|r3
       . simp_all
       . exact⟨y,y',o,hb.at' j _ _ _ e b K,.inr r3⟩
 . by_cases e:j=i
   . subst e
     obtain⟨l,n,m,D,z,r⟩:=E.held d
     simp_all
   . have b:=(hb.held j e).1 d
     obtain⟨l,n,m,D,_⟩:=v.held j b;obtain⟨x,o,K,r3⟩:=F.held j e b;refine⟨λh=>l ((hb.live j e).1 h),λh=>n ((hb.walk j e).1 h),m,by simp_all,x,o,K,?_⟩
     rw[hb.ek j e m,hb.eO j e m];exact hb.Sx j _ _ _ e b r3
 . by_cases e:j=i
   . subst e
     rw[p]at I;obtain rfl:=aag I;exact E.rest N O Q
   . rw[hb.eq j e,G j e]
     exact F.rest j x e I (λh=>N ((hb.live j e).2 h)) (λh=>O ((hb.walk j e).2 h)) (λh=>Q ((hb.held j e).2 h))
 . have L:gs.size<=j:=by simp_all
   rw[G j (by omega)];exact v.above j L
end
def knows_own{t u i m op}(h:u[m]?=some op)(a:op.g=i):Knows (t++u) i (t.size+m):=⟨t.size+m,op,dq h,a,.inl rfl⟩
section
variable{Z:Base}{kk:acG}{OO:acF}{J M:acu}{w w':World}{t u:Trace}{i:Nat}
def Bn(kk:acG)(OO:acF)(B:Nat)(t:Trace)(i:Nat)(u:Trace):Prop:=∀op∈u,∀a,op.act.touch?=some a->a.kind=.atomic/\(a.loc.isMemory=true->Ke kk OO B a.loc)/\∀n b,touchAt t n=some b->b.loc=a.loc->b.kind=.plain->Knows t i n
def cr.Qe(h:cr Z kk OO J M w t)(d:∀op∈u,op.g=i)(y:w'.heap.size=w.heap.size)(z:Calm Z w w')(hb:∀b,Kept kk OO w w' b)(A:∀op∈u,op.act.low w.heap.size)(q:Bn kk OO w.heap.size t i u)
 (l:∀m op a,u[m]?=some op->op.act.touch?=some a->a.loc.isMemory=true->Told Z J M (t++u) (t.size+m) a):cr Z kk OO J M w' (t++u):=
 h.tz (λa b=>a=b) y z hb A (λa b e n x _ _ _ B=>by subst e;exact B.app u) (λj b n v h=>⟨j,rfl,h⟩) (λj b s h=>⟨j,rfl,h⟩) (λj b x h=>⟨j,rfl,h,λ_ h=>h⟩) h.jq
  (fun said=>noRace_append (h.clean said) d λn a o op c b hb C=>by
    obtain⟨f,k,D⟩:=q op c b hb;obtain⟨E,_,_,F⟩:=C
    simp_all)
  (λop c a o r=>(q op c a o).2.1 r) l
  (λn a o r h=>h.elim (λ⟨j,f,k⟩=>.inr (.inl ⟨j,f,k.app _⟩)) (λ⟨p,f,k⟩=>.inr (.inr (.inl ⟨p,f,k.app _⟩))))
def cr.sync(h:cr Z kk OO J M w t)(hJ:i=0\/J i)(c:∀op∈u,op.g=i)(f:w'.heap.size=w.heap.size)(j:Calm Z w w')(hb:∀b,Kept kk OO w w' b)(k:∀op∈u,op.act.low w.heap.size)(l:Bn kk OO w.heap.size t i u):cr Z kk OO J M w' (t++u):=
 h.Qe c f j hb k l λm op a d n o=>by
  have e:Knows (t++u) i (t.size+m):=knows_own d (c op (aat d));rcases hJ with rfl|hJ
  . exact .inl e
  . exact .inr (.inl ⟨i,hJ,e⟩)
end
section
variable{P:acH}{A:bJ}{Z:Base}{s:MS P}{kk:acG}{OO:acF}{J M:acu}{gsz:Nat}{w w':World}{t u:Trace}{j:Nat}{x:bq P}{sh:Mu.Sh}
def n8(hj:j<A.n)(h:x.busy=(s.w j).busy)  i :dU P A (s.aU j x sh) i↔dU P A s i:=by
 have:∀l,((s.aU j x sh).w l).busy=(s.w l).busy:=λl=>by
  by_cases e:l=j
  . subst e;rw[aV,h]
  . rw[cq e]
 unfold dU;simp only[this];rfl
def KY{a:Touch}{l ad}(h:yE A a.loc)(e:a.loc=.cell ad)(b:ad.block=A.fb/\ad.off=A.cell l):False:=by rw[e]at h;obtain⟨_,h⟩:=h;have:=A.d4;rw[b.1,b.2]at h;unfold bJ.cell at h;omega
def cZ.E3(h:cZ P A Z s kk OO J M gsz w t){s':MS P}(d:A.dir=true->∀l,l<A.n->(s'.w l).ir=(s.w l).ir/\(s'.w l).owns=(s.w l).owns)(p:∀op∈u,∀a,op.act.touch?=some a->yE A a.loc):
 A.dir=true->∀j,j<A.n->((s'.w j).ir=false->(∀i,(kk i).cell A.fb (A.cell j)=none)/\∀m a ad,touchAt (t++u) m=some a->a.loc=.cell ad->ad.block=A.fb/\ad.off=A.cell j->m<Z.N0)/\((s'.w j).rel=true->(kk (A.b+j)).cell A.fb (A.cell j)=some (A.val j)):=λhd l c=>by
 obtain⟨q,r⟩:=d hd l c;rw[bq.rel,q,r];exact⟨λk=>⟨((h.yF hd l c).1 k).1,λm a ad v e o=>(dR v).elim (λf=>((h.yF hd l c).1 k).2 m a ad f.1 e o) (λ⟨op,g,f⟩=>(KY (p op g a f) e o).elim)⟩,(h.yF hd l c).2⟩
def cZ.xi(h:cZ P A Z s kk OO J M gsz w t)(hj:j<A.n)(k:x.busy=(s.w j).busy)(E:x.owns=(s.w j).owns)(o:A.dir=true->x.ir=(s.w j).ir)(F:bN A.n (s.aU j x sh))(p:ShM A.fb A.fo w' sh)
 (d:∀b,b≠A.fb->w'.heap[b]?=w.heap[b]?) (q:∃c e,w'.heap[A.fb]?=some (.cells c e (0,0))) (z:∀op∈u,(∀a,op.act.touch?=some a->a.kind=.atomic/\yE A a.loc)/\∀a,op.act≠.mark (.release a)):
 cZ P A Z (s.aU j x sh) kk OO J M gsz w' (t++u):=by
 have m:∀l,((s.aU j x sh).w l).owns=(s.w l).owns:=λl=>by
  by_cases e:l=j
  . subst e;rw[aV,E]
  . rw[cq e]
 refine⟨F,h.size,h.dd,h.off,h.E3 (λhd l _=>⟨?_,m l⟩) (λop g a r=>((z op g).1 a r).2),λhd=>by rw[d _ A.d1];exact h.zK hd,p,h.gr.same (.of_heap (d _ (za A.d4))),q,by rw[d _ (za A.d4)];exact h.yS,h.gF,h.er,λi y G=>?_,λl B v=>h.yT l B (by simp_all),λv=>h.N1 λl B=>by simp_all,λc H=>?_,
  λi=>by rw[h.hJ i];exact(n8 hj k i).symm,h.uT u,h.mr u,h.jY u (λop g a r _ I=>?_),h.nZ u (λop g a r _ I=>?_),h.pz u,h.ju u (λop g=>(z op g).2),h.CN,h.sb,h.jM,h.fa,h.la,by simp;exact ZV h.n0 (aaI _ _)⟩
 . by_cases e:l=j
   . subst e;rw[aV,o hd]
   . rw[cq e]
 . obtain⟨l,f,C,D,L,K⟩:=h.tok i y G
   exact⟨l,f,C,D,by simp_all,K⟩
 . obtain⟨C,D⟩:=h.N2 c H
   simp_all
 . grind
 grind
def cZ.work(h:cZ P A Z s kk OO J M gsz w t)(hj:j<A.n)(k:(s.w j).work=true)(l:x.work=true)(m:x.owns=(s.w j).owns)(f:A.dir=true->x.ir=(s.w j).ir)(o:bN A.n (s.aU j x sh))(g:ShM A.fb A.fo w' sh)
 (d:∀b,b≠A.fb->w'.heap[b]?=w.heap[b]?) (i:∃c e,w'.heap[A.fb]?=some (.cells c e (0,0))) (p:∀op∈u,(∀a,op.act.touch?=some a->a.kind=.atomic/\yE A a.loc)/\∀a,op.act≠.mark (.release a)):
 cZ P A Z (s.aU j x sh) kk OO J M gsz w' (t++u):=
 h.xi hj (by rw[(bD k).2.2.2.2.2.1,(bD l).2.2.2.2.2.1]) m f o g d i p
end
section
variable{P:acH}
def Bo {y s fr f l e cs} (b:FR y s fr) (h:aZ s=some (f,l)) (c:Ext P f e):mayWake P (G fr cs)=true:=by
 obtain⟨ops,i,rest,kk,o,as,d,g,p,j,q,a,r⟩:=dk b h;obtain⟨fn,k,t,u,v,w⟩:=c.ex;have m:fr.mode = .run:=by rw[a];rfl
 have n:fr.todo = .inRegion ops (i :: rest) :: kk:=by rw[a];rfl
 unfold mayWake;simp only[G,m,n,g,aal,j,Frame.eval,k,Option.any_some]
 grind
def H2{n b o kind cs g}(C:gy P n)(X:gz P n)(h:nJ P n b o kind .give cs g):mayWake P g=true:=by
 obtain⟨c,y,fr,d,e,i,a,f,rfl⟩:=h;rcases e with rfl|rfl
 . exact Bo a (C.VR b o kind) X.nX
 . exact Bo a (C.VS b o kind) X.nX
def oa{b o w w'}(h:MW b o w w')(a:∃c e,w.heap[b]?=some (.cells c e (0,0))):
 w'.heap.size=w.heap.size/\(∀r,r≠b->w'.heap[r]?=w.heap[r]?)/\∃c e c',w.heap[b]?=some (.cells c e (0,0))/\w'.heap[b]?=some (.cells c' e (0,0))/\c'.size=c.size/\∀n,n≠o->n≠o+1->c'[n]?=c[n]?:=by
 obtain⟨c,e,a⟩:=a;rcases h.2 with h|⟨i,v,f,g,h⟩
 . grind
 . refine⟨by simp_all,λr d=>?_,c,e,c.setIfInBounds i v,a,?_,by simp,λn j k=>?_⟩
   . rw[h];simp only[World.setCell,aaw,ZM (za d)]
   . rw[h];simp[World.setCell,aaw,a]
   grind
end
section
variable{P:acH}{A:bJ}{Z:Base}{s:MS P}{kk:acG}{OO:acF}{J M:acu}{gsz:Nat}{w w':World}{t:Trace}{j:Nat}{x:bq P}{sh:Mu.Sh}
def cZ.calm(h:cZ P A Z s kk OO J M gsz w t)(a:MW A.fb A.fo w w'):Calm Z w w':=by obtain⟨d,c,_⟩:=oa a h.uR;have:=h.fa.2.1;exact⟨a.1,λb hb=>c b (by omega)⟩
def cZ.kept(h:cZ P A Z s kk OO J M gsz w t)(a:MW A.fb A.fo w w'):∀b,Kept kk OO w w' b:=λb=>by
 obtain⟨u,d,c,e,f,j,k,l,v⟩:=oa a h.uR;by_cases hb:b=A.fb
 . subst hb
   refine .inr (.inr ⟨c,f,e,j,k,l,λi x m=>by obtain⟨_,g,_,_,_,rfl,o⟩:=h.tok i x m;exact⟨g,rfl,λn p=>by have:=(o n p).2;unfold bJ.cell at this;grind⟩,λn=>?_⟩);by_cases q:n=A.fo
   . subst q;exact .inr λi=>(h.er i).1
   . by_cases r:n=A.fo+1
     . subst r;exact .inr λi=>(h.er i).2.1
     simp_all
 . exact .inl (d b hb)
def cZ.TS(h:cZ P A Z s kk OO J M gsz w t){n}(a:n=A.fo\/n=A.fo+1):Ke kk OO w.heap.size (.cell ⟨A.fb,n,none⟩):=by
 have b:A.fb<w.heap.size:=by obtain⟨c,e,f⟩:=h.uR;grind
 refine⟨b,λi=>⟨λd=>?_,?_⟩⟩
 . obtain⟨_,_,_,_,e⟩:=h.OG d
   have e:n=A.fo+2+_:=e;omega
 . rcases a with rfl|rfl
   . exact(h.er i).1
   . exact(h.er i).2.1
def ny{b o e}(d:(e.loc=.mark .disable\/e.loc=.mark .enable)\/∃i,(i=o\/i=o+1)/\e.loc=.cell ⟨b,i,none⟩/\e.sync=true):
 (∀a,(MemAct.ofEvent e).touch?=some a->a.kind=.atomic/\∃i,(i=o\/i=o+1)/\a.loc=.cell ⟨b,i,none⟩)/\(∀a,MemAct.ofEvent e≠.mark (.release a))/\∀B,b<B->(MemAct.ofEvent e).low B:=by
 obtain⟨loc,wr,j⟩:=e;rcases d with(h|h)|⟨i,k,h,c⟩
 . simp only at h;subst h
   simp[MemAct.ofEvent,MemAct.touch?,MemAct.low]
 . simp only at h;subst h
   simp[MemAct.ofEvent,MemAct.touch?,MemAct.low]
 . simp only at h c;subst h;subst c
   refine⟨λa f=>?_,by simp[MemAct.ofEvent],λB g=>by simpa[MemAct.ofEvent,MemAct.low,Loc.low]using g⟩;simp only[MemAct.ofEvent,MemAct.touch?,kn]at f
   grind
def cZ.KZ(h:cZ P A Z s kk OO J M gsz w t){es}(p:EvM A.fb A.fo es){i}(hi:bQ P A s i)  fn   pos :
 Bn kk OO w.heap.size t i (MemOp.ofEvents i fn pos es)/\(∀op∈MemOp.ofEvents i fn pos es,op.act.low w.heap.size)/\∀op∈MemOp.ofEvents i fn pos es,(∀a,op.act.touch?=some a->a.kind=.atomic/\yE A a.loc)/\∀a,op.act≠.mark (.release a):=by
 have v:A.fb<w.heap.size:=by obtain⟨c,e,f⟩:=h.uR;grind
 refine⟨λop d a k=>?_,λop d=>?_,λop d=>?_⟩<;>obtain⟨e,l,rfl⟩:=zR d<;>obtain⟨o,q,x⟩:=ny (p e l)
 . obtain⟨f,n,g,j⟩:=o a k
   refine⟨f,λ_=>by rw[j];exact h.TS g,λm b hb r u=>h.quiet m b hb ?_ u i hi⟩
   rw[r,j];exact⟨rfl,.inl ⟨rfl,g⟩⟩
 . grind
 . refine⟨λa k=>?_,q⟩
   obtain⟨f,n,g,j⟩:=o a k;exact⟨f,by rw[j];exact⟨rfl,.inl ⟨rfl,g⟩⟩⟩
end
structure fe{P}(A:bJ)(s s':MS P)  i :Prop where
 w:∀l,l<A.n->A.b+l≠i->s'.w l=s.w l
 c:i≠A.cl->s'.c=s.c
 ms:i≠0->s'.ms=s.ms
 sp:s'.sp=s.sp
 d:s'.d=s.d
 iE:(∀l,l<A.n->(s'.w l).iE=(s.w l).iE)\/((dA P A s 0->∃m,s.ms=.add m\/s.ms=.spawn m)/\s.ms≠.parked)
section
variable{P:acH}{A:bJ}{Fin:abV}{Z:Base}{s s':MS P}{f f':Nat->Node P}{q q':acA}{kk kk':acG}{OO OO':acF}{J J' M:acu}{gs:abZ}{gsz:Nat}{w w':World}{t u:Trace}{i:Nat}{g g1:acx}
def xj(h:∀l,l<A.n->(s'.w l).iE=(s.w l).iE):MS.rem P A.n s'=MS.rem P A.n s:=by unfold MS.rem;exact aba λl a=>by grind
def fe.live(h:fe A s s' i){j}(hj:j≠i):dA P A s' j↔dA P A s j:=by
 constructor<;>rintro(⟨b,a⟩|⟨l,a,d,f⟩|⟨b,a⟩)
 . exact .inl ⟨b,by rw[<-h.ms (λe=>hj (b.trans e.symm))];exact a⟩
 . exact .inr (.inl ⟨l,a,d,by rw[<-h.w l a (λe=>hj (d.trans e))];exact f⟩)
 . exact .inr (.inr ⟨b,by rw[<-h.c (λe=>hj (b.trans e.symm))];exact a⟩)
 . exact .inl ⟨b,by rw[h.ms (λe=>hj (b.trans e.symm))];exact a⟩
 . exact .inr (.inl ⟨l,a,d,by rw[h.w l a (λe=>hj (d.trans e))];exact f⟩)
 . exact .inr (.inr ⟨b,by rw[h.c (λe=>hj (b.trans e.symm))];exact a⟩)
def fe.walk(h:fe A s s' i){j}(hj:j≠i):gE P A s' j↔gE P A s j:=by
 constructor<;>rintro(⟨b,a⟩|⟨l,a,d,f⟩|⟨b,a⟩)
 . exact .inl ⟨b,by rw[<-h.ms (λe=>hj (b.trans e.symm))];exact a⟩
 . exact .inr (.inl ⟨l,a,d,by rw[<-h.w l a (λe=>hj (d.trans e))];exact f⟩)
 . exact .inr (.inr ⟨b,by rw[<-h.c (λe=>hj (b.trans e.symm))];exact a⟩)
 . exact .inl ⟨b,by rw[h.ms (λe=>hj (b.trans e.symm))];exact a⟩
 . exact .inr (.inl ⟨l,a,d,by rw[h.w l a (λe=>hj (d.trans e))];exact f⟩)
 . exact .inr (.inr ⟨b,by rw[h.c (λe=>hj (b.trans e.symm))];exact a⟩)
def fe.held(h:fe A s s' i){j}(hj:j≠i):fq P A s' j↔fq P A s j:=by
 constructor<;>rintro(⟨b,a⟩|⟨l,a,c,d⟩)
 . exact .inl ⟨b,by rw[<-h.ms (λe=>hj (b.trans e.symm))];exact a⟩
 . exact .inr ⟨l,a,c,by rw[<-h.w l a (λe=>hj (c.trans e))];exact d⟩
 . exact .inl ⟨b,by rw[h.ms (λe=>hj (b.trans e.symm))];exact a⟩
 . exact .inr ⟨l,a,c,by rw[h.w l a (λe=>hj (c.trans e))];exact d⟩
def lI  K  (t:fe A s s' i) (L:∀j,j≠i->f' j=f j) (M:∀j,j≠i->q' j=q j) (N:∀j,j≠i->j<A.b+A.n+1->kk' j=kk j) (Q:∀j,j≠i->j<A.b+A.n+1->OO' j=OO j) (R:∀j,j≠i->J j->J' j)
 (o:((s.sh.ms=0->s'.sh.ms=0)/\(s.gm=0->s'.gm=0))\/(mayWake P g=true/\(g1.status=.running\/g1.status=.finished))) (S:∀{i k O y},TR P A Fin s i k O y->y.status=.running/\y.offers=none):
 Beside (bX P A Fin Z K) s s' f f' q q' kk kk' OO OO' J J' w' i g g1:=by
 have hb:=A.hb;have wl:∀{j l:Nat},l<A.n->j≠i->j=A.b+l->s'.w l=s.w l:=λ{j l} E a e=>t.w l E (λh=>a (e.trans h))
 have x:∀{j:Nat},j≠i->j=0->s'.ms=s.ms:=λa e=>t.ms (λh=>a (e.trans h.symm))
 have H:∀{j:Nat},j≠i->j=A.cl->s'.c=s.c:=λa e=>t.c (λh=>a (e.trans h.symm))
 refine⟨L,M,N,Q,λj a _ h=>R j a h,λj a=>t.live a,λj a=>t.walk a,λj a=>t.held a,λj a E=>?_,λj k O y a _ F=>?_,λj a I=>?_,λj a I hd=>?_,λj k O y a T F=>?_,λj y a _ U=>?_⟩
 . show cz P A Fin s' j=cz P A Fin s j
   unfold cz;by_cases d:j=0
   . rcases t.iE with u|⟨u,_⟩
     . simp only[ZS d,x a d,xj u]
     . subst d
       obtain⟨m,e|e⟩:=u E<;>simp only[ZR,x a rfl,e]
   rcases E with⟨G,_⟩|⟨l,p,r,_⟩|⟨G,_⟩
   . omega
   . have e:j-A.b=l:=by omega
     grind
   grind
 . rcases F with⟨d,h⟩|⟨l,p,r,B⟩|⟨d,h⟩
   . exact .inl ⟨d,by grind⟩
   . exact .inr (.inl ⟨l,p,r,by grind⟩)
   . exact .inr (.inr ⟨d,by grind⟩)
 . show dL P A s' j=dL P A s j
   unfold dL;rcases I with⟨d,h1⟩|⟨l,p,r,_⟩|⟨d,_⟩
   . grind
   . grind
   grind
 . rcases o with⟨o,v⟩|⟨hm,u⟩
   . refine .inl ?_
     rcases hd with⟨l,sv,Y,p,r,B,C⟩|⟨d,B,C⟩
     . exact .inl ⟨l,sv,Y,p,r,by grind,o C⟩
     . exact .inr ⟨d,by grind,v C⟩
   . refine .inr λy V=>?_
     obtain⟨W,a2⟩:=S V;have H:(mayWake P g && g1.status !=.blocked && g1.status !=.waiting)=true:=by grind
     unfold Go.Conc.woken;rw[ZS H,zC W a2]
 . rcases F with⟨d,D,z,p,r,B,C⟩|h
   . rcases t.iE with u|⟨_,u⟩
     . exact .inl ⟨d,D,z,p,r,B,by rw[xj u];exact C⟩
     . rcases T with⟨_,h7⟩|⟨l,_,h7,_⟩
       . simp_all
       . omega
   . exact .inr h
 . exact λl b X p r B=>U l b X p r (by grind)
variable{j:Nat}{x:bq P}{sh:Mu.Sh}
def xi(hj:j<A.n)(h:x.iE=(s.w j).iE\/((dA P A s 0->∃m,s.ms=.add m\/s.ms=.spawn m)/\s.ms≠.parked)):fe A s (s.aU j x sh) (A.b+j):=⟨λl _ a=>cq (by omega),λ_=>rfl,λ_=>rfl,rfl,rfl,h.imp_left λh l _=>by
 by_cases e:l=j
 . subst e;rw[aV,h]
 . rw[cq e]⟩
def pD  c  (hj:j<A.n) (d:x.iE=(s.w j).iE) (e:∀i,i≠A.b+j->f' i=f i) (l:∀i,i≠A.b+j->q' i=q i) (m:∀i,i≠A.b+j->i<A.b+A.n+1->kk' i=kk i) (o:∀i,i≠A.b+j->i<A.b+A.n+1->OO' i=OO i) (p:∀i,i≠A.b+j->J i->J' i)
 (a:(s.sh.ms=0->sh.ms=0)\/(mayWake P g=true/\g1.status=.running)) (r:∀{i k O y},TR P A Fin s i k O y->y.status=.running/\y.offers=none):
 Beside (bX P A Fin Z c) s (s.aU j x sh) f f' q q' kk kk' OO OO' J J' w' (A.b+j) g g1:=
 lI c (xi hj (.inl d)) e l m o p (a.imp (λh=>⟨h,id⟩) λh=>⟨h.1,.inl h.2⟩) r
def my  c  (hj:j<A.n) (d:(s.w j).work=true) (e:x.work=true) (h:∀i,i≠A.b+j->f' i=f i) (l:∀i,i≠A.b+j->q' i=q i) (m:∀i,i≠A.b+j->i<A.b+A.n+1->kk' i=kk i) (o:∀i,i≠A.b+j->i<A.b+A.n+1->OO' i=OO i) (p:∀i,J i->J' i)
 (a:(s.sh.ms=0->sh.ms=0)\/(mayWake P g=true/\g1.status=.running)) (r:∀{i k O y},TR P A Fin s i k O y->y.status=.running/\y.offers=none):
 Beside (bX P A Fin Z c) s (s.aU j x sh) f f' q q' kk kk' OO OO' J J' w' (A.b+j) g g1:=
 pD c hj (by rw[(bD e).2.2.1,(bD d).2.2.1]) h l m o (λi _=>p i) a r
end
def bq.jZ{P}:bq P->Bool
 |.lk ..=>true|.un ..=>true|_=>false
def iP{P}{x:bq P}(h:x.jZ=true):x.work=true:=by cases x<;>simp_all [bq.jZ,bq.work]
section
variable{P:acH}{A:bJ}{Fin:abV}{Z:Base}{s:MS P}{f:Nat->Node P}{q:acA}{kk:acG}{OO:acF}{J M:acu}{gs:abZ}{w w':World}{t:Trace}{j:Nat}{x:bq P}{sh:Mu.Sh}{g g1:acx}
def vJ(hj:j<A.n)(h:(s.w j).busy=true):dU P A s (A.b+j):=.inl ⟨j,hj,rfl,h⟩
def iF(I:bN A.n s)(hj:j<A.n)(h:(s.w j).js=false):bQ P A s (A.b+j):=by
 refine .inr (.inl ⟨j,?_,rfl⟩);have:=I.idle j hj
 simp_all
def iQ(hj:j<A.n)(h:(s.w j).jZ=true):gE P A s (A.b+j):=.inr (.inl ⟨j,hj,rfl,by cases e:s.w j<;>simp_all [bq.jZ]⟩)
def mz(hj:j<A.n)(h:(s.w j).jZ=true):¬dA P A s (A.b+j):=by
 have:=A.hb;rintro(⟨e,_⟩|⟨l,a,c,d⟩|⟨e,_⟩)
 . omega
 . obtain rfl:l=j:=by omega
   cases e:s.w l<;>simp_all [bq.jZ]
 . omega
def pF(hj:j<A.n)(h:(s.w j).jZ=true):¬fq P A s (A.b+j):=by
 have:=A.hb;rintro(⟨e,_⟩|⟨l,c,d,a⟩)
 . omega
 . obtain rfl:l=j:=by omega
   rw[a]at h;cases h
def eL(hj:j<A.n):dL P A s (A.b+j)=(s.w j).deaf:=by
 have:=A.hb;unfold dL
 grind
def CR  u  (L:bF (bX P A Fin Z u) Z s f q kk OO J M gs w t) (hj:j<A.n) (K:(s.w j).work=true){d}(N:Deaf t (A.b+j)=d) (Q:¬fq P A s (A.b+j)) (h2:x.jZ=true) (ho:x.owns=(s.w j).owns) (R:A.dir=true->x.ir=(s.w j).ir) (hI:bN A.n (s.aU j x sh)) (hL:MS.fZ A.n (s.aU j x sh) s)
 (hg:gs[A.b+j]?=some g){es}(S:stepG P false g w=.go g1 w' es) (o:MW A.fb A.fo w w') (T:ShM A.fb A.fo w' sh) (U:EvM A.fb A.fo es) (hd:deafBehind d es=x.deaf)
 (hs:∃n g',jd P (kN A) n g1 g'/\GN P A j x (kk (A.b+j)) (OO (A.b+j)) g') (v:(s.sh.ms=0->sh.ms=0)\/(mayWake P g=true/\g1.status=.running))  sl :
 ∃ops m',runT P (crowd gs w sl) (A.b+j)=(.next m',ops)/\∃s' f' q' kk' OO' J' M' gs' z V,m'=crowd gs' z V/\MS.fZ A.n s' s/\bF (bX P A Fin Z u) Z s' f' q' kk' OO' J' M' gs' z (t++ops):=by
 obtain⟨n,g',C,W⟩:=hs;have hb:=A.hb;have B:=bd (P:=P) (A:=A) (Fin:=Fin) (Z:=Z) u;have w2:=iP h2;have p:cZ P A Z s kk OO J M gs.size w t:=L.ex;have X:(A.b+j==0)=false:=by simp;omega
 have D:=runT_crowd_go (P:=P) (sl:=sl) (i:=A.b+j) hg (by rw[X];exact S)
 have E:bQ P A s (A.b+j):=iF p.I hj (bD K).2.2.2.2.1;obtain⟨y1,y2,y3⟩:=p.KZ U E g.frame.fn g.frame.place;have m:∀op∈MemOp.ofEvents (A.b+j) g.frame.fn g.frame.place es,op.g=A.b+j:=λop Y=>by obtain⟨e,_,rfl⟩:=zR Y;rfl
 obtain⟨m1,m2,c,e,c',m3,m4,_⟩:=oa o p.uR;have hP:=L.cK.sync (i:=A.b+j) (.inr ((p.hJ _).2 (vJ hj (bD K).2.2.2.2.2.1))) m m1 (p.calm o) (p.kept o) y2 y1;have F:cZ P A Z (s.aU j x sh) kk OO J M gs.size w' (t++MemOp.ofEvents (A.b+j) g.frame.fn g.frame.place es):=p.work hj K w2 ho R hI T m2 ⟨c',e,m4⟩ y3
 have r:Beside (bX P A Fin Z u) s (s.aU j x sh) f f q (upd q (A.b+j) n) kk kk OO OO J J w' (A.b+j) g g1:=my u hj K w2 (λ_ _=>rfl) (λi hi=>upd_ne q n hi) (λ_ _ _=>rfl) (λ_ _ _=>rfl) (λ_ h=>h) v (λ{i k O y} hA=>B.kH (s:=s) (i:=i) (k:=k) (O:=O) (g:=y) hA)
 have a:((s.aU j x sh).w j).jZ=true:=by rw[aV];exact h2
 refine⟨_,_,D,s.aU j x sh,f,upd q (A.b+j) n,kk,OO,J,M,_,_,_,rfl,hL,?_⟩;refine bF.step B L hg m hP F (λl y G hA=>?_) r ⟨λG=>absurd G (mz hj a),λ_=>⟨mz hj a,?_,?_,g',?_,?_⟩,λhh=>absurd hh (pF hj a),λ_ hn _=>absurd (iQ hj a) hn⟩
 . have H:l≠A.b+j:=λe=>Q (e ▸ G)
   exact B.se F ((r.held l H).2 G) _ _ (r.Sx l _ _ _ H G hA)
 . show A.b+j<A.b+A.n+1;omega
 . rw[Deaf_own,N]
   show deafBehind d es=dL P A (s.aU j x sh) (A.b+j);rw[eL hj,aV];exact hd
 . exact .inr (.inl ⟨j,hj,rfl,by rw[aV];exact W⟩)
 . exact .inr (by rw[upd_same];exact C)
def xk  d  (u:bF (bX P A Fin Z d) Z s f q kk OO J M gs w t) (hj:j<A.n) (e:(s.w j).jZ=true) (y:x.jZ=true) (z:x.owns=(s.w j).owns) (h:A.dir=true->x.ir=(s.w j).ir) (B:bN A.n (s.aU j x sh)) (C:MS.fZ A.n (s.aU j x sh) s)
 (D:gs[A.b+j]?=some g){es}(i:stepG P false g w=.go g1 w' es) (k:MW A.fb A.fo w w') (l:ShM A.fb A.fo w' sh) (m:EvM A.fb A.fo es) (hd:deafBehind (s.w j).deaf es=x.deaf)
 (E:∃n g',jd P (kN A) n g1 g'/\GN P A j x (kk (A.b+j)) (OO (A.b+j)) g') (a:(s.sh.ms=0->sh.ms=0)\/(mayWake P g=true/\g1.status=.running))  sl :
 ∃ops v,runT P (crowd gs w sl) (A.b+j)=(.next v,ops)/\∃s' f' q' kk' OO' J' M' gs' c o,v=crowd gs' c o/\MS.fZ A.n s' s/\bF (bX P A Fin Z d) Z s' f' q' kk' OO' J' M' gs' c (t++ops):=by
 have p:=iQ (P:=P) (A:=A) (s:=s) hj e;obtain⟨_,_,r,_⟩:=u.walk _ p;exact CR d u hj (iP e) (r.trans (eL hj)) (pF hj e) y z h B C D i k l m hd E a sl
end
namespace Mu
section
variable{n:Nat}{pcs:Nat->Pc}{s:Sh}{i:Nat}
def OI{f:Pc->Nat}(h:∀p,f p<=1)(pcs:Nat->Pc)  n :fA n (λi=>f (pcs i))<=n:=by
 have:=EM (f:=λi=>f (pcs i)) (c:=1) (λi=>h _) n;omega
def Inv.Wa(h:Inv n pcs s):s.w.N<=n+1/\s.ms<=1:=by
 have b:=OI (f:=cD) (λp=>by cases p<;>simp[cD]) pcs n
 cases e:s.w.S with
 | false=>
   obtain⟨c,_,a⟩:=h.j2 e;have:s.w.K.toNat<=1:=by cases s.w.K<;>simp
   omega
 | true=>
   obtain⟨_,_,a,d⟩:=h.j3 e;have:(!s.w.L).toNat<=1:=by cases s.w.L<;>simp
   omega
def Inv.OJ(h:Inv n pcs s)(hi:i<n)(a:pcs i=.held):s.w.L=true:=by
 have:bZ (pcs i)<=fA n (λj=>bZ (pcs j)):=iO (λj=>bZ (pcs j)) hi;rw[h.j1,a,show bZ .held=1 from rfl]at this
 grind
def Inv.Q3(h:Inv n pcs s)(hi:i<n){old sv}(a:pcs i=.add old sv):s.w.L=false/\s.w.S=true/\s.w.N≠0:=by
 have:dc (pcs i)<=fA n (λj=>dc (pcs j)):=iO (λj=>dc (pcs j)) hi;rw[a,show dc (.add old sv)=1 from rfl]at this;cases e:s.w.S with
 |false=>obtain⟨_,b,_⟩:=h.j2 e;omega
 | true=>
   obtain⟨_,_,c,d⟩:=h.j3 e
   grind
end
def Bp:Pc->Bool
 |.rd _=>true|.sq ..=>true|.sw ..=>true|.km ..=>true|.gL _=>true|.tq=>true|.up _=>true|.add ..=>true|.held=>true|_=>false
def E4:Pc->Bool
 |.out=>true|.jc _=>true|.vp=>true|.give=>true|_=>false
def Qf  old   l :Bp (nx old l)=true:=by unfold nx;split<;>rfl
def TU{old l p}(h:p∈hd old l):Bp p=true:=by
 unfold hd at h;rw[ZQ]at h;rcases h with h|h
 . split at h
   . rw[lb]at h;subst h;split<;>rfl
   . cases h
 . rw[lb]at h;subst h;rfl
def TV{p q s s'}(b:p=.fY\/(Bp p=true/\p≠.held))(h:(q,s')∈mv p s)(e:q≠.bad):Bp q=true:=by
 rcases b with rfl|⟨b,c⟩
 . simp only[mv]at h
   split at h<;>(rw[lb,zH]at h;obtain⟨rfl,rfl⟩:=h;rfl)
 cases p<;>simp only[Bp,LK]at b
 case rd l=>simp only[mv,lb,zH]at h;obtain⟨rfl,rfl⟩:=h;exact Qf _ _
 case sq old l=>simp only[mv,aad,zH]at h;obtain⟨a,d,rfl,rfl⟩:=h;exact TU d
 case sw old l=>simp only[mv]at h;split at h<;>(rw[lb,zH]at h;obtain⟨rfl,rfl⟩:=h;rfl)
 case km old l=>
  simp only[mv]at h;split at h
  . simp_all
  split at h
  . rw[lb,zH]at h;obtain⟨rfl,rfl⟩:=h;split<;>rfl
  . rw[lb,zH]at h;obtain⟨rfl,rfl⟩:=h;rfl
 case gL sv=>
  simp only[mv]at h;split at h
  . cases h
  . rw[lb,zH]at h;obtain⟨rfl,rfl⟩:=h;split<;>rfl
 case tq=>
  simp only[mv,aae,zH,abd,or_false]at h;rcases h with⟨rfl,rfl⟩|⟨rfl,rfl⟩<;>rfl
 case up sv=>
  simp only[mv]at h;split at h
  . split at h
    . simp_all
    . rw[lb,zH]at h;obtain⟨rfl,rfl⟩:=h;rfl
  . rw[lb,zH]at h;obtain⟨rfl,rfl⟩:=h;exact Qf _ _
 case add old sv=>simp only[mv,lb,zH]at h;obtain⟨rfl,rfl⟩:=h;rfl
 simp_all
def TW{p q s s'}(a:p=.held\/(E4 p=true/\p≠.out))(h:(q,s')∈mv p s)(c:q≠.bad):E4 q=true:=by
 rcases a with rfl|⟨a,b⟩
 . simp only[mv]at h
   split at h
   . simp_all
   . rw[lb,zH]at h
     obtain⟨rfl,rfl⟩:=h;split
     . rfl
     split
     . rfl
     split<;>rfl
 cases p<;>simp only[E4,LK]at a
 case out=>simp_all
 case jc old=>simp only[mv]at h;split at h<;>(rw[lb,zH]at h;obtain⟨rfl,rfl⟩:=h;rfl)
 case vp=>simp only[mv,lb,zH]at h;obtain⟨rfl,rfl⟩:=h;split<;>rfl
 case give=>simp only[mv,lb,zH]at h;obtain⟨rfl,rfl⟩:=h;rfl
def Qg{p q s s'}(b:p≠.give)(h:(q,s')∈mv p s)(a:s.ms=0):s'.ms=0:=by
 cases p<;>simp only[mv]at h
 case out=>cases h
 case bad=>cases h
 case give=>simp_all
 case sq=>grind
 case tq=>grind
 all_goals repeat' split at h
 all_goals first
  |(cases h;done)
  |(rw[lb,zH]at h;obtain⟨_,rfl⟩:=h;first|exact a|(show s.ms-1=0;omega))
end Mu
def tN:Bb->Bool
 |.fY=>true|.rd _=>true|.sq ..=>true|.sw ..=>true|.km ..=>true|.gL _=>true|.tq=>true|.up _=>true|.add ..=>true|.held=>true|.jc _=>true|.vp=>true|.give=>true
 |_=>false
def K0{q p}(h:To q p):p.abs=q:=by cases h<;>rfl
def TX{q p}(h:To q p)(a:Mu.Bp q=true):CI p=true/\p≠.ld/\p≠.la:=by cases h<;>simp_all [Mu.Bp,CI]
def TY{q p}(h:To q p)(a:Mu.E4 q=true):yR p=true/\p≠.Gw/\p≠.ur/\p≠.ud:=by cases h<;>simp_all [Mu.E4,yR]
def K1{q p}(h:To q p):q≠.bad:=by cases h<;>simp
section
variable{P:acH}{nm:CB}(C:gy P nm)(X:gz P nm){n:Nat}{pcs:Nat->Mu.Pc}{s:Mu.Sh}{i:Nat}{p:Bb}{b o:Nat}{kind:acD}{Wd:ack}{cs:acr}{g:acx}{w:World}{main:Bool}
include C X in
def CS(I:Mu.Inv n pcs s)(hi:i<n)(v:n<=900)(c:pcs i=p.abs)(f:tN p=true)(a:ShM b o w s)(h:nJ P nm b o kind p cs g):
 lF P nm b o kind Wd cs g w main p.abs s\/((∃sv,p=.gL sv)/\s.ms=0/\stepG P main g w=.go {g with status:=.blocked} w #[]):=by
 obtain⟨x,k⟩:=I.Wa;have hb:s.w.N<=1000:=by omega
 have j:∀{q s'},(q,s')∈Mu.mv (pcs i) s->Mu.loc q:=λ{q s'} f=>by
  have:=(I.step hi f).j0 i hi
  rwa [Mu.ai]at this
 have d:Mu.loc (pcs i):=I.j0 i hi;rw[c]at j d;cases p<;>simp only[tN,LK]at f
 case fY=>exact .inl (HQ C X a h)
 case rd l=>exact .inl (Ov C X a hb (j (q:=Mu.nx s.w l) (s':=s) (by simp[Bb.abs,Mu.mv])) h)
 case sq old l=>exact .inl (Ow C X a d h)
 case sw old l=>exact .inl (Ox C X a d h)
 case km old l=>exact .inl (KH C X a d h)
 case gL sv=>
  by_cases e:s.ms=0
  . exact .inr ⟨⟨sv,rfl⟩,e,CH C X a e h⟩
  . exact .inl (HR C X a e h)
 case tq=>exact .inl (Oy C X a h)
 case up sv=>exact .inl (Oz C X a hb (λq s' m=>j m) h)
 case add old sv=>obtain⟨r,t,u⟩:=I.Q3 hi c;exact .inl (KI C X a hb r t u h)
 case held=>exact .inl (HS C X a hb (I.OJ hi c) h)
 case jc old=>exact .inl (HT C X a h)
 case vp=>exact .inl (KJ C X a hb h)
 case give=>exact .inl (HU C X a (by omega) h)
end
section
variable{P:acH}{A:bJ}{Fin:abV}{Z:Base}{s:MS P}{f:Nat->Node P}{q:acA}{kk:acG}{OO:acF}{J M:acu}{gs:abZ}{w:World}{t:Trace}{j:Nat}{g:acx}
def Goes  P  (A:bJ) (Fin:abV) (Z:Base) (f:A.b+A.n+1<=Z.lk) (s:MS P) (gs:abZ) (w:World) (t:Trace) (sl:abX) (i:Nat):Prop:=∃ops e,runT P (crowd gs w sl) i=(.next e,ops)/\∃s' f' q' kk' OO' J' M' a c d,e=crowd a c d/\MS.fZ A.n s' s/\bF (bX P A Fin Z f) Z s' f' q' kk' OO' J' M' a c (t++ops)
def E5  P  (A:bJ) (s:MS P) (gs:abZ) (w:World) (sl:abX) (i:Nat) (g:acx):Prop:=Q0 P A s i/\runT P (crowd gs w sl) i=(.next (crowd (gs.setIfInBounds i (blk g)) w sl),#[])
def CU(e:gs[A.b+j]?=some g)(a:stepG P false g w=.go {g with status:=.blocked} w #[])  sl :runT P (crowd gs w sl) (A.b+j)=(.next (crowd (gs.setIfInBounds (A.b+j) (blk g)) w sl),#[]):=by
 have hb:=A.hb;have c:(A.b+j==0)=false:=by simp;omega
 have h:=runT_crowd_go (P:=P) (sl:=sl) (i:=A.b+j) e (by rw[c];exact a)
 have d:woken P g {g with status:=.blocked} w=id:=funext λo=>by unfold Go.Conc.woken;simp
 rw[d,Array.map_id]at h;exact h
variable(C:gy P A.nm)(X:gz P A.nm)
include C X in
def OK  G  (H:bF (bX P A Fin Z G) Z s f q kk OO J M gs w t) (hj:j<A.n){p Y}(a:s.w j=.lk p Y) (K:gs[A.b+j]?=some g) (V:GN P A j (.lk p Y) (kk (A.b+j)) (OO (A.b+j)) g) (W:p≠.la)  sl :
 Goes P A Fin Z G s gs w t sl (A.b+j)\/E5 P A s gs w sl (A.b+j) g:=by
 have m:cZ P A Z s kk OO J M gs.size w t:=H.ex;have a7:CI p=true:=by have:=m.I.ok j hj;rw[a]at this;exact this
 have L:(s.w j).jZ=true:=by rw[a];rfl
 have v:=iP L;have l:(s.w j).pc=p.abs:=by rw[a];rfl
 have hn:=A.hn;have hb:=A.hb;have aC:(A.b+j==0)=false:=by simp;omega
 obtain⟨kind,c,rest,e,Q,R,S,T,o,r,U⟩:=V
 by_cases N:tN p=true
 . rcases CS (Wd:=kN A) (main:=false) C X m.I.mu hj hn l N m.mu R with⟨g1,w',es,qq,s',z,i,B,D,⟨hr,E,⟨k,d⟩,F⟩,a8,a9,ad,al⟩|⟨⟨sv,rfl⟩,u,i⟩
   . left
     have av:Mu.Bp qq=true:=Mu.TV (by cases p<;>simp_all [CI,tN,Bb.abs,Mu.Bp]) B (K1 D)
     obtain⟨k1,k2,k3⟩:=TX D av;have y:((bq.lk z Y).pc,s')∈Mu.mv (s.w j).pc s.sh:=by rw[l,show(bq.lk z Y).pc=z.abs from rfl,K0 D];exact B
     have ax:(s.w j).deaf=1:=by rw[a];cases p<;>simp_all [bq.deaf,tN,CI]
     have ay:(bq.lk z Y).deaf=1:=by cases z<;>simp_all [bq.deaf]
     refine xk (x:=.lk z Y) G H hj L rfl (by rw[a];rfl) (λ_=>by rw[a];rfl) (m.I.mv hj v rfl k1 y) (GP m.I hj v rfl (by rw[a];rfl) y ?_) K i a8 a9 ad (by rw[al,ax,ay]) ⟨k,E,d,kind,c,rest,e,Q,F,S,T,o,r,U⟩ (.inl λu=>Mu.Qg ?_ B u) sl
     . cases z<;>simp_all [bq.ex]
     . cases p<;>simp_all [tN,CI,Bb.abs]
   . right
     exact⟨.inl ⟨j,sv,Y,hj,rfl,a,u⟩,CU K i sl⟩
 . cases p<;>simp only[tN,CI,not_true_eq_false,LK]at N a7
   case ld=>obtain⟨g1,i,hr,E,⟨k,d⟩,F⟩:=Bc (Wd:=kN A) (main:=false) (w:=w) C X R;left;exact xk (x:=.lk .fY Y) (sh:=s.sh) G H hj L rfl (by rw[a];rfl) (λ_=>by rw[a];rfl) (m.I.Xw hj v rfl rfl l rfl) (KX hj v rfl (by rw[a];rfl) l rfl (by rw[a];rfl) rfl) K i (bh rfl) m.mu (λe O=>by simp at O;subst O;exact .inl (.inl rfl)) (by rw[a];rfl) ⟨k,E,d,kind,c,rest,e,Q,F,S,T,o,r,U⟩ (.inl λu=>u) sl
   case t1 sv=>obtain⟨g1,i,hr,E,⟨k,d⟩,F⟩:=Ot (Wd:=kN A) (main:=false) (w:=w) C X R;left;exact xk (x:=.lk (.gL sv) Y) (sh:=s.sh) G H hj L rfl (by rw[a];rfl) (λ_=>by rw[a];rfl) (m.I.still hj v rfl rfl (by rw[l];rfl)) (lH hj v rfl (by rw[a];rfl) (by rw[l];rfl) (by rw[a];simp[bq.ex])) K i (bh rfl ⟨⟨w.tick,rfl⟩,rfl⟩) (m.mu.heap rfl) fI (by rw[a];rfl) ⟨k,E,d,kind,c,rest,e,Q,F,S,T,o,r,U⟩ (.inl λu=>u) sl
   case le=>
    obtain⟨g1,i,hr,E,⟨k,d⟩,F⟩:=GB (Wd:=kN A) (main:=false) (w:=w) C X (λw h=>h.2.2) R
    left;exact xk (x:=.lk .la Y) (sh:=s.sh) G H hj L rfl (by rw[a];rfl) (λ_=>by rw[a];rfl) (m.I.still hj v rfl rfl (by rw[l];rfl)) (lH hj v rfl (by rw[a];rfl) (by rw[l];rfl) (by rw[a];simp[bq.ex])) K i (bh rfl) m.mu (λe O=>by simp at O;subst O;exact .inl (.inr rfl)) (by rw[a];rfl) ⟨k,E,d,kind,c,rest,e,Q,F,S,T,o,r,U⟩ (.inl λu=>u) sl
   case la=>exact absurd rfl W
end
section
variable{P:acH}{A:bJ}{Fin:abV}{Z:Base}{s:MS P}{f:Nat->Node P}{q:acA}{kk:acG}{OO:acF}{J M:acu}{gs:abZ}{w:World}{t:Trace}{j:Nat}{g:acx}
variable(C:gy P A.nm)(X:gz P A.nm)
include C X in
def OL  B  (L:bF (bX P A Fin Z B) Z s f q kk OO J M gs w t) (hj:j<A.n){p Y}(a:s.w j=.un p Y) (Q:gs[A.b+j]?=some g) (R:GN P A j (.un p Y) (kk (A.b+j)) (OO (A.b+j)) g) (S:p≠.ur) (T:p≠.ue)  sl :
 Goes P A Fin Z B s gs w t sl (A.b+j):=by
 have m:cZ P A Z s kk OO J M gs.size w t:=L.ex;have F:yR p=true:=by have:=m.I.ok j hj;rw[a]at this;exact this
 have N:(s.w j).jZ=true:=by rw[a];rfl
 have D:=iP N;have i:(s.w j).pc=p.abs:=by rw[a];rfl
 have hn:=A.hn;have hb:=A.hb;obtain⟨kind,c,rest,U,O,V,W,G⟩:=R
 by_cases u:tN p=true
 . have a7:¬(p=.Gw\/p=.ur):=by rintro(rfl|rfl)<;>cases u
   have hN:=G a7
   rcases CS (Wd:=kN A) (main:=false) C X m.I.mu hj hn i u m.mu O with⟨g1,w',es,qq,s',o,l,y,z,⟨hr,H,⟨k,d⟩,K⟩,a8,a9,ad,al⟩|⟨⟨sv,rfl⟩,E,l⟩
   . have av:Mu.E4 qq=true:=Mu.TW (by cases p<;>simp_all [yR,tN,Bb.abs,Mu.E4]) y (K1 z)
     obtain⟨k1,k2,k3,k4⟩:=TY z av;have r:((bq.un o Y).pc,s')∈Mu.mv (s.w j).pc s.sh:=by rw[i,show(bq.un o Y).pc=o.abs from rfl,K0 z];exact y
     have ax:(s.w j).deaf=1:=by rw[a];cases p<;>simp_all [bq.deaf,tN,yR]
     have ay:(bq.un o Y).deaf=1:=by cases o<;>simp_all [bq.deaf]
     have aC:(s.w j).owns=false:=by rw[a];cases p<;>simp_all [bq.owns,tN,yR]
     have aE:(bq.un o Y).owns=false:=by cases o<;>simp_all [bq.owns]
     refine xk (x:=.un o Y) B L hj N rfl (by rw[aC,aE]) (λ_=>by rw[a];rfl) (m.I.mv hj D rfl k1 r) (GP m.I hj D rfl (by rw[a];rfl) r ?_) Q l a8 a9 ad (by rw[al,ax,ay]) ⟨k,H,d,kind,c,rest,U,K,V,λh=>absurd h (λh=>h.elim k2 k3),λ_=>hN⟩ ?_ sl
     . cases o<;>simp_all [bq.ex]
     . by_cases aL:p=.give
       . subst aL;exact .inr ⟨H2 C X O,hr⟩
       . refine .inl λE=>Mu.Qg ?_ y E
         cases p<;>simp_all [tN,yR,Bb.abs]
   . exact absurd F (by simp[yR])
 . cases p<;>simp only[tN,yR,not_true_eq_false,LK]at u F
   case Gw=>
    obtain⟨v,hv⟩:=((bd (P:=P) (A:=A) (Fin:=Fin) (Z:=Z) B).wd m).2.2;obtain⟨g1,l,hr,H,⟨k,d⟩,K⟩:=wZ (Wd:=kN A) (main:=false) (w:=w) C X (λw h=>h.2.2) hv O
    exact xk (x:=.un .ur Y) (sh:=s.sh) B L hj N rfl (by rw[a];rfl) (λ_=>by rw[a];rfl) (m.I.still hj D rfl rfl (by rw[i];rfl)) (lH hj D rfl (by rw[a];rfl) (by rw[i];rfl) (by rw[a];simp[bq.ex])) Q l (bh rfl) m.mu fI (by rw[a];rfl) ⟨k,H,d,kind,c,rest,U,K,V,λ_=>W (.inl rfl),λh=>absurd (.inr rfl) h⟩ (.inl λE=>E) sl
   case ud=>
    have hN:=G (by rintro(h|h)<;>cases h)
    obtain⟨g1,l,hr,H,⟨k,d⟩,K⟩:=Gy (Wd:=kN A) (main:=false) (w:=w) C X O;exact xk (x:=.un .held Y) (sh:=s.sh) B L hj N rfl (by rw[a];rfl) (λ_=>by rw[a];rfl) (m.I.still hj D rfl rfl (by rw[i];rfl)) (lH hj D rfl (by rw[a];rfl) (by rw[i];rfl) (by rw[a];simp[bq.ex])) Q l (bh rfl) m.mu (λe he=>by simp at he;subst he;exact .inl (.inl rfl)) (by rw[a];rfl) ⟨k,H,d,kind,c,rest,U,K,V,λh=>absurd h (by simp),λ_=>hN⟩ (.inl λE=>E) sl
   case ur=>exact absurd rfl S
   case ue=>exact absurd rfl T
end
def TT.Q4{P m K O g1 a}(h:sc P (λ_=>True) g1 a)(e:TT P m K O a):TT P m K O g1:=.step (λb c d=>b=K/\c=O/\d=a) h.1 (λb c d f=>by obtain⟨rfl,rfl,rfl⟩:=f;exact e) (λw g=>⟨a,w,#[],K,O,h.2 _ w trivial,Eff.refl _ _ _,g,rfl,rfl,rfl⟩)
def TT.CV{P m K O g1 c}  h   a  {z:Node P}(b:oW z ⟨m,K,O,g1,TT.Q4 h a⟩):z=⟨m,K,O,c,a⟩:=by
 unfold TT.Q4 at b;cases b with
 |step _ _ _ _ d=>obtain⟨rfl,rfl,rfl⟩:=d;rfl
def TT.pre{P m K O}:∀{k g1 a},jd P (λ_=>True) k g1 a->(X:TT P m K O a)->∃T ,uS ⟨m,K,O,g1,T⟩ ⟨m,K,O,a,X⟩
 |0,g1,a,h,X=>by obtain rfl:g1=a:=h;exact⟨X,.refl _⟩
 | k + 1,g1,a,⟨d,c,h⟩,X=>by
   obtain⟨b,g⟩:=TT.pre h X;refine⟨TT.Q4 c b,λy hy f=>?_⟩;rcases hy with rfl|hy
   . exact f.elim
   . have:y=⟨m,K,O,d,b⟩\/Relation.TransGen oW y ⟨m,K,O,d,b⟩:=by
      cases hy with
      |single h=>exact .inl (TT.CV c b h)
      | tail i j=>
        have e:=TT.CV c b j
        simp_all
     exact g y this f
section
variable{P:acH}{A:bJ}{Fin:abV}{Z:Base}{s:MS P}{f:Nat->Node P}{q:acA}{kk:acG}{OO:acF}{J M:acu}{gs:abZ}{w:World}{t:Trace}{j:Nat}{g:acx}
def j7(hj:j<A.n){h X}(e:s.w j=.run h X):dA P A s (A.b+j):=.inr (.inl ⟨j,hj,rfl,by simp_all⟩)
def tO(hj:j<A.n){h X}(e:s.w j=.run h X):¬gE P A s (A.b+j):=by
 have:=A.hb;rintro(⟨e,_⟩|⟨l,a,c,d⟩|⟨e,_⟩)
 . omega
 . simp_all
 . omega
def jN(hj:j<A.n){h X}(e:s.w j=.run h X):¬fq P A s (A.b+j):=by
 have:=A.hb;rintro(⟨e,_⟩|⟨l,a,c,d⟩)
 . omega
 simp_all
def nz(hj:j<A.n){h X}(e:s.w j=.run h X):cz P A Fin s (A.b+j)=iq P A j:=by
 have:=A.hb;unfold cz
 grind
variable(C:gy P A.nm)(X:gz P A.nm)(F:lY P A.nm)
include C X F in
def OM  z  (D:bF (bX P A Fin Z z) Z s f q kk OO J M gs w t) (hj:j<A.n){Y}(E:s.w j=.un .ue Y) (hg:gs[A.b+j]?=some g) (W:GN P A j (.un .ue Y) (kk (A.b+j)) (OO (A.b+j)) g) (d:A.dir=false)  sl :
 Goes P A Fin Z z s gs w t sl (A.b+j):=by
 have p:cZ P A Z s kk OO J M gs.size w t:=D.ex;have B:=bd (P:=P) (A:=A) (Fin:=Fin) (Z:=Z) z;have h1:(s.w j).jZ=true:=by rw[E];rfl
 have u:=iP h1;have hb:=A.hb;have a7:(A.b+j==0)=false:=by simp;omega
 obtain⟨kind,c,rest,hk,hM,hm,ay,a8⟩:=W;have G:=a8 (by simp)
 rw[show Ev P A Y.N=Y.N by simp[Ev,d]]at G
 obtain⟨g1,a9,hr,g2,H,K⟩:=Bd (Wd:=λ_=>True) (main:=false) (w:=w) C X hM
 obtain⟨k,ad⟩:=H.trans (lG F K hk);obtain⟨T,hU⟩:=TT.pre ad (Y.c _ _ _ G);obtain⟨x,v⟩:∃x:bq P,x=.run false ⟨Y.m,kk (A.b+j),OO (A.b+j),_,Y.c _ _ _ G⟩:=⟨_,rfl⟩;have V:x.work=true:=by rw[v];rfl
 have a:∀sh,((s.aU j x sh).w j)=.run false ⟨Y.m,kk (A.b+j),OO (A.b+j),_,Y.c _ _ _ G⟩:=λsh=>by rw[aV,v]
 have al:EvM A.fb A.fo #[⟨.mark .enable,false,true⟩]:=λe he=>by simp at he;subst he;exact .inl (.inr rfl)
 have L:=runT_crowd_go (P:=P) (sl:=sl) (i:=A.b+j) hg (by rw[a7];exact a9)
 have Q:bQ P A s (A.b+j):=iF p.I hj (bD u).2.2.2.2.1;obtain⟨y1,y2,y3⟩:=p.KZ al Q g.frame.fn g.frame.place;have o:∀op∈MemOp.ofEvents (A.b+j) g.frame.fn g.frame.place #[⟨.mark .enable,false,true⟩],op.g=A.b+j:=λop av=>by obtain⟨e,_,rfl⟩:=zR av;rfl
 have hJ:J (A.b+j):=(p.hJ _).2 (vJ hj (bD u).2.2.2.2.2.1);have hP:=D.cK.sync (i:=A.b+j) (.inr hJ) o rfl ⟨⟨.refl _,rfl⟩,λ_ _=>rfl⟩ (λb=>.inl rfl) y2 y1
 have hI:bN A.n (s.aU j x s.sh):=p.I.still hj u V (by rw[v];rfl) (by rw[v,E];rfl)
 have hL:MS.fZ A.n (s.aU j x s.sh) s:=Bm hj u V ⟨_,_,by rw[v];rfl,by rw[E];rfl,.single (oW.de Y.N Y.h0 Y.ht Y.c G)⟩
 have R:cZ P A Z (s.aU j x s.sh) kk OO J M gs.size w (t++MemOp.ofEvents (A.b+j) g.frame.fn g.frame.place #[⟨.mark .enable,false,true⟩]):=p.work hj u V (by rw[v,E];rfl) (λh=>by rw[d]at h;cases h) hI p.mu (λ_ _=>rfl) p.uR y3
 have r:Beside (bX P A Fin Z z) s (s.aU j x s.sh) f (bP f (A.b+j) ⟨Y.m,kk (A.b+j),OO (A.b+j),g1,T⟩) q q kk kk OO OO J J w (A.b+j) g g1:=my z hj u V (λi hi=>au _ _ hi) (λi hi=>rfl) (λ_ _ _=>rfl) (λ_ _ _=>rfl) (λ_ h=>h) (.inl λh=>h) (λ{i k O y} K=>B.kH (s:=s) (i:=i) (k:=k) (O:=O) (g:=y) K)
 have S:=iQ (P:=P) (A:=A) (s:=s) hj h1;refine⟨_,_,L,s.aU j x s.sh,bP f (A.b+j) ⟨Y.m,kk (A.b+j),OO (A.b+j),g1,T⟩,q,kk,OO,J,M,_,_,_,rfl,hL,?_⟩;refine bF.step B D hg o hP R (λl y hl K=>?_) r ⟨λ_=>?_,λh=>absurd h (tO hj (a _)),λh=>absurd h (jN hj (a _)),λh=>absurd (j7 hj (a _)) h⟩
 . have U:l≠A.b+j:=λe=>(D.held l hl).2.1 (by rw[e];exact S)
   exact B.se R ((r.held l U).2 hl) _ _ (r.Sx l _ _ _ U hl K)
 . rw[an]
   refine⟨by show A.b+j<A.b+A.n+1;omega,rfl,?_,rfl,rfl,hr,?_,.inr hJ,λl b X' h3 h4 h5=>?_⟩
   . show Y.m=cz P A Fin (s.aU j x s.sh) (A.b+j)
     rw[nz hj (a _)];exact hm
   . obtain⟨_,_,ax,_⟩:=D.walk _ S
     rw[Deaf_own,ax];show deafBehind (dL P A s (A.b+j)) _=0;rw[eL hj,E];rfl
   . obtain rfl:l=j:=by omega
     rw[a]at h5;cases h5;exact hU
end
section
variable{Z:Base}{kk:acG}{OO:acF}{J M:acu}{w:World}{t:Trace}
def iR(kk:acG)(lk i:Nat):acG:=bP kk i ((kk i).join (kk lk))
def iu(OO:acF)(lk i mb:Nat)(x:Own):acF:=bP (bP OO i ((OO i).set mb x)) lk aj.bot
def cr.TZ(h:cr Z kk OO J M w t){i mb x}(hi:i≠Z.lk)(L:OO Z.lk mb=some x)(ho:∀c,OO Z.lk c≠none->c=mb)(N:Z.la.block<w.heap.size)(hd:Deaf t i=0)(hold:∀m a,m<Z.N0->touchAt t m=some a->a.loc.isMemory=true -> ¬Z.Shun a.loc->Knows t i m)(V:∀m a,Z.N0<=m->t.act? m≠some (.mark (.release a)))  fn   pos :
 cr Z (iR kk Z.lk i) (iu OO Z.lk i mb x) J M w (t++MemOp.ofEvents i fn pos #[⟨.mark (.acquire Z.la),false,true⟩]):=by
 obtain⟨u,S⟩:∃u,u=MemOp.ofEvents i fn pos #[⟨.mark (.acquire Z.la),false,true⟩]:=⟨_,rfl⟩;have G:u=#[⟨i,fn,pos,.mark (.acquire Z.la)⟩]:=by rw[S,ofEvents_eq];simp[MemAct.ofEvent]
 rw[<-S];have A:kq u:=λop d=>by grind
 have W:∀op∈u,op.act.touch?=none:=λop d=>by rw[G]at d;simp at d;subst d;rfl
 have H:∀op∈u,op.g=i:=λop d=>by grind
 have I:∀m a,Z.N0<=m->(t++u).act? m≠some (.mark (.release a)):=λm a O e=>by
  rcases qk e with⟨o,_⟩|⟨op,d,o⟩
  . grind
  grind
 have X:OO i mb=none:=h.jq Z.lk i mb x (za hi) L;have eK:∀l,l≠i->iR kk Z.lk i l=kk l:=λl Y=>au _ _ Y
 have q:iR kk Z.lk i i=(kk i).join (kk Z.lk):=an _ _ _;have eO:∀l,l≠i->l≠Z.lk->iu OO Z.lk i mb x l=OO l:=λl o B=>by unfold iu;rw[au _ _ B,au _ _ o]
 have C:iu OO Z.lk i mb x i=(OO i).set mb x:=by unfold iu;rw[au _ _ hi,an]
 have D:iu OO Z.lk i mb x Z.lk=aj.bot:=by unfold iu;rw[an]
 refine h.tz (λa b=>a=b\/(a=Z.lk/\b=i)) rfl ⟨⟨.refl _,rfl⟩,λ_ _=>rfl⟩ (λb=>.inl rfl) (λop d=>by rw[G]at d;simp at d;subst d;simpa[MemAct.low]using N) (λa b e n y P O hz E=>?_) (λl b n v K=>?_) (λl b sv K=>?_) (λl b y f=>?_) (λa l b y r f=>?_)
  (λsaid=>noRace_append (h.clean said) H λn a Q op d b hb _=>by grind) (λop d a Q=>by grind) (λm op a d Q=>by grind)
  (λn a Q O h=>h.elim (λ⟨j,o,B⟩=>.inr (.inl ⟨j,o,B.app _⟩)) (λ⟨p,o,B⟩=>.inr (.inr (.inl ⟨p,o,B.app _⟩))))
 . rcases e with rfl|⟨rfl,rfl⟩
   . exact E.app u
   . refine(nR hi).2 ?_
     unfold HJ at E;rw[ZS rfl]at E
     rcases E with E|⟨p,h0,o,B,h3⟩
     . exact(hold n y E P O hz).app u
     . exact mU (y:=⟨b,fn,pos,.mark (.acquire Z.la)⟩) (m:=0) A (by grind) rfl hd o B (λk E=>I k _ (by omega)) h3
 . by_cases e:l=i
   . subst e;rw[q]at K
     exact(ao.np K).elim (λh=>⟨l,.inl rfl,h⟩) (λh=>⟨Z.lk,.inr ⟨rfl,rfl⟩,h⟩)
   grind
 . by_cases e:l=i
   . subst e;rw[q]at K
     exact(ao.Gp K).elim (λh=>⟨l,.inl rfl,h⟩) (λh=>⟨Z.lk,.inr ⟨rfl,rfl⟩,h⟩)
   grind
 . by_cases e:l=i
   . subst e;rw[C]at f
     by_cases z:b=mb
     . subst z
       simp only[aj.set,ZR,kn]at f;subst f;exact⟨Z.lk,.inr ⟨rfl,rfl⟩,L,λsv R=>by rw[q];exact(ao.wQ (h.sat l) (h.sat Z.lk)).2 b sv R⟩
     . simp only[aj.set,z,Rp]at f
       exact⟨l,.inl rfl,f,λsv R=>by rw[q];exact(ao.r8 _ _).2 b sv R⟩
   . by_cases T:l=Z.lk
     . subst T;rw[D]at f;cases f
     . rw[eO l e T]at f;grind
 . by_cases F:a=Z.lk
   . subst F;rw[D]at f;cases f
   by_cases s:l=Z.lk
   . subst s;rw[D];rfl
   by_cases U:a=i
   . subst U
     rw[C]at f;rw[eO l (za r) s]
     by_cases z:b=mb
     . subst z;exact h.jq Z.lk l b x (za s) L
     . simp only[aj.set,z,Rp]at f;exact h.jq a l b y r f
   . rw [eO a U F]at f
     by_cases el:l=i
     . subst el
       rw[C]
       by_cases z:b=mb
       . subst z
         have:=h.jq Z.lk a b x (za F) L
         simp_all
       . simp only[aj.set,z,Rp];exact h.jq a l b y r f
     . rw[eO l el s];exact h.jq a l b y r f
end
section
variable{Z:Base}{kk:acG}{OO:acF}{J M:acu}{w:World}{t:Trace}
def od(kk:acG)(lk i:Nat):acG:=bP kk lk (kk i)
def fJ(OO:acF)(lk i mb fb:Nat)(x:Own):acF:=bP (bP OO i (((OO i).del mb).del fb)) lk (aj.bot.set mb x)
def cr.T2(h:cr Z kk OO J M w t){i mb fb x}(hi:i≠Z.lk)(T:OO i mb=some x)(ho:∀c,OO Z.lk c=none)(N:Z.la.block<w.heap.size)(hd:Deaf t i=0)  fn   pos :
 cr Z (od kk Z.lk i) (fJ OO Z.lk i mb fb x) J M w (t++MemOp.ofEvents i fn pos #[⟨.mark (.releaseMerge Z.la),false,true⟩]):=by
 obtain⟨u,R⟩:∃u,u=MemOp.ofEvents i fn pos #[⟨.mark (.releaseMerge Z.la),false,true⟩]:=⟨_,rfl⟩;have F:u=#[⟨i,fn,pos,.mark (.releaseMerge Z.la)⟩]:=by rw[R,ofEvents_eq];simp[MemAct.ofEvent]
 rw[<-R];have s:kq u:=λop d=>by grind
 have U:∀op∈u,op.act.touch?=none:=λop d=>by rw[F]at d;simp at d;subst d;rfl
 have G:∀op∈u,op.g=i:=λop d=>by grind
 have z:u[0]?=some ⟨i,fn,pos,.mark (.releaseMerge Z.la)⟩:=by grind
 have eK:∀l,l≠Z.lk->od kk Z.lk i l=kk l:=λl V=>au _ _ V
 have W:od kk Z.lk i Z.lk=kk i:=an _ _ _;have eO:∀l,l≠i->l≠Z.lk->fJ OO Z.lk i mb fb x l=OO l:=λl H I=>by unfold fJ;rw[au _ _ I,au _ _ H]
 have k:fJ OO Z.lk i mb fb x i=((OO i).del mb).del fb:=by unfold fJ;rw[au _ _ hi,an]
 have A:fJ OO Z.lk i mb fb x Z.lk=aj.bot.set mb x:=by unfold fJ;rw[an]
 have K:∀b y,(((OO i).del mb).del fb) b=some y->b≠mb/\OO i b=some y:=λb y f=>by
  by_cases q:b=fb
  . simp[aj.del,q]at f
  by_cases r:b=mb
  . simp[aj.del,r]at f
  . exact⟨r,by simpa[aj.del,q,r]using f⟩
 have L:∀b y,(aj.bot.set mb x) b=some y->b=mb/\y=x:=λb y f=>by
  by_cases e:b=mb
  . subst e;simp only[aj.set,ZR,kn]at f;simp_all
  . simp only[aj.set,e,Rp]at f;cases f
 have B:∀b,OO i b=none->(((OO i).del mb).del fb) b=none:=λb X=>by
  by_cases q:b=fb
  . simp[aj.del,q]
  by_cases r:b=mb
  . grind
  . simpa[aj.del,q,r]using X
 refine h.tz (λa b=>a=b\/(a=i/\b=Z.lk)) rfl ⟨⟨.refl _,rfl⟩,λ_ _=>rfl⟩ (λb=>.inl rfl) (λop d=>by rw[F]at d;simp at d;subst d;simpa[MemAct.low]using N) (λa b e n y Y hm hz S=>?_) (λl b n v hv=>?_) (λl b sv hv=>?_) (λl b y f=>?_) (λa l b y o f=>?_)
  (λsaid=>noRace_append (h.clean said) G λn a O op d b hb _=>by grind) (λop d a O=>by grind) (λm op a d O=>by grind)
  (λn a O hm h=>h.elim (λ⟨j,H,I⟩=>.inr (.inl ⟨j,H,I.app _⟩)) (λ⟨p,H,I⟩=>.inr (.inr (.inl ⟨p,H,I.app _⟩))))
 . rcases e with rfl|⟨rfl,rfl⟩
   . exact S.app u
   . have P:Knows t a n:=(nR hi).1 S
     unfold HJ;rw[ZS rfl];exact .inr ⟨t.size+0,by have:=h.n0;omega,by rw[act?_of (dq z)],heard_new s z hd,lz P z rfl⟩
 . grind
 . grind
 . by_cases r:l=Z.lk
   . subst r;rw[A]at f
     grind
   by_cases e:l=i
   . subst e;rw[k]at f
     grind
   . rw[eO l e r]at f;grind
 . by_cases C:a=Z.lk
   . subst C;rw[A]at f
     obtain⟨rfl,rfl⟩:=L b y f
     by_cases el:l=i
     . subst el;rw[k]
       by_cases q:b=fb
       . simp[aj.del,q]
       . simp[aj.del,q]
     . rw[eO l el (za o)];exact h.jq i l b y (za el) T
   by_cases D:l=Z.lk
   . subst D;rw[A]
     have Q:b≠mb:=by
      by_cases E:a=i
      . subst E;rw[k]at f;grind
      . rw[eO a E C]at f
        intro e;subst e;have:=h.jq a i b y E f
        grind
     simp only[aj.set,Q,Rp];rfl
   by_cases E:a=i
   . subst E
     rw[k]at f;rw[eO l (za o) D];exact h.jq a l b y o (K b y f).2
   . rw[eO a E C]at f
     by_cases el:l=i
     . subst el;rw[k];exact B b (h.jq a l b y o f)
     . rw[eO l el D];exact h.jq a l b y o f
end
section
variable{P:acH}{A:bJ}{Fin:abV}{Z:Base}{s:MS P}{f:Nat->Node P}{q:acA}{kk:acG}{OO:acF}{J M:acu}{gs:abZ}{gsz:Nat}{w:World}{t u:Trace}{j:Nat}{g:acx}{x:bq P}{xo:Own}
def H3{x:bq P}(h:x.owns=true):x.pc=.held:=by
 cases x with
 |run b X=>cases b<;>simp_all [bq.owns,bq.pc]
 |un p Y=>cases p<;>simp_all [bq.owns,bq.pc,Bb.abs]
 |_=>simp_all [bq.owns]
def CX(I:bN A.n s)(hj:j<A.n)(a:(s.w j).pc=.held){l}(b:l<A.n)(c:(s.w l).owns=true):l=j:=by
 by_cases e:l=j
 . exact e
 . have g:=I.mu.j1
   have d:=Mu.gu Mu.bZ (λi=>(s.w i).pc) j .out hj
   have f:Mu.bZ (Mu.set (λi=>(s.w i).pc) j .out l)<=Mu.fA A.n (λi=>Mu.bZ (Mu.set (λi=>(s.w i).pc) j .out i)):=Mu.iO (λi=>Mu.bZ (Mu.set (λi=>(s.w i).pc) j .out i)) b
   rw[Mu.ah _ _ e,H3 c]at f;have h:Mu.bZ .held=1:=rfl;have k:Mu.bZ .out=0:=rfl;rw[a]at d;have:s.sh.w.L.toNat<=1:=by cases s.sh.w.L<;>simp
   omega
def kI(A:bJ)(Z:Base)(OO:acF)(i:Nat)(x:Own)(a:Nat->aci):acF:=bP (iu OO Z.lk i A.mb x) i ((iu OO Z.lk i A.mb x i).set A.fb (.part a))
def bJ.Tk.N3{f}(h:A.Tk j f){l}(a:f l≠none):A.dir=true/\l=A.cell j:=by
 unfold bJ.Tk at h;split at h
 . grind
 . subst h;exact absurd rfl a
def cZ.take{p}(H:A.Tk j p)(hZ:A.b+A.n+1<=Z.lk)(h:cZ P A Z s kk OO J M gsz w t)(hj:j<A.n)(f:(s.w j).work=true)(K:x.work=true)(L:∀l,l<A.n->(s.w l).owns=false)(F:x.owns=true)(V:bN A.n (s.aU j x s.sh))(W:∀op∈u,op.act.touch?=none/\∀a,op.act≠.mark (.release a)):
 cZ P A Z (s.aU j x s.sh) (iR kk Z.lk (A.b+j)) (kI A Z OO (A.b+j) xo p) J M gsz w (t++u):=by
 have S:A.b+j≠Z.lk:=by omega
 have r:x.busy=(s.w j).busy:=by rw[(bD f).2.2.2.2.2.1,(bD K).2.2.2.2.2.1]
 have N:∀l,l≠A.b+j->iR kk Z.lk (A.b+j) l=kk l:=λl d=>au _ _ d
 have O:iR kk Z.lk (A.b+j) (A.b+j)=(kk (A.b+j)).join (kk Z.lk):=an _ _ _;have eO:∀l,l≠A.b+j->l≠Z.lk->kI A Z OO (A.b+j) xo p l=OO l:=λl f K=>by unfold kI iu;rw[au _ _ f,au _ _ K,au _ _ f]
 have z:kI A Z OO (A.b+j) xo p (A.b+j)=((OO (A.b+j)).set A.mb xo).set A.fb (.part p):=by unfold kI iu;rw[an,au _ _ S,an]
 have B:kI A Z OO (A.b+j) xo p Z.lk=aj.bot:=by unfold kI iu;rw[au _ _ (za S),an]
 have C:bQ P A s (A.b+j):=iF h.I hj (bD f).2.2.2.2.1
 have T:∀i,OO i A.fb=none:=λi=>by
  cases e:OO i A.fb with
  |none=>rfl
  | some y=>
    obtain⟨l,_,d,_,ho,_⟩:=h.tok i y e
    grind
 have g:∀{c n:Nat},(∀i,(kk i).cell c n=none)->(iR kk Z.lk (A.b+j) (A.b+j)).cell c n=none:=λ{c n} X=>by
  rw[O];cases e:((kk (A.b+j)).join (kk Z.lk)).cell c n with
  |none=>rfl
  |some v=>rcases ao.np e with h|h<;>rw[X]at h<;>cases h
 refine⟨V,h.size,h.dd,h.off,λhd l d=>?_,h.zK,h.mu,h.gr,h.uR,h.yS,λi=>?_,λi=>?_,λi y D=>?_,λl d k=>?_,λk=>?_,λc U=>?_,
  λi=>by rw[h.hJ i];exact(n8 hj r i).symm,h.uT u,h.mr u,h.jY u (λop o a Q=>by simp_all),h.nZ u (λop o a Q=>by simp_all),h.pz u,h.ju u (λop o=>(W op o).2),λi d hb=>?_,h.sb,h.jM,h.fa,h.la,by simp;exact ZV h.n0 (aaI _ _)⟩
 . by_cases e:l=j
   . subst e
     rw[aV];exact⟨λE=>by(rw[zL F]at E;cases E),λR=>by simp[bq.rel,F]at R⟩
   . rw[cq e]
     refine⟨λE=>⟨λi=>?_,λm a Y Q q q'=>(dR Q).elim (λf=>((h.yF hd l d).1 E).2 m a Y f.1 q q') (λ⟨op,o,f⟩=>by simp_all)⟩,λR=>?_⟩
     . have f:=((h.yF hd l d).1 E).1
       grind
     . rw[N _ (by omega)];exact(h.yF hd l d).2 R
 . by_cases e:i=A.b+j
   . subst e;rw[z]
     have:=h.gF (A.b+j);simp only[aj.set,A.d1,A.d3,za A.d4,A.d6,Rp];exact this
   by_cases G:i=Z.lk
   . subst G;rw[B];exact⟨λ_=>rfl,rfl⟩
   . rw[eO i e G];exact h.gF i
 . by_cases e:i=A.b+j
   . subst e
     exact⟨g λi=>(h.er i).1,g λi=>(h.er i).2.1,g λi=>(h.er i).2.2.1,g λi=>(h.er i).2.2.2⟩
   . rw[N i e];exact h.er i
 . by_cases e:i=A.b+j
   . subst e;rw[z]at D
     simp only[aj.set,ZR,kn]at D;exact⟨j,p,hj,rfl,by rw[aV];exact F,D.symm,λ_=>H.N3⟩
   by_cases G:i=Z.lk
   . subst G;rw[B]at D;cases D
   simp_all
 . by_cases e:l=j
   . subst e;rw[z];simp[aj.set]
   . rw[cq e,L l d]at k;cases k
 . have:=k j hj
   rw[aV,F]at this;cases this
 . rw[B]at U;exact absurd rfl U
 . have e:i≠A.b+j:=λe=>hb (e ▸ C)
   rw[N i e,eO i e d];exact h.CN i d hb
end
section
variable{P:acH}{A:bJ}{Fin:abV}{Z:Base}{s:MS P}{f:Nat->Node P}{q:acA}{kk:acG}{OO:acF}{J M:acu}{gs:abZ}{w:World}{t:Trace}{j:Nat}{g:acx}
variable(C:gy P A.nm)(X:gz P A.nm)(F:lY P A.nm)
include C X F in
def ON  hZ  (H:bF (bX P A Fin Z hZ) Z s f q kk OO J M gs w t) (hj:j<A.n){Y}(S:s.w j=.lk .la Y) (hg:gs[A.b+j]?=some g) (b6:GN P A j (.lk .la Y) (kk (A.b+j)) (OO (A.b+j)) g)  sl :
 Goes P A Fin Z hZ s gs w t sl (A.b+j):=by
 have d:cZ P A Z s kk OO J M gs.size w t:=H.ex;have B:=bd (P:=P) (A:=A) (Fin:=Fin) (Z:=Z) hZ;have r:(s.w j).jZ=true:=by rw[S];rfl
 have w1:=iP r;have b7:(s.w j).pc=.held:=by rw[S];rfl
 have hb:=A.hb;have o:A.b+j≠Z.lk:=by omega
 have b8:(A.b+j==0)=false:=by simp;omega
 have U:∀l,l<A.n->(s.w l).owns=false:=λl E=>by
  cases e:(s.w l).owns with
  |false=>rfl
  |true=>obtain rfl:=CX d.I hj b7 E e;rw[S]at e;cases e
 have L:∀i,OO i A.fb=none:=λi=>by
  cases e:OO i A.fb with
  |none=>rfl
  |some y=>obtain⟨l,_,E,_,ho,_⟩:=d.tok i y e;rw[U l E]at ho;cases ho
 obtain⟨xo,a,a9,b9,bm⟩:=d.N1 U;obtain⟨kind,c,rest,e,hk,hM,hm,hO,al,bw,hN⟩:=b6;obtain⟨cc,ee,av⟩:=d.uR
 have ax:e=(ee,cc.size):=by have hs:=(H.cK.sat (A.b+j)).sh _ _ al;simp only[World.shape?,av]at hs;exact(aag hs).symm
 obtain⟨p,V,ay⟩:∃p,A.Tk j p/\∀n v,p n=some v->A.dir=true/\n=A.cell j/\cc[n]?=some v:=by
  unfold bJ.Tk
  by_cases hd:A.dir=true
  . have:=bw hd
    rw[ax]at this;refine⟨λi=>if i=A.cell j then some cc[A.cell j]else none,by rw[ZS hd];exact⟨_,rfl⟩,λn v G=>?_⟩
    simp only at G;split at G
    . next e=>subst e;exact⟨hd,rfl,by rw[<-G];exact aac this⟩
    . cases G
  . exact⟨KS,by rw[ZM hd],λn v G=>by cases G⟩
 have aC:(kk Z.lk).Le ((kk (A.b+j)).join (kk Z.lk)):=ao.wQ (H.cK.sat (A.b+j)) (H.cK.sat Z.lk);have u:=hN ((kk (A.b+j)).join (kk Z.lk)) xo a p (ao.r8 _ _) (b9.mono aC) bm (H.cK.jq Z.lk (A.b+j) _ _ (za o) a9) V;obtain⟨g1,aE,hr,g2,aL,hA⟩:=GA (Wd:=λ_=>True) (main:=false) (w:=w) C X hM
 obtain⟨k,bA⟩:=aL.trans (su F hA hk);rw[<-d.la]at aE;have W:iR kk Z.lk (A.b+j) (A.b+j)=(kk (A.b+j)).join (kk Z.lk):=an _ _ _;have bB:kI A Z OO (A.b+j) xo p (A.b+j)=((OO (A.b+j)).set A.mb xo).set A.fb (.part p):=by unfold kI iu;rw[an,au _ _ o,an]
 rw[<-W,<-bB]at u;obtain⟨T,hU⟩:=TT.pre bA (Y.c _ _ _ u);obtain⟨x,hx⟩:∃x:bq P,x=.run true ⟨Y.m,iR kk Z.lk (A.b+j) (A.b+j),kI A Z OO (A.b+j) xo p (A.b+j),_,Y.c _ _ _ u⟩:=⟨_,rfl⟩;have w2:x.work=true:=by rw[hx];rfl
 have z:∀sh,((s.aU j x sh).w j)=.run true ⟨Y.m,iR kk Z.lk (A.b+j) (A.b+j),kI A Z OO (A.b+j) xo p (A.b+j),_,Y.c _ _ _ u⟩:=λsh=>by rw[aV,hx]
 have aO:=runT_crowd_go (P:=P) (sl:=sl) (i:=A.b+j) hg (by rw[b8];exact aE)
 have b0:=iQ (P:=P) (A:=A) (s:=s) hj r
 have K:Deaf t (A.b+j)=0:=by obtain⟨_,_,K,_⟩:=H.walk _ b0;rw[K];show dL P A s (A.b+j)=0;rw[eL hj,S];rfl
 have Q:bQ P A s (A.b+j):=iF d.I hj (bD w1).2.2.2.2.1;have hJ:J (A.b+j):=(d.hJ _).2 (vJ hj (bD w1).2.2.2.2.2.1);have b1:∀op∈MemOp.ofEvents (A.b+j) g.frame.fn g.frame.place #[⟨.mark (.acquire Z.la),false,true⟩],op.g=A.b+j:=λop D=>by obtain⟨e,_,rfl⟩:=zR D;rfl
 have b2:∀op∈MemOp.ofEvents (A.b+j) g.frame.fn g.frame.place #[⟨.mark (.acquire Z.la),false,true⟩],op.act.touch?=none/\∀a,op.act≠.mark (.release a):=λop D=>by obtain⟨e,he,rfl⟩:=zR D;simp at he;subst he;exact⟨rfl,λa h=>by simp[MemAct.ofEvent]at h⟩
 have b3:A.fb<w.heap.size:=by obtain⟨c,e,r⟩:=d.uR;exact(zs.1 r).1
 have c5:=H.cK.TZ o a9 (λc hc=>(d.N2 c hc).1) (by rw[d.la];exact b3) K (λm a hm ha b4 hz=>d.old _ Q m a hm ha b4 hz) d.norel g.frame.fn g.frame.place
 have a7:∀l,iu OO Z.lk (A.b+j) A.mb xo l A.fb=none:=λl=>by
  unfold iu
  by_cases e1:l=Z.lk
  . subst e1;rw[an];rfl
  by_cases e2:l=A.b+j
  . subst e2;rw[au _ _ e1,an];simp only[aj.set,A.d5,Rp];exact L _
  . rw[au _ _ e1,au _ _ e2];exact L _
 have b5:A.dir=true->(∀i,(kk i).cell A.fb (A.cell j)=none)/\∀m a R,touchAt t m=some a->a.loc=.cell R->R.block=A.fb/\R.off=A.cell j->m<Z.N0:=λhd=>(d.yF hd j hj).1 (by rw[S];rfl)
 have a8:∀n,p n≠none->A.dir=true/\n=A.cell j:=λn hn=>V.N3 hn
 have hP:=c5.Tl (f:=p) o a7 (λn v G i=>by
  obtain⟨hd,rfl,_⟩:=ay n v G;have r:=(b5 hd).1
  by_cases ei:i=A.b+j
  . subst ei
    rw[W];cases q:((kk (A.b+j)).join (kk Z.lk)).cell A.fb (A.cell j)with
    |none=>rfl
    |some v=>rcases ao.np q with h|h<;>rw[r]at h<;>cases h
  . unfold iR;rw[au _ _ ei];exact r i) (λR r h2=>d.jM R ⟨r,.inr (.inr ⟨(a8 _ h2).1,j,hj,(a8 _ h2).2⟩)⟩) (by
  refine⟨cc,ee,av,?_,λn v G=>(ay n v G).2.2⟩
  rw[W];refine(ao.r8 _ _).2 _ _ ?_;rw[al,ax]) (λm a R ha E r h2=>by
  obtain⟨hd,h3⟩:=a8 _ h2
  rcases dR ha with⟨h4,_⟩|⟨op,D,h4⟩
  . exact(d.old _ Q m a ((b5 hd).2 m a R h4 E ⟨r,h3⟩) h4 (by rw[E];rfl) (by rw[E];exact d.jM R ⟨r,.inr (.inr ⟨hd,j,hj,h3⟩)⟩)).app _
  . rw[(b2 op D).1]at h4;cases h4) d.fa.2.1
 have hI:bN A.n (s.aU j x s.sh):=d.I.still hj w1 w2 (by rw[hx];rfl) (by rw[hx,S];rfl)
 have hL:MS.fZ A.n (s.aU j x s.sh) s:=Bm hj w1 w2 ⟨_,_,by rw[hx];rfl,by rw[S];rfl,.single (oW.de Y.N Y.h0 Y.ht Y.c u)⟩
 have c6:=d.take (xo:=xo) V hZ hj w1 w2 U (by rw[hx];rfl) hI b2
 have c7:Beside (bX P A Fin Z hZ) s (s.aU j x s.sh) f (bP f (A.b+j) ⟨Y.m,iR kk Z.lk (A.b+j) (A.b+j),kI A Z OO (A.b+j) xo p (A.b+j),g1,T⟩) q q kk (iR kk Z.lk (A.b+j)) OO (kI A Z OO (A.b+j) xo p) J J w (A.b+j) g g1:=my hZ hj w1 w2 (λi hi=>au _ _ hi) (λi hi=>rfl) (λi hi _=>au _ _ hi) (λi hi ht=>by unfold kI iu;rw[au _ _ hi,au _ _ (show i≠Z.lk by omega),au _ _ hi]) (λ_ h=>h) (.inl λh=>h) (λ{i k O y} hA=>B.kH (s:=s) (i:=i) (k:=k) (O:=O) (g:=y) hA)
 refine⟨_,_,aO,s.aU j x s.sh,bP f (A.b+j) ⟨Y.m,iR kk Z.lk (A.b+j) (A.b+j),kI A Z OO (A.b+j) xo p (A.b+j),g1,T⟩,q,iR kk Z.lk (A.b+j),kI A Z OO (A.b+j) xo p,J,M,_,_,_,rfl,hL,?_⟩;refine bF.step B H hg b1 hP c6 (λl y E hA=>?_) c7 ⟨λ_=>?_,λh=>absurd h (tO hj (z _)),λh=>absurd h (jN hj (z _)),λh=>absurd (j7 hj (z _)) h⟩
 . have c9:l≠A.b+j:=λe=>(H.held l E).2.1 (by rw[e];exact b0)
   exact B.se d E _ _ hA
 . rw[an]
   refine⟨by show A.b+j<A.b+A.n+1;omega,rfl,?_,rfl,rfl,hr,?_,.inr hJ,λl b X' h3 h4 h5=>?_⟩
   . show Y.m=cz P A Fin (s.aU j x s.sh) (A.b+j)
     rw[nz hj (z _)];exact hm
   . rw[Deaf_own,K];rfl
   . obtain rfl:l=j:=by omega
     rw[z]at h5;cases h5;exact hU
end

import Derived.Conc.CrowdComm
import Derived.Test.YtggpckcdfilkoaaGreatDoorC9
set_option linter.all false
namespace Go.bu
section
open Go.Conc
open Go.ConcN (sumTo upd sumTo_upd upd_ne upd_same)
structure dq where
 b:Nat
 n:Nat
 cl:Nat
 cF:Nat
 fb:Nat
 fo:Nat
 gb:Nat
 mb:Nat
 GI:uK->Prop
 res:Nat->AV
 val:Nat->Value
 nm:Jl
 ng:W6
 hb:0<b/\(cl=0\/cl=b+n)
 hn:n<=900
 d1:cF≠fb
 d2:cF≠gb
 d3:cF≠mb
 d4:fb≠gb
 d5:fb≠mb
 d6:gb≠mb
def dq.dir(A:dq):Bool:=A.cl==0
def dq.cell(A:dq)(j:Nat):Nat:=A.fo+2+j
def Te{A:dq}(h:A.dir=true):A.cl=0:=by simpa[dq.dir]using h
def BY{A:dq}(h:A.dir=false):A.cl=A.b+A.n:=by have:=A.hb;simp[dq.dir]at h;omega
def lR:ZD:=λ_ _ _=>False
def Tf:Nat->FP:=λ_=>none
def dq.Tk(A:dq)(j:Nat)(f:Nat->FP):Prop:=if A.dir then ∃v,f=λi=>if i=A.cell j then some v else none else f=Tf
def dB(fo:Nat):Nat->FP:=λi=>if i=fo then some (.int .i32 0)else if i=fo+1 then some (.int .u32 0)else none
section
variable(P:Rg)(A:dq)(Fin:ZD)
def YZ(j:Nat)(k:az)(O:au)(g:YB)(N:ZD):Prop:=
 ∃ ν c μ e,ν≠.early/\g=G (Frame.enter P A.nm.lock #[.pointer (some ⟨A.fb,A.fo,none⟩)] ν) (c::μ)/\O A.fb=none/\k.sh A.fb=some e/\(A.dir=true->A.cell j<e.2)/\
   ∀b x a f,k.Le b->qf b x a->A.GI a->O A.mb=none->A.Tk j f->N b ((O.set A.mb x).set A.fb (.part f)) (qz ν c μ (.tuple #[]))
def N7(j:Nat)(k:az)(O:au)(g:YB)(N:ZD):Prop:=
 ∃ ν c μ f x a,ν≠.early/\g=G (Frame.enter P A.nm.unlock #[.pointer (some ⟨A.fb,A.fo,none⟩)] ν) (c::μ)/\O A.fb=some (.part f)/\O A.mb=some x/\qf k x a/\A.GI a/\(A.dir=true->k.cell A.fb (A.cell j)=some (A.val j))/\
   N k ((O.del A.mb).del A.fb) (qz ν c μ (.tuple #[]))
def rZ:Mo:=⟨false,false,λk O g N=>N=lR/\∃a fn τ todo,P.funcs[a]?=some fn/\fn.results=#[]/\g=G (Frame.enter P A.ng.done #[.pointer (some ⟨A.gb,0,none⟩)] .deferred) [qo P a τ todo,fy P]⟩
def Lt(N:ZD):ZD:=if A.dir then T P (rZ P A) lR else N
def mT(j:Nat):Mo:=⟨false,false,λk O g N=>YZ P A j k O g N\/N7 P A j k O g (Lt P A N)\/(A.dir=false/\N=lR/\O A.fb=none/\∃a z v,(∀w,Sat k O w->stepG P false g w=.comm a #[scase A.cF v z] true .send w #[])/\V k v (A.res j)/\T P (rZ P A) lR k O (Go.Conc.served a undef))⟩
def zJ:Mo:=⟨false,false,λk O g N=>N=lR/\∃a n,mayWake P g=true/\(∀w s r b,Sat k O w->w.heap[A.cF]?=some (.chan 0 #[] false s r b)->stepG P false g w=.go a {w with heap:=w.heap.setIfInBounds A.cF (.chan 0 #[] true s r b)} #[⟨.obj A.cF,false,true⟩,⟨.obj A.cF,true,true⟩])/\QuitsD P n 0 a⟩
def DN:Mo:=⟨false,false,λk O g N=>N=lR/\∃c μ,g=G (Frame.enter P A.ng.wait #[.pointer (some ⟨A.gb,0,none⟩)] .normal) (c::μ)/\∀a,k.Le a->T P (zJ P A) lR a O (qz .normal c μ (.tuple #[]))⟩
def R8(k:az)(O:au)(c:Frame)(μ:E8):Prop:=(∃e,k.sh A.fb=some e)/\∀b x a,k.Le b->(∀j,j<A.n->b.cell A.fb (A.cell j)=some (A.val j))->qf b x a->A.GI a->Fin b ((O.set A.mb x).set A.fb (.part (dB A.fo))) (qz .normal c μ (.tuple #[]))
def iw(k:az)(O:au)(g a:YB)(z:Value):Prop:=∀w,Sat k O w->stepG P true g w=.comm a #[rcase A.cF z] true (.recv true) w #[]
def yA:Nat->ZB->Mo
 | 0,R=>⟨true,false,λk O g N=>N=lR/\∃b z,iw P A k O g b z/\iw P A k O b b z/\b.status=.running/\(∃e,k.sh A.fb=some e)/\
    ∀c x a,k.Le c->qf c x a->A.GI a->Fin c ((O.set A.mb x).set A.fb (.part (dB A.fo))) (Go.Conc.served b (.tuple #[z,.bool false]))⟩
 | m + 1,R=>⟨true,false,λk O g N=>N=lR/\∃b z,iw P A k O g b z/\iw P A k O b b z/\b.status=.running/\
     ∀j∈R,∀c v,k.Le c->V c v (A.res j)->T P (yA m (R.erase j)) lR c O (Go.Conc.served b (.tuple #[v,.bool true]))⟩
def vN:Nat->Mo
 |0=>if A.dir then⟨true,false,λk O g N=>N=lR/\∃c μ,g=G (Frame.enter P A.ng.wait #[.pointer (some ⟨A.gb,0,none⟩)] .normal) (c::μ)/\R8 A Fin k O c μ⟩else⟨true,false,λk O g N=>N=lR/\∃a child,(∀w,Sat k O w->stepG P true g w=.spawn a child w #[])/\T P (DN P A) lR k au.bot child/\T P (yA P A Fin A.n (List.range A.n)) lR k O a⟩
 | m + 1=>⟨true,false,λk O g N=>N=lR/\∃c μ,g=G (Frame.enter P A.ng.add #[.pointer (some ⟨A.gb,0,none⟩),.int .i64 1] .normal) (c::μ)/\
     T P ⟨true,false,λk O g N=>N=lR/\∃a child,(∀w,Sat k O w->stepG P true g w=.spawn a child w #[])/\T P (mT P A (A.n-(m+1))) lR k au.bot child/\T P (vN m) lR k O a⟩ lR k O (qz .normal c μ (.tuple #[]))⟩
def N8(m:Nat):Mo:=⟨true,false,λk O g N=>N=lR/\∃a child,(∀w,Sat k O w->stepG P true g w=.spawn a child w #[])/\T P (mT P A (A.n-(m+1))) lR k au.bot child/\T P (vN P A Fin m) lR k O a⟩
structure Py where
 m:Mo
 k:az
 O:au
 g:YB
 N:ZD
 h0:g.status=.running
 ht:m.fY k O g N
 c:∀k' O' g',N k' O' g'->TT P m k' O' g'
variable {P} in
def Py.node(y:Py P):Node P:=⟨y.m,y.k,y.O,y.g,.fY y.N y.h0 y.ht y.c⟩
inductive cL where
 |idle
 |run (h:Bool) (X:Node P)
 |lk (p:Hy) (Y:Py P)
 |un (p:Hy) (Y:Py P)
 |wait
 |Fa
 |dn (p:NX)
 |gone
inductive pw where
 |none|jq|wt (p:NX)|oI|gone
inductive vW where
 |add (j:Nat)|cY (j:Nat) (p:NX)|spawn (j:Nat)|recv|parked|off
structure MS where
 d:Bool
 ms:vW
 sp:Nat
 w:Nat->cL P
 c:pw
 sh:Mu.Sh
 gc:Nat
 gv:Nat
 gm:Nat
def Hy.abs:Hy->Mu.Pc
 |.ld=>.out|.mE=>.mE|.rd l=>.rd l|.sq o l=>.sq o l|.sw o l=>.sw o l|.qe o l=>.qe o l|.t1 sv=>.lx sv|.lx sv=>.lx sv|.tq=>.tq|.up sv=>.up sv|.add o sv=>.add o sv
 |.le=>.held|.la=>.held|.back=>.held|.NL=>.held|.ur=>.held|.ud=>.held|.held=>.held|.nZ o=>.nZ o|.Cl=>.Cl|.give=>.give|.ue=>.out|.Jp=>.out
variable{P}
def cL.pc:cL P->Mu.Pc
 |.run true _=>.held
 |.lk p _=>p.abs
 |.un p _=>p.abs
 |_=>.out
def cL.owns:cL P->Bool
 |.run h _=>h
 |.un .NL _=>true
 |.un .ur _=>true
 |_=>false
def JV:Hy->Bool
 |.ld=>true|.mE=>true|.rd _=>true|.sq ..=>true|.sw ..=>true|.qe ..=>true|.t1 _=>true|.lx _=>true|.tq=>true|.up _=>true|.add ..=>true|.le=>true|.la=>true
 |_=>false
def Fw:Hy->Bool
 |.NL=>true|.ur=>true|.ud=>true|.held=>true|.nZ _=>true|.Cl=>true|.give=>true|.ue=>true
 |_=>false
def cL.deaf:cL P->Nat
 |.lk .ld _=>0|.lk .la _=>0|.lk _ _=>1
 |.un .NL _=>0|.un .ur _=>0|.un .ud _=>0|.un _ _=>1
 |.dn .d1=>0|.dn .d2=>0|.dn _=>1
 |_=>0
def zK:NX->Nat
 |.a0=>0|.a2=>1|.a4=>1|.ae=>1
 |.w0=>0|.w1=>1|.we=>1|.wa=>0|.w2 _=>1|.w3=>1|.w4=>1|.w5=>1
 |_=>0
def cL.eZ:cL P->Nat
 |.idle=>0|.run ..=>20|.lk ..=>20|.un ..=>20|.wait=>19|.Fa=>18
 |.dn .d1=>12|.dn .d2=>11|.dn .d4=>10|.dn .d5=>4|.dn .d6=>3|.dn _=>2|.gone=>0
def pw.eZ(gc:Nat):pw->Nat
 |.none=>0|.jq=>14
 |.wt .w0=>13|.wt .w1=>10|.wt (.w2 k)=>if gc=k then 9 else 11|.wt .w3=>8|.wt .w4=>7|.wt .w5=>6|.wt .we=>5|.wt _=>4
 |.oI=>3|.gone=>0
def vW.eZ:vW->Nat
 |.add j=>40*j+200|.cY j .a0=>40*j+199|.cY j .a2=>40*j+198|.cY j .a4=>40*j+197|.cY j _=>40*j+196
 |.spawn j=>40*j+225|.recv=>100|.parked=>99|.off=>0
def MS.eZ(n:Nat)(s:MS P):Nat:=s.ms.eZ+sumTo n (λj=>(s.w j).eZ)+s.c.eZ s.gc
def HY(n:Nat):Nat:=4*(6*(18*n+1)+16)+20
def cL.ex(n:Nat):cL P->Nat
 |.run ..=>2*HY n|.lk .ld _=>HY n|.lk (.t1 _) _=>1|.lk .le _=>2|.lk .la _=>1
 |.un .NL _=>5|.un .ur _=>4|.un .ud _=>3|.un .ue _=>1|_=>0
def MS.inner(n:Nat)(s:MS P):Nat:=4*Mu.meas n (λj=>(s.w j).pc) s.sh+sumTo n (λj=>(s.w j).ex n)
def cL.nd:cL P->Option (Node P)
 |.run _ X=>some X|.lk _ Y=>some Y.node|.un _ Y=>some Y.node|_=>none
end
def Tg{P}(a b:Option (Node P)):Prop:=∃x y,a=some x/\b=some y/\Relation.TransGen vT x y
def Ti{P}:∀a:Option (Node P),Acc Tg a:=by
 have key:∀x:Node P,Acc (Relation.TransGen vT) x->Acc Tg (some x):=by
  intro x b;induction b with
  |intro x _ c=>exact⟨_,λy ⟨u,v,d,f,h⟩=>am⟩
 intro a;cases a with
 |none=>exact⟨_,λy ⟨u,v,_,e,_⟩=>by cases e⟩
 |some x=>exact key x ((WellFounded.intro Jj).transGen.apply x)
def Tj{α:Type}(R:α->α->Prop)(n:Nat)(f' f:Nat->α):Prop:=∃i,i<n/\(∀j,j≠i->f' j=f j)/\R (f' i) (f i)
def JW{α R}(d:∀a,Acc R a):∀  n  (f:Nat->α),Acc (Tj R n) f
 |0,f=>⟨_,λy ⟨i,e,_⟩=>ac⟩
 | n + 1,f=>by
   have key:∀x:α,Acc R x->∀f:Nat->α,f n=x->Acc (Tj R (n+1)) f:=by
    intro x g;induction g with
    | intro x _ h=>
      intro f m;have j:=JW d n f;induction j with
      | intro f _ b=>
        refine⟨_,λf' ⟨i,e,c,k⟩=>?_⟩;by_cases l:i=n
        . grind
        . exact b f' ⟨i,ac,c,k⟩ am
   grind
def MS.kS{P}(n:Nat)(s' s:MS P):Prop:=s'.eZ n<s.eZ n\/(s'.eZ n=s.eZ n/\(Tj Tg n (λj=>(s'.w j).nd) (λj=>(s.w j).nd)\/((λj=>(s'.w j).nd)=(λj=>(s.w j).nd)/\s'.inner n<s.inner n)))
def Xr{P}  n :WellFounded (MS.kS (P:=P) n):=by
 have c:WellFounded (Tj (Tg (P:=P)) n):=⟨JW Ti n⟩;have d:=(Prod.lex ⟨Nat.lt,Nat.lt_wfRel.wf⟩ (Prod.lex ⟨Tj _ n,c⟩ ⟨Nat.lt,Nat.lt_wfRel.wf⟩)).wf;refine Subrelation.wf (r:=InvImage _ (λs:MS P=>(s.eZ n,(λj=>(s.w j).nd),s.inner n))) ?_ (InvImage.wf _ d);intro s' s h;rcases h with h|⟨h,b|⟨b,a⟩⟩
 . exact Prod.Lex.left _ _ h
 . show Prod.Lex _ _ (_,_) (_,_)
   grind
 . show Prod.Lex _ _ (_,_) (_,_)
   rw[h,b];exact Prod.Lex.right _ (Prod.Lex.right _ a)
section
variable{P:Rg}
def cL.mU:cL P->Bool
 |.Fa=>true|.dn _=>true|.gone=>true|_=>false
def cL.mH:cL P->Bool
 |.idle=>false|.run h _=>h|.lk ..=>false|_=>true
def cL.rel(x:cL P):Bool:=x.mH && !x.owns
def cL.cnt:cL P->Nat
 |.run ..=>1|.lk ..=>1|.un ..=>1|.wait=>1|.Fa=>1|.dn .d1=>1|.dn .d2=>1|.dn .d4=>1|_=>0
def cL.busy:cL P->Bool
 |.run ..=>true|.lk ..=>true|.un ..=>true|.wait=>true|.Fa=>true|.dn .d1=>true|_=>false
def cL.last:cL P->Bool
 |.dn .d5=>true|.dn .d6=>true|.dn .d7=>true|_=>false
def cL.oJ:cL P->Bool
 |.idle=>true|_=>false
def cL.ok:cL P->Bool
 |.lk p _=>JV p
 |.un p _=>Fw p
 |.dn p=>(match p with|.d1=>true|.d2=>true|.d4=>true|.d5=>true|.d6=>true|.d7=>true|_=>false)
 |_=>true
def pw.busy:pw->Bool
 |.jq=>true|.wt _=>true|.oI=>true|_=>false
def pw.ok:pw->Bool
 |.wt p=>(match p with|.w0=>true|.w1=>true|.w2 _=>true|.w3=>true|.w4=>true|.w5=>true|.we=>true|.wa=>true|_=>false)
 |_=>true
def pw.waits:pw->Bool
 |.wt .w3=>true|.wt .w4=>true|_=>false
def pw.Tl:pw->Bool
 |.wt .w5=>true|.wt .we=>true|.wt .wa=>true|.oI=>true|.gone=>true|_=>false
def pw.isNone:pw->Bool
 |.none=>true|_=>false
def pw.jO:pw->Bool
 |.gone=>true|_=>false
def vW.pend:vW->Nat
 |.cY _ .a4=>1|.cY _ .ae=>1|.spawn _=>1|_=>0
structure du(n:Nat)(s:MS P):Prop where
 g1:s.gc=sumTo n (λj=>(s.w j).cnt)+s.ms.pend
 g2:s.gv<=1
 pL:s.gv=1->s.c.waits=true/\s.gm=0
 g3:∀j,j<n->(s.w j=.dn .d5\/s.w j=.dn .d6)->s.gv=1/\s.gc=0
 Cq:∀i j,i<n->j<n->(s.w i).last=true->(s.w j).last=true->i=j
 g4:∀j,j<n->s.w j=.dn .d7->s.gv=0/\s.gc=0/\s.gm=0/\s.c.waits=true
 g5:s.gm<=1/\(s.gm=1->s.c.waits=true/\s.gv=0/\s.gc=0/\∀j,j<n->(s.w j).last=false)
 g6:s.c.waits=true->s.gv=0->s.gm=0->∃j,j<n/\s.w j=.dn .d7
 g7:s.gv=1->s.gc=0->∃j,j<n/\(s.w j=.dn .d5\/s.w j=.dn .d6)
 g8:s.c.Tl=true->s.gc=0/\s.gv=0/\s.gm=0/\∀j,j<n->s.w j=.gone
 g9:∀k,s.c=.wt (.w2 k)->k≠0
 ok:∀j,j<n->(s.w j).ok=true
 okc:s.c.ok=true
 sp:s.sp<=n
 idle:∀j,j<n->((s.w j).oJ=true↔s.sp<=j)
 ms:match s.ms with
  |.add j=>s.sp+j=n/\s.c=.none
  |.cY j p=>s.sp+j=n/\s.c=.none/\1<=j/\(p=.a0\/p=.a2\/p=.a4\/p=.ae)
  |.spawn j=>s.sp+j+1=n/\s.c=.none
  |.recv=>s.sp=n/\s.c≠.none
  |.parked=>s.sp=n/\s.c≠.none/\s.c≠.gone/\∀j,j<n->s.w j≠.wait
  |.off=>s.sp=n/\s.c≠.none
 early:s.d=false->s.c=.none->∀j,j<n->(s.w j).mU=false
 mu:Mu.Inv n (λj=>(s.w j).pc) s.sh
end
variable(P:Rg)(A:dq)(Fin:ZD)
def MS.rem(n:Nat)(s:MS P):ZB:=(List.range n).filter λj=>!(s.w j).mU
def gV(s:MS P)(i:Nat):Prop:=(i=0/\(match s.ms with|.add _=>True|.spawn _=>True|.recv=>True|_=>False))\/(∃j,j<A.n/\i=A.b+j/\(match s.w j with|.run ..=>True|.Fa=>True|_=>False))\/(i=A.cl/\(match s.c with|.jq=>True|.oI=>True|_=>False))
def ln(s:MS P)(i:Nat):Prop:=(i=0/\(match s.ms with|.cY ..=>True|_=>False))\/(∃j,j<A.n/\i=A.b+j/\(match s.w j with|.lk ..=>True|.un ..=>True|.dn _=>True|_=>False))\/(i=A.cl/\(match s.c with|.wt _=>True|_=>False))
def ki(s:MS P)(i:Nat):Prop:=(i=0/\s.ms=.parked)\/(∃j,j<A.n/\i=A.b+j/\s.w j=.wait)
def eF(s:MS P)(i:Nat):Mo:=
 if i=0 then(match s.ms with|.add j=>vN P A Fin j|.spawn j=>N8 P A Fin j|_=>yA P A Fin (MS.rem P A.n s).length (MS.rem P A.n s))
 else if i<A.b+A.n then(match s.w (i-A.b)with|.run ..=>mT P A (i-A.b)|_=>rZ P A)else(match s.c with|.jq=>DN P A|_=>zJ P A)
def agj(s:MS P)(i:Nat):(eF P A Fin s i).main=(i==0):=by
 have b:∀m R,(yA P A Fin m R).main=true:=λm R=>by cases m<;>rfl
 have c:∀m,(vN P A Fin m).main=true:=λm=>by
  cases m with
  |zero=>unfold vN;grind
  |succ m=>rfl
 unfold eF;by_cases a:i=0
 . subst a
   simp;split
   . grind
   . rfl
   grind
 . have:(i==0)=false:=am
   rw[wN a,this];split
   . split<;>rfl
   . split<;>rfl
def N9(j:Nat)(x:cL P)(k:az)(O:au)(g:YB):Prop:=
 match x with
 |.lk p Y=>∃ν c μ e,ν≠.early/\uJ P A.nm A.fb A.fo ν p (c::μ) g/\Y.m=mT P A j/\O A.fb=none/\k.sh A.fb=some e/\(A.dir=true->A.cell j<e.2)/\∀b x a f,k.Le b->qf b x a->A.GI a->O A.mb=none->A.Tk j f->Y.N b ((O.set A.mb x).set A.fb (.part f)) (qz ν c μ (.tuple #[]))
 | .un p Y=>∃ν c μ,ν≠.early/\uJ P A.nm A.fb A.fo ν p (c::μ) g/\Y.m=mT P A j/\
    ((p=.NL\/p=.ur)->∃f x a,O A.fb=some (.part f)/\O A.mb=some x/\qf k x a/\A.GI a/\(A.dir=true->k.cell A.fb (A.cell j)=some (A.val j))/\Lt P A Y.N k ((O.del A.mb).del A.fb) (qz ν c μ (.tuple #[])))/\
    (¬(p=.NL\/p=.ur)->Lt P A Y.N k O (qz ν c μ (.tuple #[])))
 |.dn p=>∃d fn τ todo,P.funcs[d]?=some fn/\fn.results=#[]/\ya P A.ng A.gb .deferred p [qo P d τ todo,fy P] g
 |_=>False
def Ls(x:pw)(k:az)(O:au)(g:YB):Prop:=
 match x with
 |.wt p=>∃c μ,ya P A.ng A.gb .normal p (c::μ) g/\if A.dir then R8 A Fin k O c μ else ∀a,k.Le a->T P (zJ P A) lR a O (qz .normal c μ (.tuple #[]))
 |_=>False
def Mt(x:vW)(k:az)(O:au)(g:YB):Prop:=
 match x with
 |.cY j p=>∃c μ,ya P A.ng A.gb .normal p (c::μ) g/\T P (N8 P A Fin (j-1)) lR k O (qz .normal c μ (.tuple #[]))
 |_=>False
def M6(s:MS P)(i:Nat)(k:az)(O:au)(g:YB):Prop:=(i=0/\Mt P A Fin s.ms k O g)\/(∃j,j<A.n/\i=A.b+j/\N9 P A j (s.w j) k O g)\/(i=A.cl/\Ls P A Fin s.c k O g)
def Z3(s:MS P)(i:Nat):Prop:=(∃j sv Y,j<A.n/\i=A.b+j/\s.w j=.lk (.lx sv) Y/\s.sh.ms=0)\/(i=A.cl/\s.c=.wt .w4/\s.gm=0)
def ae'(s:MS P)(i:Nat)(k:az)(O:au)(g:YB):Prop:=
 (i=0/\∃a z,g=parked a #[rcase A.cF z] (.recv true)/\iw P A k O a a z/\a.status=.running/\(yA P A Fin (MS.rem P A.n s).length (MS.rem P A.n s)).fY k O a lR)\/
 (∃j,j<A.n/\i=A.b+j/\∃a z v,g=parked a #[scase A.cF v z] .send/\V k v (A.res j)/\O A.fb=none/\T P (rZ P A) lR k O (Go.Conc.served a undef)/\A.dir=false)
def iy(s:MS P)(i:Nat):Nat:=
 if i=0 then(match s.ms with|.cY _ p=>zK p|.off=>(match s.c with|.wt p=>zK p|_=>0)|_=>0)
 else if i<A.b+A.n then(s.w (i-A.b)).deaf else(match s.c with|.wt p=>zK p|_=>0)
def qI(w:World):Prop:=(∃v,w.cell? ⟨A.gb,0,none⟩=some v)/\(∃v,w.cell? ⟨A.gb,1,none⟩=some v)/\∃v,w.cell? ⟨A.fb,A.fo,none⟩=some v
def Fb(A:dq):Loc->Prop
 |.cell a=>a.spot=none/\((a.block=A.fb/\(a.off=A.fo\/a.off=A.fo+1))\/(a.block=A.gb/\(a.off=0\/a.off=1)))
 |.obj r=>r=A.cF/\A.dir=false
 |_=>False
def jf(s:MS P)(i:Nat):Prop:=(∃j,j<A.n/\i=A.b+j/\(s.w j).busy=true)\/(i=A.cl/\s.c.busy=true)
def dA(s:MS P)(i:Nat):Prop:=i=0\/(∃j,j<s.sp/\i=A.b+j)\/(i=A.cl/\s.c≠.none)
abbrev Cs(s:MS P):Prop:=(A.dir=true->s.c≠.none->s.ms=.off)/\(A.dir=true->s.ms≠.recv/\s.ms≠.parked/\s.c≠.jq/\s.c≠.oI/\s.c≠.gone)/\(A.dir=false->s.ms≠.off)
structure fP(Z:Base)(s:MS P)(kk:Zz)(OO:ZF)(J M:ZA)(gsz:Nat)(w:World)(t:Trace):Prop where
 I:du A.n s
 size:gsz=A.b+s.sp+(if s.c.isNone||A.dir then 0 else 1)
 dd:s.d=A.dir
 off:Cs P A s
 Fc:A.dir=true->∀j,j<A.n->((s.w j).mH=false->(∀i,(kk i).cell A.fb (A.cell j)=none)/\∀m a ad,touchAt t m=some a->a.loc=.cell ad->ad.block=A.fb/\ad.off=A.cell j->m<Z.N0)/\((s.w j).rel=true->(kk (A.b+j)).cell A.fb (A.cell j)=some (A.val j))
 Gq:A.dir=false->∃x tm,w.heap[A.cF]?=some (.chan 0 #[] s.c.jO x x tm)
 mu:ShM A.fb A.fo w s.sh
 gr:xZ A.gb w s.gc s.gv s.gm
 BZ:∃c e,w.heap[A.fb]?=some (.cells c e (0,0))
 Fx:∃c e,w.heap[A.gb]?=some (.cells c e (0,0))
 lq:∀i,(A.dir=false->OO i A.cF=none)/\OO i A.gb=none
 jr:∀i,(kk i).cell A.fb A.fo=none/\(kk i).cell A.fb (A.fo+1)=none/\(kk i).cell A.gb 0=none/\(kk i).cell A.gb 1=none
 tok:∀i x,OO i A.fb=some x->∃j f,j<A.n/\i=A.b+j/\(s.w j).owns=true/\x=.part f/\∀l,f l≠none->A.dir=true/\l=A.cell j
 Fy:∀j,j<A.n->(s.w j).owns=true->OO (A.b+j) A.fb≠none
 Wj:(∀j,j<A.n->(s.w j).owns=false)->∃x a,OO Z.lk A.mb=some x/\qf (kk Z.lk) x a/\A.GI a
 Wk:∀c,OO Z.lk c≠none->c=A.mb/\∀j,j<A.n->(s.w j).owns=false
 hJ:∀i,J i↔jf P A s i
 hM:∀p,M p->t.heard p/\Z.N0<=p/\((t.act? p=some (.mark (.releaseMerge ⟨A.gb,0,none⟩))/\(s.c=.none\/s.c=.jq\/∃q,s.c=.wt q))\/(s.c=.gone/\t.act? p=some (.close A.cF)))
 shut:s.c=.gone->∃p,M p/\t.act? p=some (.close A.cF)/\t.heard p
 quiet:∀m a,touchAt t m=some a->Fb A a.loc->a.kind=.plain->∀i,dA P A s i->Knows t i m
 said:∀m a,touchAt t m=some a->Fb A a.loc->a.kind=.said->Knows t (if s.c.isNone then 0 else A.cl) m
 old:∀i,dA P A s i->∀m a,m<Z.N0->touchAt t m=some a->a.loc.isMemory=true -> ¬Z.na a.loc->Knows t i m
 norel:∀m a,Z.N0<=m->t.act? m≠some (.mark (.release a))
 JX:∀i,i≠Z.lk -> ¬dA P A s i->kk i=az.bot/\OO i=au.bot
 zc:∀a,Fb A a->(∃c,a=.cell c/\c.block=A.gb)->Z.na a
 px:∀c:Addr,c.block=A.fb/\(c.off=A.fo\/c.off=A.fo+1\/(A.dir=true/\∃j,j<A.n/\c.off=A.cell j)) -> ¬Z.na (.cell c)
 jT:(A.dir=false->Z.W0.heap.size<=A.cF)/\Z.W0.heap.size<=A.fb/\Z.W0.heap.size<=A.gb
 la:Z.la=⟨A.fb,A.fo,none⟩
 n0:Z.N0<=t.size
def Node.Z4{P:Rg}:Node P->Prop
 |⟨_,_,_,_,.fY ..⟩=>True
 |_=>False
def B0{P:Rg}(x X:Node P):Prop:=∀y,(y=x\/Relation.TransGen vT y x)->y.Z4->(y=X\/Relation.TransGen vT y X)
def B0.sub{P:Rg}{x y X:Node P}(h:B0 x X)(a:vT y x):B0 y X:=λz b c=>h z (b.elim (λe=>.inr (by rw[e];exact .single a)) (λe=>.inr (e.tail a))) c
theorem B0.refl{P:Rg}(X:Node P):B0 X X:=λy a _=>a
def Xs(s:MS P)(i:Nat)(x:Node P):Prop:=∀j h X,j<A.n->i=A.b+j->s.w j=.run h X->B0 x X
def dG(Z:Base)(a:A.b+A.n+1<=Z.lk):xX P where
 S:=MS P
 r:=MS.kS A.n
 wf:=Xr A.n
 mo:=eF P A Fin
 main:=agj P A Fin
 top:=A.b+A.n+1
 lk:=Z.lk
 ab0:=a
 Live:=gV P A
 Walk:=ln P A
 At:=M6 P A Fin
 F9:=Z3 P A
 uT:=ki P A
 LQ:=ae' P A Fin
 deaf:=iy P A
 Wd:=qI A
 Ex:=fP P A Z
 WN:=Xs P A
 tie:=λs i x y hs h j b X c d e=>(h j b X c d e).sub hs
end
section
open Go.Conc
open Go.ConcN (sumTo upd sumTo_upd upd_ne upd_same)
theorem JY{t}(u:Trace){p x}(h:t.act? p=some x)(a:t.heard p):(t++u).act? p=some x/\(t++u).heard p:=by grind [lt_of_act?,act?_old,heard_old]
structure JZ  b o  (w w':World):Prop where
 cell:∀l,l=o\/l=o+1->w'.cell? ⟨b,l,none⟩=w.cell? ⟨b,l,none⟩
 fz:∀l,w'.frozen? ⟨b,l,none⟩=w.frozen? ⟨b,l,none⟩
def JZ.of_heap{b o w w'}(h:w'.heap[b]?=w.heap[b]?):JZ b o w w':=⟨λl _=>by simp  [World.cell?,h],λl=>by simp  [World.frozen?,h]⟩
def ShM.same{b o w w' s}(h:ShM b o w s)(e:JZ b o w w'):ShM b o w' s:=⟨by rw[e.cell _ (.inl rfl)];exact h.cw,by rw[e.cell _ (.inr rfl)];exact h.cs,λi=>by rw[e.fz];exact h.fz i⟩
def xZ.same{b w w' c v m}(h:xZ b w c v m)(e:JZ b 0 w w'):xZ b w' c v m:=⟨by rw[e.cell _ (.inl rfl)];exact h.cw,by rw[e.cell _ (.inr rfl)];exact h.cs,λi=>by rw[e.fz];exact h.fz i⟩
theorem iN{t u m a}(h:touchAt (t++u) m=some a):(touchAt t m=some a/\m<t.size)\/∃op∈u,op.act.touch?=some a:=by
 obtain⟨x,c,b⟩:=touch_of h
 grind [touchAt_of]
theorem xy{t u:Trace}{m x}(h:(t++u).act? m=some x):(t.act? m=some x/\m<t.size)\/∃op∈u,op.act=x:=by
 obtain⟨y,b,rfl⟩:=Fh.1 h;rcases getElem?_append_cases b with⟨c,a⟩|⟨_,d⟩
 . exact .inl ⟨by simp[Trace.act?,a],c⟩
 grind
section
variable{P:Rg}{A:dq}{Fin:ZD}{Z:Base}{s:MS P}{kk kk':Zz}{OO OO':ZF}{J M:ZA}{gsz:Nat}{w w':World}{t:Trace}
def fP.pW(h:fP P A Z s kk OO J M gsz w t)  u  (j:∀op∈u,∀a,op.act.touch?=some a->Fb A a.loc->a.kind≠.plain):∀m a,touchAt (t++u) m=some a->Fb A a.loc->a.kind=.plain->∀i,dA P A s i->Knows (t++u) i m:=λm a c d e i f=>by
 rcases iN c with⟨b,_⟩|⟨op,g,b⟩
 . exact(h.quiet m a b d e i f).app u
 grind
def fP.vm(h:fP P A Z s kk OO J M gsz w t)  u  (i:∀op∈u,∀a,op.act.touch?=some a->Fb A a.loc->a.kind≠.said):∀m a,touchAt (t++u) m=some a->Fb A a.loc->a.kind=.said->Knows (t++u) (if s.c.isNone then 0 else A.cl) m:=λm a d e f=>by
 rcases iN d with⟨b,_⟩|⟨op,g,b⟩
 . exact(h.said m a b e f).app u
 grind
def fP.wJ(h:fP P A Z s kk OO J M gsz w t)  u :∀i,dA P A s i->∀m a,m<Z.N0->touchAt (t++u) m=some a->a.loc.isMemory=true -> ¬Z.na a.loc->Knows (t++u) i m:=λi d m a c j b e=>by
 have f:m<t.size:=HL c h.n0;have g:touchAt t m=some a:=by simp_all [Q4,touchAt_of]
 exact(h.old i d m a c g b e).app u
def fP.oO(h:fP P A Z s kk OO J M gsz w t)  u  (f:∀op∈u,∀a,op.act≠.mark (.release a)):∀m a,Z.N0<=m->(t++u).act? m≠some (.mark (.release a)):=λm a c e=>by
 rcases xy e with⟨b,_⟩|⟨op,d,b⟩
 . exact h.norel m a c b
 grind
def fP.B1(h:fP P A Z s kk OO J M gsz w t)  u :∀p,M p->(t++u).heard p/\Z.N0<=p/\(((t++u).act? p=some (.mark (.releaseMerge ⟨A.gb,0,none⟩))/\(s.c=.none\/s.c=.jq\/∃q,s.c=.wt q))\/(s.c=.gone/\(t++u).act? p=some (.close A.cF))):=λp a=>by
 obtain⟨b,d,e⟩:=h.hM p a
 grind [JY]
def fP.sR(h:fP P A Z s kk OO J M gsz w t)  u :s.c=.gone->∃p,M p/\(t++u).act? p=some (.close A.cF)/\(t++u).heard p:=λa=>by
 obtain⟨p,b,d,e⟩:=h.shut a
 grind [JY]
def agf(I:du A.n s){i}(d:gV P A s i):dA P A s i:=by
 rcases d with⟨h,_⟩|⟨j,b,c,f⟩|⟨b,c⟩
 . exact .inl h
 . refine .inr (.inl ⟨j,?_,c⟩)
   have a:=I.idle j b;cases e:s.w j with
   |idle=>grind
   |_=>rw[e]at a;simp[cL.oJ]at a;omega
 . refine .inr (.inr ⟨b,λe=>?_⟩)
   grind
def Tm{i}(a:gV P A s i):i<A.b+A.n+1:=by
 have:=A.hb;rcases a with⟨h,_⟩|⟨j,c,d,e⟩|⟨c,d⟩<;>omega
def fP.Xt(h:fP P A Z s kk OO J M gsz w t){i l}(a:bS (OO i) A.fb l):A.dir=true/\∃j,j<A.n/\(i=A.b+j/\(s.w j).owns=true)/\l=A.cell j:=by
 obtain⟨x,c⟩:=a.own;obtain⟨j,f,d,e,k,rfl,p⟩:=h.tok i x c;rcases a with⟨o,q⟩|⟨m,q,_⟩|⟨g,q,r⟩
 . grind
 . grind
 . rw[c]at q;cases q;grind
theorem Gr{x:cL P}(h:x.owns=true):x.mH=true:=by cases x<;>simp_all [cL.owns,cL.mH]
def akN(h:fP P A Z s kk OO J M gsz w t){i e}(n:nY (kk i) (OO i) w.heap.size e){a}(p:(MemAct.ofEvent e).touch?=some a):¬Fb A a.loc:=λb=>by
 have q:A.fb<w.heap.size:=by obtain⟨c,e,k⟩:=h.BZ;grind
 have u:A.gb<w.heap.size:=by obtain⟨c,e,k⟩:=h.Fx;grind
 have g:∀l,(l=A.fo\/l=A.fo+1) -> ¬bS (OO i) A.fb l:=λl d m=>by obtain⟨_,_,_,_,e⟩:=h.Xt m;unfold dq.cell at e;omega
 have j:∀l,¬bS _ A.gb l:=λl=>iR (h.lq i).2
 obtain⟨v,y,z,B⟩:=h.jr i
 rcases pI n p with⟨C,d,m⟩|⟨r,d,f⟩
 . rw[d]at b
   obtain⟨_,b⟩:=b
   grind
 . rw[d]at b
   obtain⟨b,hd⟩:r=A.cF/\A.dir=false:=b;subst b
   rcases f with⟨o,f⟩|f
   . rw[(h.lq i).1 hd]at f;grind
   . obtain⟨x,D,k⟩:=h.Gq hd
     grind
theorem ajg{k O B e}(b:nY k O B e)  a :MemAct.ofEvent e≠.mark (.release a):=by
 obtain⟨loc,wr,c⟩:=e;cases loc with
 |mark m=>simp  [nY]at b;cases m<;>simp_all [pG,tp,MemAct.ofEvent]
 |cell d=>simp[MemAct.ofEvent]
 |obj r=>cases wr<;>cases c<;>simp[MemAct.ofEvent]
 |_=>simp[nY]at b
def fP.own(h:fP P A Z s kk OO J M gsz w t)(hZ:A.b+A.n+1<=Z.lk){i}(O:gV P A s i){k' O' es}(p:Eff (kk i) (OO i) w k' O' w' es)  u
 (H:∀op∈u,∃e,nY (kk i) (OO i) w.heap.size e/\op.act=.ofEvent e):fP P A Z s (dz kk i k') (dz OO i O') J M gsz w' (t++u):=by
 have B:i≠Z.lk:=by have:=Tm O;omega
 have a8:=agf h.I O;have hF:A.fb<w.heap.size:=by obtain⟨c,e,d⟩:=h.BZ;grind
 have Q:A.gb<w.heap.size:=by obtain⟨c,e,d⟩:=h.Fx;grind
 have hC:A.dir=false->A.cF<w.heap.size:=λhd=>by obtain⟨x,tm,d⟩:=h.Gq hd;grind
 have K:=p.keep A.gb Q (h.lq i).2
 have L:JZ A.fb A.fo w w'/\∃c e,w'.heap[A.fb]?=some (.cells c e (0,0)):=by
  cases q:OO i A.fb with
  |none=>have:=p.keep A.fb hF q;exact⟨.of_heap this,by rw[this];exact h.BZ⟩
  | some x=>
    obtain⟨j,f,_,_,_,rfl,hf⟩:=h.tok i x q;obtain⟨c,e,d⟩:=h.BZ;obtain⟨c',G,h3,V⟩:=p.part A.fb f hF q c e d;refine⟨⟨λl O=>?_,λl=>?_⟩,c',e,G⟩
    . simp only[World.cell?,d,G];rw[V l (K3 λhh=>by have:=(hf l hh).2;unfold dq.cell at this;omega)]
    . simp only[World.frozen?,d,G]
 have k:∀c,c<w.heap.size->OO i c=none->O' c=none:=λc hc hn=>by
  cases q:O' c with
  |none=>rfl
  | some x=>
    rcases p.own c x q with⟨y,hy,_⟩|hy
    . grind
    omega
 have W:∀l,(l=A.fo\/l=A.fo+1) -> ¬bS (OO i) A.fb l:=λl O hc=>by obtain⟨_,_,_,_,e⟩:=h.Xt hc;unfold dq.cell at e;omega
 have X:∀l,l<A.n->(s.w l).mH=false -> ¬bS (OO i) A.fb (A.cell l):=λl _ R hc=>by
  obtain⟨_,j,_,⟨_,S⟩,e⟩:=h.Xt hc;obtain rfl:l=j:=by unfold dq.cell at e;omega
  grind [Gr]
 have N:∀c l,c<w.heap.size -> ¬bS (OO i) c l->(kk i).cell c l=none->k'.cell c l=none:=λc l hc a9 hn=>by
  cases q:k'.cell c l with
  |none=>rfl
  | some v=>
    rcases p.cell c l v q with d|d|d
    . grind
    . grind
    omega
 obtain⟨ab,al,Y,a7⟩:=h.jr i
 have av:∀op∈u,∀a,op.act.touch?=some a -> ¬Fb A a.loc:=λop C a T=>by obtain⟨e,D,E⟩:=H op C;rw[E]at T;exact akN h D T
 refine⟨h.I,h.size,h.dd,h.off,λhd l z=>⟨λR=>⟨λj=>?_,λm a ad T e e'=>?_⟩,λhr=>?_⟩,λhd=>by rw[p.keep A.cF (hC hd) ((h.lq i).1 hd)];exact h.Gq hd,h.mu.same L.1,h.gr.same (.of_heap K),L.2,by rw[K];exact h.Fx,λj=>?_,λj=>?_,λj x U=>?_,λj hj S=>?_,λS=>?_,λc hc=>?_,h.hJ,h.B1 u,h.sR u,
  h.pW u am,h.vm u am,h.wJ u,h.oO u (by grind [ajg]),λj hj hb=>?_,h.zc,h.px,h.jT,h.la,by simp;exact FL h.n0 (Iq _ _)⟩
 . have d:=((h.Fc hd l z).1 R).1 j
   grind [aD,aK]
 . rcases iN T with⟨d,_⟩|⟨op,C,d⟩
   . exact((h.Fc hd l z).1 R).2 m a ad d e e'
   . obtain⟨ev,D,E⟩:=H op C
     rw[E]at d
     rcases pI D d with⟨ad,F,hc⟩|⟨r,F,_⟩
     . rw[e]at F
       cases F;rw[e'.1,e'.2]at hc
       rcases hc with hc|hc|⟨_,v,hc⟩
       . grind
       . omega
       . have:=((h.Fc hd l z).1 R).1 i
         grind
     grind
 . have d:=(h.Fc hd l z).2 hr
   by_cases e:A.b+l=i
   . rw[e,aD];rw[e]at d;exact p.le.1 _ _ _ d
   grind [aK]
 . by_cases e:j=i
   . subst e;rw[aD];exact⟨λhd=>k _ (hC hd) ((h.lq j).1 hd),k _ Q (h.lq j).2⟩
   . rw[aK _ _ e];exact h.lq j
 . by_cases e:j=i
   . subst e;rw[aD]
     exact⟨am,am,N _ _ Q (iR (h.lq j).2) Y,N _ _ Q (iR (h.lq j).2) a7⟩
   . rw[aK _ _ e];exact h.jr j
 . by_cases e:j=i
   . subst e;rw[aD]at U
     rcases p.own _ x U with⟨y,hy,hb⟩|hy
     . obtain⟨l,f,d,G,h3,rfl,V⟩:=h.tok j y hy
       cases x with
       |obj o=>exact hb.elim
       |tail m=>exact hb.elim
       |part g=>exact⟨l,g,d,G,h3,rfl,λa q=>V a (hb a q)⟩
     omega
   . rw[aK _ _ e]at U;exact h.tok j x U
 . have d:=h.Fy j hj S
   by_cases e:A.b+j=i
   . rw[e,aD]
     rw[e]at d;cases q:OO i A.fb with
     |none=>grind
     | some x=>
       obtain⟨_,f,_,_,_,rfl,_⟩:=h.tok i x q;obtain⟨f',G⟩:=p.tok _ f q
       grind
   simp_all [aK]
 . rw[aK _ _ (vj B),aK _ _ (vj B)];exact h.Wj S
 . rw[aK _ _ (vj B)]at hc;exact h.Wk c hc
 . have e:j≠i:=am
   rw[aK _ _ e,aK _ _ e];exact h.JX j hj hb
def fP.still(h:fP P A Z s kk OO J M gsz w t)  u  (j:∀op∈u,op.act.touch?=none/\∀a,op.act≠.mark (.release a)):fP P A Z s kk OO J M gsz w (t++u):=
 ⟨h.I,h.size,h.dd,h.off,λhd l b=>⟨λc=>⟨((h.Fc hd l b).1 c).1,λm a d f e g=>(iN f).elim (λi=>((h.Fc hd l b).1 c).2 m a d i.1 e g) am⟩,(h.Fc hd l b).2⟩,h.Gq,h.mu,h.gr,h.BZ,h.Fx,h.lq,h.jr,h.tok,h.Fy,h.Wj,h.Wk,h.hJ,h.B1 u,h.sR u,h.pW u am,h.vm u am,
   h.wJ u,h.oO u am,h.JX,h.zc,h.px,h.jT,h.la,by simp;exact FL h.n0 (Iq _ _)⟩
theorem cE  r :Ga (dG P A Fin Z r) where
 own:=λa m _ he u _ _ o=>fP.own a r m he u o
 slip:=λa u _ hu=>fP.still a u hu
 draw:=λ{s kk OO J M n w t} a d=>by have a:fP P A Z s kk OO J M n w t:=a;exact⟨a.I,a.size,a.dd,a.off,a.Fc,a.Gq,a.mu.heap rfl,a.gr.same (.of_heap rfl),a.BZ,a.Fx,a.lq,a.jr,a.tok,a.Fy,a.Wj,a.Wk,a.hJ,a.hM,a.shut,a.quiet,a.said,a.old,a.norel,a.JX,a.zc,a.px,a.jT,a.la,a.n0⟩
 zf := λ{s kk OO J M n w t j g} a y k O b=>by
  have a:fP P A Z s kk OO J M n w t:=a
  have q:s.c.jO=false:=by
   rcases y with⟨_,hm⟩|⟨l,m,_,hw⟩
   . have:=a.I.ms
     cases e:s.c<;>simp_all [pw.jO]
   . cases e:s.c with
     | gone=>
       have:=(a.I.g8 (by rw[e];rfl)).2.2.2 l m
       grind
     |_=>rfl
  have hd:A.dir=false:=by
   cases e:A.dir with
   |false=>rfl
   | true=>
     rcases b with⟨h0,_⟩|⟨l,_,_,h,z,v,_,_,_,_,hd⟩
     . have:=A.hb
       rcases y with⟨_,hm⟩|⟨l,m,f,hw⟩
       . exact absurd hm (a.off.2.1 e).2.1
       omega
     grind
  obtain⟨x,C,B⟩:=a.Gq hd;rw[q]at B;rcases b with⟨_,h,z,rfl,_⟩|⟨l,_,_,h,z,v,rfl,_⟩
  . exact again_recv_open B
  grind [again_send_open]
 wd:=λ{s kk OO J M n w t} a=>by exact⟨⟨_,a.gr.cw⟩,⟨_,a.gr.cs⟩,⟨_,a.mu.cw⟩⟩
 qu:=λ{s i k O g} b=>by
  rcases b with⟨_,b⟩|⟨j,_,_,b⟩|⟨_,b⟩
  . cases e:s.ms with
    |cY j p=>rw[e]at b;obtain⟨c,μ,f,_⟩:=b;exact f.running
    |_=>rw[e]at b;exact b.elim
  . cases e:s.w j with
    |lk p Y=>rw[e]at b;obtain⟨ν,c,μ,_,_,f,_⟩:=b;exact f.running
    |un p Y=>rw[e]at b;obtain⟨ν,c,μ,_,f,_⟩:=b;exact f.running
    |dn p=>rw[e]at b;obtain⟨D,fn,τ,todo,_,_,f⟩:=b;exact f.running
    |_=>rw[e]at b;exact b.elim
  . cases e:s.c with
    |wt p=>rw[e]at b;obtain⟨c,μ,f,_⟩:=b;exact f.running
    |_=>rw[e]at b;exact b.elim
end
end
section
open Go.Conc
open Go.ConcN (sumTo upd sumTo_upd upd_ne upd_same)
variable{P:Rg}
def MS.bW(s:MS P)(j:Nat)(x:cL P)(sh:Mu.Sh):MS P:={s with w:=λi=>if i=j then x else s.w i,sh:=sh}
section
variable{s:MS P}{j n:Nat}{x:cL P}{sh:Mu.Sh}
theorem bV:(s.bW j x sh).w j=x:=by simp[MS.bW]
theorem dW{i}(h:i≠j):(s.bW j x sh).w i=s.w i:=by simp[MS.bW,h]
def Oa:(λi=>((s.bW j x sh).w i).pc)=Mu.set (λi=>(s.w i).pc) j x.pc:=by grind [bV,Mu.aj,dW,Mu.ah]
def zL(F:cL P->Nat)(hj:j<n):sumTo n (λi=>F ((s.bW j x sh).w i))+F (s.w j)=sumTo n (λi=>F (s.w i))+F x:=by
 have e:(λi=>F ((s.bW j x sh).w i))=upd (λi=>F (s.w i)) j (F x):=by grind [bV,upd_same,dW,upd_ne]
 have:=sumTo_upd (λi=>F (s.w i)) (F x) id hj
 simp_all
def cL.work:cL P->Bool
 |.run ..=>true|.lk ..=>true|.un ..=>true|_=>false
def eS{x:cL P}(h:x.work=true):x.cnt=1/\x.eZ=20/\x.mU=false/\x.last=false/\x.oJ=false/\x.busy=true/\x≠.gone/\x≠.wait/\∀p,x≠.dn p:=by cases x<;>simp_all [cL.work,cL.cnt,cL.eZ,cL.mU,cL.last,cL.oJ,cL.busy]
def cL.HZ:cL P->Bool
 |.run ..=>true|.lk ..=>true|.un ..=>true|.Fa=>true|.dn .d1=>true|.dn .d2=>true|.dn .d4=>true|_=>false
def DO{x:cL P}(h:x.HZ=true):x.cnt=1/\x.last=false/\x.oJ=false/\x≠.gone/\x≠.wait/\∀p,(p=.d5\/p=.d6\/p=.d7)->x≠.dn p:=by
 cases x with
 |dn p=>cases p<;>simp_all [cL.HZ,cL.cnt,cL.last,cL.oJ]
 |_=>simp_all [cL.HZ,cL.cnt,cL.last,cL.oJ]
def du.same(I:du n s)(hj:j<n)(m:(s.w j).HZ=true)(o:x.HZ=true)(q:x.mU=(s.w j).mU\/s.d=true)(E:x.ok=true)(r:Mu.Inv n (Mu.set (λi=>(s.w i).pc) j x.pc) sh):du n (s.bW j x sh):=by
 obtain⟨F,a4,t,G,H,J⟩:=DO m;obtain⟨K,L,u,M,N,O⟩:=DO o;have k:=zL (s:=s) (x:=x) (sh:=sh) cL.cnt hj;have look:∀{i:Nat}{y:cL P},(s.bW j x sh).w i=y->x≠y->i≠j/\s.w i=y:=(by grind [bV,dW]);have back:∀{i:Nat}{y:cL P},s.w i=y->(s.w j)≠y->(s.bW j x sh).w i=y:=(by grind [dW]);have b:∀{i:Nat},((s.bW j x sh).w i).last=(s.w i).last:=(by grind [dW]);refine⟨?_,I.g2,I.pL,λi a h=>?_,λi l a v h f=>?_,λi a h=>?_,⟨I.g5.1,λh=>?_⟩,λh f g=>?_,λh f=>?_,λh=>?_,I.g9,λi a=>?_,I.okc,I.sp,λi a=>?_,?_,λhd h i a=>?_,by rw[Oa];exact r⟩
 . have:=I.g1
   show s.gc=sumTo n (λi=>((s.bW j x sh).w i).cnt)+s.ms.pend;omega
 . exact I.g3 i a am
 . rw[b]at h f;exact I.Cq i l a v h f
 . exact I.g4 i a am
 . obtain⟨z,A,B,C⟩:=I.g5.2 h
   exact⟨z,A,B,am⟩
 . obtain⟨i,a,D⟩:=I.g6 h f g
   grind
 . obtain⟨i,a,D⟩:=I.g7 h f
   grind
 . obtain⟨_,_,_,C⟩:=I.g8 h
   grind
 . by_cases e:i=j
   . grind
   . rw[dW e];exact I.ok i a
 . by_cases e:i=j
   . subst e
     rw[bV,u];have:=I.idle i a;rw[t]at this;exact this
   . rw[dW e];exact I.idle i a
 . have:=I.ms
   show match s.ms with
   |.add l=>s.sp+l=n/\s.c=.none
   |.cY l p=>s.sp+l=n/\s.c=.none/\1<=l/\(p=.a0\/p=.a2\/p=.a4\/p=.ae)
   |.spawn l=>s.sp+l+1=n/\s.c=.none
   |.recv=>s.sp=n/\s.c≠.none
   |.parked=>s.sp=n/\s.c≠.none/\s.c≠.gone/\∀i,i<n->(s.bW j x sh).w i≠.wait
   |.off=>s.sp=n/\s.c≠.none
   grind
 . by_cases e:i=j
   . subst e;rw[bV,q.resolve_right λe=>by have hd:s.d=false:=hd;grind];exact I.early hd h i a
   . rw[dW e];exact I.early hd h i a
def Gs{x:cL P}(h:x.work=true):x.HZ=true:=by cases x<;>simp_all [cL.work,cL.HZ]
def du.work(I:du n s)(hj:j<n)(a:(s.w j).work=true)(b:x.work=true)(c:x.ok=true)(d:Mu.Inv n (Mu.set (λi=>(s.w i).pc) j x.pc) sh):du n (s.bW j x sh):=I.same hj (Gs a) (Gs b) (by simp_all [eS]) c d
def Z5(F:cL P->Nat)(hj:j<n)(h:F x=F (s.w j)):sumTo n (λi=>F ((s.bW j x sh).w i))=sumTo n (λi=>F (s.w i)):=by have:=zL (s:=s) (x:=x) (sh:=sh) F hj;omega
def J0(hj:j<n)(a:(s.w j).work=true)(b:x.work=true):(s.bW j x sh).eZ n=s.eZ n:=by
 have:=Z5  (x:=x) (sh:=sh) cL.eZ hj (by rw[(eS a).2.1,(eS b).2.1]);show s.ms.eZ+sumTo n _+s.c.eZ s.gc=_;rw[this];rfl
def H2(hj:j<n)(a:(s.w j).work=true)(b:x.work=true)(h:Tg x.nd (s.w j).nd):MS.kS n (s.bW j x sh) s:=.inr ⟨J0 hj a b,.inl ⟨j,hj,λi c=>by show((s.bW j x sh).w i).nd=_;rw[dW c],by simp  [bV];exact h⟩⟩
theorem CD(hj:j<n)(a:(s.w j).work=true)(b:x.work=true)(h:x.nd=(s.w j).nd)(hi:4*Mu.meas n (Mu.set (λi=>(s.w i).pc) j x.pc) sh+x.ex n<4*Mu.meas n (λi=>(s.w i).pc) s.sh+(s.w j).ex n):MS.kS n (s.bW j x sh) s:=by
 refine .inr ⟨J0 hj a b,.inr ⟨?_,?_⟩⟩
 . grind [bV,dW]
 . have:=zL (s:=s) (x:=x) (sh:=sh) (cL.ex n) hj
   show 4*Mu.meas n _ sh+sumTo n _<4*Mu.meas n _ s.sh+sumTo n _;rw[Oa];omega
def Ob(I:du n s)(hj:j<n)(b:(s.w j).work=true)(c:x.work=true)(h:x.nd=(s.w j).nd)(a:(x.pc,sh)∈Mu.mv (s.w j).pc s.sh)(d:x.ex n<=3):MS.kS n (s.bW j x sh) s:=by
 have:=(Mu.OU (pcs:=λi=>(s.w i).pc) hj (I.mu.j0 j hj) a).1
 grind [CD]
def du.mv(I:du n s)(hj:j<n)(a:(s.w j).work=true)(b:x.work=true)(c:x.ok=true)(d:(x.pc,sh)∈Mu.mv (s.w j).pc s.sh):du n (s.bW j x sh):=I.work hj a b c (I.mu.step hj d)
theorem oP  pcs   i :Mu.set pcs i (pcs i)=pcs:=by grind [Mu.aj,Mu.ah]
def r7(hj:j<n)(a:(s.w j).work=true)(b:x.work=true)(h:x.nd=(s.w j).nd)(c:x.pc=(s.w j).pc)(d:x.ex n<(s.w j).ex n):MS.kS n (s.bW j x s.sh) s:=by grind [CD,oP]
def du.still(I:du n s)(hj:j<n)(a:(s.w j).work=true)(b:x.work=true)(c:x.ok=true)(d:x.pc=(s.w j).pc):du n (s.bW j x s.sh):=I.work hj a b c (by rw[d,oP _];exact I.mu)
def kN(F:Mu.Pc->Nat){pcs i}(a:pcs i=.out)(h:F .mE=F .out):(λl=>F (Mu.set pcs i .mE l))=λl=>F (pcs l):=by grind [Mu.aj,Mu.ah]
def Xu{n pcs s i}(h:Mu.Inv n pcs s)(a:pcs i=.out):Mu.Inv n (Mu.set pcs i .mE) s:=by
 obtain⟨⟨d,f,g,j,k⟩,b,m⟩:=h;refine⟨⟨λl c=>?_,?_,?_,?_,?_⟩,b,λl c old sv o=>?_⟩
 . by_cases e:l=i
   . subst e;rw[Mu.aj];trivial
   grind [Mu.ah]
 . rw[kN Mu.dQ a rfl];omega
 . rw[kN Mu.kB a rfl,kN Mu.eI a rfl,kN Mu.tz a rfl,kN Mu.gz a rfl,kN Mu.eH a rfl];omega
 . rw[kN Mu.kB a rfl,kN Mu.eI a rfl,kN Mu.tz a rfl,kN Mu.gz a rfl,kN Mu.eH a rfl];omega
 . rw[kN Mu.mF a rfl];omega
 grind [Mu.aj,Mu.ah]
def J1{n pcs s i}(hi:i<n)(a:pcs i=.out):Mu.meas n (Mu.set pcs i .mE) s=Mu.meas n pcs s+(6*(18*n+1)+16):=by
 have C:=Mu.kW Mu.lF pcs i .mE hi;have R:=Mu.kW (Mu.pf s.w) pcs i .mE hi;rw[a]at C R;have b:Mu.lF .out=0:=rfl;have c:Mu.lF .mE=6:=rfl;have d:Mu.pf s.w .out=0:=rfl;have e:Mu.pf s.w .mE=16:=rfl;have f:Mu.phi n (Mu.set pcs i .mE) s=Mu.phi n pcs s+6:=by unfold Mu.phi;omega
 unfold Mu.meas
 grind
def Tn(hj:j<n)(a:(s.w j).work=true)(b:x.work=true)(h:x.nd=(s.w j).nd)(c:(s.w j).pc=.out)(d:x.pc=.mE)(e:(s.w j).ex n=HY n)(f:x.ex n=0):MS.kS n (s.bW j x s.sh) s:=by refine CD hj a b h ?_;rw[d,J1 hj c,e,f];unfold HY;omega
def du.enq(I:du n s)(hj:j<n)(a:(s.w j).work=true)(b:x.work=true)(c:x.ok=true)(d:(s.w j).pc=.out)(e:x.pc=.mE):du n (s.bW j x s.sh):=I.work hj a b c (by rw[e];exact Xu I.mu d)
end
end
open Go.Conc
open Go.ConcN (sumTo upd sumTo_upd upd_ne upd_same)
section
variable{P:Rg}{A:xX P}{Z:Base}{s s':A.S}{f f':Nat->Node P}{q q':Ct}{kk kk':Zz}{OO OO':ZF}{J J' M M':ZA}{gs:Da}{w w':World}{t u:Trace}{i:Nat}{g g1:YB}
structure Beside(A:xX P)(s s':A.S)(f f':Nat->Node P)(q q':Ct)(kk kk':Zz)(OO OO':ZF)(J J':ZA)(w':World)(i:Nat)(g g1:YB):Prop where
 ef:∀j,j≠i->f' j=f j
 eq:∀j,j≠i->q' j=q j
 ek:∀j,j≠i->j<A.top->kk' j=kk j
 eO:∀j,j≠i->j<A.top->OO' j=OO j
 eJ:∀j,j≠i->A.Live s j->J j->J' j
 live:∀j,j≠i->(A.Live s' j↔A.Live s j)
 walk:∀j,j≠i->(A.Walk s' j↔A.Walk s j)
 held:∀j,j≠i->(A.uT s' j↔A.uT s j)
 mo:∀j,j≠i->A.Live s j->A.mo s' j=A.mo s j
 at':∀j k O x,j≠i->A.Walk s j->A.At s j k O x->A.At s' j k O x
 deaf:∀j,j≠i->A.Walk s j->A.deaf s' j=A.deaf s j
 F9:∀j,j≠i->A.Walk s j->A.F9 s j->A.F9 s' j\/∀x,A.At s j (kk j) (OO j) x->woken P g g1 w' (blk x)=x
 atC:∀j k O x,j≠i->A.uT s j->A.LQ s j k O x->A.LQ s' j k O x
 tie:∀j x,j≠i->A.Live s j->A.WN s j x->A.WN s' j x
structure Self(P:Rg)(A:xX P)(s':A.S)(f':Nat->Node P)(q':Ct)(kk':Zz)(OO':ZF)(J':ZA)(t':Trace)(i:Nat)(g1:YB):Prop where
 live:A.Live s' i->i<A.top/\g1=(f' i).g/\(f' i).m=A.mo s' i/\(f' i).k=kk' i/\(f' i).O=OO' i/\(f' i).g.status=.running/\Deaf t' i=0/\(i=0\/J' i)/\A.WN s' i (f' i)
 walk:A.Walk s' i -> ¬A.Live s' i/\i<A.top/\Deaf t' i=A.deaf s' i/\∃g',A.At s' i (kk' i) (OO' i) g'/\R7 P A.Wd (A.F9 s' i) (q' i) g1 g'
 held:A.uT s' i -> ¬A.Live s' i/\¬A.Walk s' i/\i<A.top/\Deaf t' i=0/\g1.status=.blocked/\A.LQ s' i (kk' i) (OO' i) g1
 rest:¬A.Live s' i -> ¬A.Walk s' i -> ¬A.uT s' i->i≠0/\QuitsD P (q' i) (Deaf t' i) g1
def cZ.step(B:Ga A)(v:cZ A Z s f q kk OO J M gs w t)(hi:gs[i]?=some g)(C:∀op∈u,op.g=i)(U:dX Z kk' OO' J' M' w' (t++u))(V:A.Ex s' kk' OO' J' M' gs.size w' (t++u))
 (W:∀j x,A.uT s j->A.LQ s j (kk j) (OO j) x->x.again w'=x) (hb:Beside A s s' f f' q q' kk kk' OO OO' J J' w' i g g1) (E:Self P A s' f' q' kk' OO' J' (t++u) i g1):
 cZ A Z s' f' q' kk' OO' J' M' ((gs.map (woken P g g1 w')).setIfInBounds i g1) w' (t++u):=by
 have X:i<gs.size:=am
 have F:=v.WO B (i:=i) (a:=g) (a':=g1) (x:=g1) (w':=w') W;have p:((gs.map (woken P g g1 w')).setIfInBounds i g1)[i]?=some g1:=am
 have G:∀j,j≠i->Deaf (t++u) j=Deaf t j:=λj d=>Deaf_other t (vj d) _ C
 refine⟨v.lk,U,λj d=>?_,λj d=>?_,λj d=>?_,λj x I N O Q=>?_,λj d=>?_,am⟩
 . by_cases e:j=i
   . subst e
     obtain⟨k,l,m⟩:=E.live d
     grind
   . have b:=(hb.live j e).1 d
     obtain⟨k,l,pm,m,D,z,r,R⟩:=v.live j b;rw[hb.ef j e,hb.ek j e k,hb.eO j e k,G j e,hb.mo j e b];exact⟨k,F.live j e b,pm,m,D,z,r,R.1.imp id (hb.eJ j e b),hb.tie j _ e b R.2⟩
 . by_cases e:j=i
   . subst e
     obtain⟨k,l,m,g',D,z⟩:=E.walk d
     grind
   . have b:=(hb.walk j e).1 d
     obtain⟨k,l,m,x,Y,D,z,r⟩:=v.walk j b;refine⟨λh=>k ((hb.live j e).1 h),l,by rw[G j e,hb.deaf j e b];omega,?_⟩
     rw[hb.ek j e l,hb.eO j e l,hb.eq j e];obtain⟨y,y',n,K,r3⟩:=F.walk j e b
     by_cases hd:∃x,A.F9 s j/\y=blk x/\A.At s j (kk j) (OO j) x/\q j=0
     . obtain⟨x0,S,H,d3,d4⟩:=hd
       rcases hb.F9 j e b S with h|h
       . exact⟨y,x0,n,hb.at' j _ _ _ e b d3,.inl ⟨h,H,d4⟩⟩
       ·
        have c:((gs.map (woken P g g1 w')).setIfInBounds i g1)[j]?=some (woken P g g1 w' x):=am
        obtain⟨T,a2⟩:=B.qu z
        rcases r with⟨_,rfl,_⟩|r
        . rw[h _ z]at c
          rw[c]at n;have:=KE n;rw[H]at this;have o:Y.status=.blocked:=by rw[this];rfl
          grind
        . rw[woken_run (r.first T)]at c
          rw[c]at n;have hh:=KE n;have o:x.status=.blocked:=by rw[hh,H];rfl
          rw[r.first T]at o;grind
     . rcases r3 with⟨S,rfl,H⟩|r3
       . grind
       . exact⟨y,y',n,hb.at' j _ _ _ e b K,.inr r3⟩
 . by_cases e:j=i
   . subst e
     obtain⟨k,l,m,D,z,r⟩:=E.held d
     grind
   . have b:=(hb.held j e).1 d
     obtain⟨k,l,m,D,_⟩:=v.held j b;obtain⟨x,n,K,r3⟩:=F.held j e b;refine⟨λh=>k ((hb.live j e).1 h),λh=>l ((hb.walk j e).1 h),m,am,x,n,K,?_⟩
     rw[hb.ek j e m,hb.eO j e m];exact hb.atC j _ _ _ e b r3
 . by_cases e:j=i
   . subst e
     rw[p]at I;obtain rfl:=KE I;exact E.rest N O Q
   . rw[hb.eq j e,G j e]
     exact F.rest j x e I (λh=>N ((hb.live j e).2 h)) (λh=>O ((hb.walk j e).2 h)) (λh=>Q ((hb.held j e).2 h))
 . have L:gs.size<=j:=am
   rw[G j ac];exact v.above j L
end
theorem knows_own{t u i m op}(h:u[m]?=some op)(a:op.g=i):Knows (t++u) i (t.size+m):=⟨t.size+m,op,kV h,a,.inl rfl⟩
section
variable{Z:Base}{kk:Zz}{OO:ZF}{J M:ZA}{w w':World}{t u:Trace}{i:Nat}
def H3(kk:Zz)(OO:ZF)(B:Nat)(t:Trace)(i:Nat)(u:Trace):Prop:=∀op∈u,∀a,op.act.touch?=some a->a.kind=.atomic/\(a.loc.isMemory=true->RV kk OO B a.loc)/\∀n b,touchAt t n=some b->b.loc=a.loc->b.kind=.plain->Knows t i n
def dX.Y0(h:dX Z kk OO J M w t)(d:∀op∈u,op.g=i)(s:w'.heap.size=w.heap.size)(v:Calm Z w w')(hb:∀b,Kept kk OO w w' b)(y:∀op∈u,op.act.low w.heap.size)(q:H3 kk OO w.heap.size t i u)
 (l:∀m op a,u[m]?=some op->op.act.touch?=some a->a.loc.isMemory=true->Told Z J M (t++u) (t.size+m) a):dX Z kk OO J M w' (t++u):=
 h.AO (λa b=>a=b) s v hb y (λa b e n x _ _ _ z=>by subst e;exact z.app u) am am am h.om
  (fun said=>noRace_append (h.clean said) d λn a o op c b hb A=>by
    obtain⟨f,k,B⟩:=q op c b hb;obtain⟨C,_,_,D⟩:=A
    grind)
  (λop c a o r=>(q op c a o).2.1 r) l
  (λn a o r h=>h.elim (λ⟨j,f,k⟩=>.inr (.inl ⟨j,f,k.app _⟩)) (λ⟨p,f,k⟩=>.inr (.inr (.inl ⟨p,f,k.app _⟩))))
def dX.sync(h:dX Z kk OO J M w t)(hJ:i=0\/J i)(c:∀op∈u,op.g=i)(e:w'.heap.size=w.heap.size)(f:Calm Z w w')(hb:∀b,Kept kk OO w w' b)(j:∀op∈u,op.act.low w.heap.size)(k:H3 kk OO w.heap.size t i u):dX Z kk OO J M w' (t++u):=
 h.Y0 c e f hb j k λm op a l n o=>by
  have d:Knows (t++u) i _:=knows_own l am;rcases hJ with rfl|hJ
  . exact .inl d
  . exact .inr (.inl ⟨i,hJ,d⟩)
variable{P:Rg}{A:dq}{s:MS P}{gsz j:Nat}{x:cL P}{sh:Mu.Sh}
theorem vn(hj:j<A.n)(h:x.busy=(s.w j).busy)  i :jf P A (s.bW j x sh) i↔jf P A s i:=by
 have:∀l,((s.bW j x sh).w l).busy=(s.w l).busy:=(by grind [bV,dW]);unfold jf;simp  [this];rfl
theorem Tp{a:Touch}{l ad}(h:Fb A a.loc)(e:a.loc=.cell ad)(b:ad.block=A.fb/\ad.off=A.cell l):False:=by rw[e]at h;obtain⟨_,h⟩:=h;rw[b.1,b.2]at h;unfold dq.cell at h;omega
def fP.Mm(h:fP P A Z s kk OO J M gsz w t){s':MS P}(d:A.dir=true->∀l,l<A.n->(s'.w l).mH=(s.w l).mH/\(s'.w l).owns=(s.w l).owns)(r:∀op∈u,∀a,op.act.touch?=some a->Fb A a.loc):
 A.dir=true->∀j,j<A.n->((s'.w j).mH=false->(∀i,(kk i).cell A.fb (A.cell j)=none)/\∀m a ad,touchAt (t++u) m=some a->a.loc=.cell ad->ad.block=A.fb/\ad.off=A.cell j->m<Z.N0)/\((s'.w j).rel=true->(kk (A.b+j)).cell A.fb (A.cell j)=some (A.val j)):=λhd l c=>by
 obtain⟨g,k⟩:=d hd l c;rw[cL.rel,g,k];exact⟨λf=>⟨((h.Fc hd l c).1 f).1,λm a ad o e p=>(iN o).elim (λq=>((h.Fc hd l c).1 f).2 m a ad q.1 e p) (by grind [Tp])⟩,(h.Fc hd l c).2⟩
def fP.DQ(h:fP P A Z s kk OO J M gsz w t)(hj:j<A.n)(k:x.busy=(s.w j).busy)(I:x.owns=(s.w j).owns)(z:A.dir=true->x.mH=(s.w j).mH)(B:du A.n (s.bW j x sh))(m:ShM A.fb A.fo w' sh)
 (d:∀b,b≠A.fb->w'.heap[b]?=w.heap[b]?) (o:∃c e,w'.heap[A.fb]?=some (.cells c e (0,0))) (K:∀op∈u,(∀a,op.act.touch?=some a->a.kind=.atomic/\Fb A a.loc)/\∀a,op.act≠.mark (.release a)):
 fP P A Z (s.bW j x sh) kk OO J M gsz w' (t++u):=by
 have g:∀l,((s.bW j x sh).w l).owns=(s.w l).owns:=(by grind [bV,dW])
 refine⟨B,h.size,h.dd,h.off,h.Mm (λhd l _=>⟨?_,g l⟩) am,λhd=>by rw[d _ A.d1];exact h.Gq hd,m,h.gr.same (.of_heap (d _ (vj A.d4))),o,by rw[d _ (vj A.d4)];exact h.Fx,h.lq,h.jr,λi y C=>?_,λl D p=>h.Fy l D am,λp=>h.Wj am,λc E=>?_,
  λi=>by rw[h.hJ i];grind [vn],h.B1 u,h.sR u,h.pW u (λop q a F _ G=>?_),h.vm u (λop q a F _ G=>?_),h.wJ u,h.oO u am,h.JX,h.zc,h.px,h.jT,h.la,by simp;exact FL h.n0 (Iq _ _)⟩
 . grind [bV,dW]
 . obtain⟨l,f,r,v,L,H⟩:=h.tok i y C
   exact⟨l,f,r,v,am,H⟩
 . obtain⟨r,v⟩:=h.Wk c E
   grind
 . grind
 grind
def fP.work(h:fP P A Z s kk OO J M gsz w t)(hj:j<A.n)(o:(s.w j).work=true)(p:x.work=true)(k:x.owns=(s.w j).owns)(f:A.dir=true->x.mH=(s.w j).mH)(l:du A.n (s.bW j x sh))(g:ShM A.fb A.fo w' sh)
 (d:∀b,b≠A.fb->w'.heap[b]?=w.heap[b]?) (i:∃c e,w'.heap[A.fb]?=some (.cells c e (0,0))) (m:∀op∈u,(∀a,op.act.touch?=some a->a.kind=.atomic/\Fb A a.loc)/\∀a,op.act≠.mark (.release a)):
 fP P A Z (s.bW j x sh) kk OO J M gsz w' (t++u):=
 h.DQ hj (by simp_all [eS]) k f l g d i m
def H4 {y s fr f l e cs} (b:FR y s fr) (h:ck s=some (f,l)) (c:Ext P f e):mayWake P (G fr cs)=true:=by
 obtain⟨ο,i,μ,kk,o,as,d,g,j,k,m,a,n⟩:=gh b h;obtain⟨fn,p,q,r,t,u⟩:=c.ex;have v:fr.mode = .run:=by rw[a];rfl
 have w:fr.todo = .inRegion ο (i :: μ) :: kk:=by rw[a];rfl
 unfold mayWake;simp only[G,Frame.eval]
 grind
def ajL{n b o ν cs g}(C:kX P n)(X:kY P n)(h:uJ P n b o ν .give cs g):mayWake P g=true:=by
 obtain⟨c,y,fr,d,e,i,a,f,rfl⟩:=h;rcases e with rfl|rfl
 . exact H4 a (C.o26 b o ν) X.uV
 . exact H4 a (C.o27 b o ν) X.uV
def vo{b o w w'}(h:MW b o w w')(a:∃c e,w.heap[b]?=some (.cells c e (0,0))):
 w'.heap.size=w.heap.size/\(∀r,r≠b->w'.heap[r]?=w.heap[r]?)/\∃c e c',w.heap[b]?=some (.cells c e (0,0))/\w'.heap[b]?=some (.cells c' e (0,0))/\c'.size=c.size/\∀n,n≠o->n≠o+1->c'[n]?=c[n]?:=by
 obtain⟨c,e,a⟩:=a;rcases h.2 with h|⟨i,v,f,g,h⟩
 . grind
 . refine⟨aq,λr d=>?_,c,e,c.setIfInBounds i v,a,?_,ap,λn j k=>?_⟩
   . rw[h];simp  [World.setCell,J8,wN (vj d)]
   . rw[h];simp[World.setCell,J8,a]
   grind
def fP.calm(h:fP P A Z s kk OO J M gsz w t)(a:MW A.fb A.fo w w'):Calm Z w w':=by obtain⟨b,c,_⟩:=vo a h.BZ;have:=h.jT.2.1;exact⟨a.1,am⟩
def fP.kept(h:fP P A Z s kk OO J M gsz w t)(a:MW A.fb A.fo w w'):∀b,Kept kk OO w w' b:=λb=>by
 obtain⟨u,d,c,e,f,j,k,l,v⟩:=vo a h.BZ;by_cases hb:b=A.fb
 . subst hb
   refine .inr (.inr ⟨c,f,e,j,k,l,λi x m=>by obtain⟨_,g,_,_,_,rfl,o⟩:=h.tok i x m;exact⟨g,rfl,λn p=>by have:=(o n p).2;unfold dq.cell at this;grind⟩,λn=>?_⟩);by_cases q:n=A.fo
   . subst q;exact .inr λi=>(h.jr i).1
   . by_cases r:n=A.fo+1
     . subst r;exact .inr λi=>(h.jr i).2.1
     grind
 . exact .inl (d b hb)
def fP.acF(h:fP P A Z s kk OO J M gsz w t){n}(a:n=A.fo\/n=A.fo+1):RV kk OO w.heap.size (.cell ⟨A.fb,n,none⟩):=by
 have b:A.fb<w.heap.size:=by obtain⟨c,e,f⟩:=h.BZ;grind
 refine⟨b,λi=>⟨λd=>?_,?_⟩⟩
 . obtain⟨_,_,_,_,e⟩:=h.Xt d
   have e:n=A.fo+2+_:=e;omega
 . rcases a with rfl|rfl
   . exact(h.jr i).1
   . exact(h.jr i).2.1
def uy{b o e}(c:(e.loc=.mark .disable\/e.loc=.mark .enable)\/∃i,(i=o\/i=o+1)/\e.loc=.cell ⟨b,i,none⟩/\e.sync=true):
 (∀a,(MemAct.ofEvent e).touch?=some a->a.kind=.atomic/\∃i,(i=o\/i=o+1)/\a.loc=.cell ⟨b,i,none⟩)/\(∀a,MemAct.ofEvent e≠.mark (.release a))/\∀B,b<B->(MemAct.ofEvent e).low B:=by
 obtain⟨loc,wr,g⟩:=e;rcases c with(h|h)|⟨i,j,h,k⟩
 . subst h
   simp[MemAct.ofEvent,MemAct.touch?,MemAct.low]
 . subst h
   simp[MemAct.ofEvent,MemAct.touch?,MemAct.low]
 . subst h;refine⟨λa d=>?_,by simp[MemAct.ofEvent],λB f=>by simpa[MemAct.ofEvent,MemAct.low,Loc.low]using f⟩
   simp  [MemAct.ofEvent,MemAct.touch?]at d
   grind
def fP.Tq(h:fP P A Z s kk OO J M gsz w t){es}(p:EvM A.fb A.fo es){i}(hi:dA P A s i)  fn   pos :
 H3 kk OO w.heap.size t i (MemOp.ofEvents i fn pos es)/\(∀op∈MemOp.ofEvents i fn pos es,op.act.low w.heap.size)/\∀op∈MemOp.ofEvents i fn pos es,(∀a,op.act.touch?=some a->a.kind=.atomic/\Fb A a.loc)/\∀a,op.act≠.mark (.release a):=by
 have v:A.fb<w.heap.size:=by obtain⟨c,e,f⟩:=h.BZ;grind
 refine⟨λop d a j=>?_,λop d=>?_,λop d=>?_⟩<;>obtain⟨e,k,rfl⟩:=zj d<;>obtain⟨o,q,x⟩:=uy (p e k)
 . obtain⟨f,n,l,g⟩:=o a j
   refine⟨f,λ_=>by rw[g];exact h.acF l,λm b hb r u=>h.quiet m b hb ?_ u i hi⟩
   rw[r,g];exact⟨rfl,am⟩
 . grind
 . refine⟨λa j=>?_,q⟩
   obtain⟨f,n,l,g⟩:=o a j;exact⟨f,by rw[g];exact⟨rfl,.inl ⟨rfl,l⟩⟩⟩
end
structure jU{P}(A:dq)(s s':MS P)  i :Prop where
 w:∀l,l<A.n->A.b+l≠i->s'.w l=s.w l
 c:i≠A.cl->s'.c=s.c
 ms:i≠0->s'.ms=s.ms
 sp:s'.sp=s.sp
 d:s'.d=s.d
 mU:(∀l,l<A.n->(s'.w l).mU=(s.w l).mU)\/((gV P A s 0->∃m,s.ms=.add m\/s.ms=.spawn m)/\s.ms≠.parked)
section
variable{P:Rg}{A:dq}{Fin:ZD}{Z:Base}{s s':MS P}{f f':Nat->Node P}{q q':Ct}{kk kk':Zz}{OO OO':ZF}{J J' M:ZA}{gs:Da}{gsz:Nat}{w w':World}{t u:Trace}{i:Nat}{g g1:YB}
theorem DR(h:∀l,l<A.n->(s'.w l).mU=(s.w l).mU):MS.rem P A.n s'=MS.rem P A.n s:=by
 unfold MS.rem
 grind [List.filter_congr]
def jU.live(h:jU A s s' i){j}(hj:j≠i):gV P A s' j↔gV P A s j:=by
 constructor<;>rintro(⟨b,a⟩|⟨l,a,d,e⟩|⟨b,a⟩)
 . exact .inl ⟨b,by rw[<-h.ms ac];omega⟩
 . exact .inr (.inl ⟨l,a,d,by rw[<-h.w l a ac];omega⟩)
 . exact .inr (.inr ⟨b,by rw[<-h.c ac];omega⟩)
 . exact .inl ⟨b,by rw[h.ms ac];omega⟩
 . exact .inr (.inl ⟨l,a,d,by rw[h.w l a ac];omega⟩)
 . exact .inr (.inr ⟨b,by rw[h.c ac];omega⟩)
def jU.walk(h:jU A s s' i){j}(hj:j≠i):ln P A s' j↔ln P A s j:=by
 constructor<;>rintro(⟨b,a⟩|⟨l,a,d,e⟩|⟨b,a⟩)
 . exact .inl ⟨b,by rw[<-h.ms ac];omega⟩
 . exact .inr (.inl ⟨l,a,d,by rw[<-h.w l a ac];omega⟩)
 . exact .inr (.inr ⟨b,by rw[<-h.c ac];omega⟩)
 . exact .inl ⟨b,by rw[h.ms ac];omega⟩
 . exact .inr (.inl ⟨l,a,d,by rw[h.w l a ac];omega⟩)
 . exact .inr (.inr ⟨b,by rw[h.c ac];omega⟩)
def jU.held(h:jU A s s' i){j}(hj:j≠i):ki P A s' j↔ki P A s j:=by
 constructor<;>rintro(⟨b,a⟩|⟨l,a,c,d⟩)
 . exact .inl ⟨b,by rw[<-h.ms ac];omega⟩
 . exact .inr ⟨l,a,c,by rw[<-h.w l a ac];omega⟩
 . exact .inl ⟨b,by rw[h.ms ac];omega⟩
 . exact .inr ⟨l,a,c,by rw[h.w l a ac];omega⟩
def r8  I  (t:jU A s s' i) (K:∀j,j≠i->f' j=f j) (L:∀j,j≠i->q' j=q j) (M:∀j,j≠i->j<A.b+A.n+1->kk' j=kk j) (N:∀j,j≠i->j<A.b+A.n+1->OO' j=OO j) (W:∀j,j≠i->J j->J' j)
 (o:((s.sh.ms=0->s'.sh.ms=0)/\(s.gm=0->s'.gm=0))\/(mayWake P g=true/\(g1.status=.running\/g1.status=.finished))) (Q:∀{i k O y},M6 P A Fin s i k O y->y.status=.running/\y.offers=none):
 Beside (dG P A Fin Z I) s s' f f' q q' kk kk' OO OO' J J' w' i g g1:=by
 have hb:=A.hb;have wl:∀{j l:Nat},l<A.n->j≠i->j=A.b+l->s'.w l=s.w l:=λ{j l} E a e=>t.w l E ac
 have x:∀{j:Nat},j≠i->j=0->s'.ms=s.ms:=λa e=>t.ms ac
 have R:∀{j:Nat},j≠i->j=A.cl->s'.c=s.c:=λa e=>t.c ac
 refine⟨K,L,M,N,am,λj a=>t.live a,λj a=>t.walk a,λj a=>t.held a,λj a E=>?_,λj k O y a _ F=>?_,λj a H=>?_,λj a H hd=>?_,λj k O y a S F=>?_,λj y a _ T=>?_⟩
 . show eF P A Fin s' j=eF P A Fin s j
   unfold eF;by_cases d:j=0
   . rcases t.mU with u|⟨u,_⟩
     . simp only[wS d,x a d,DR u]
     . subst d
       obtain⟨m,e|e⟩:=u E<;>simp only[ZC,x a rfl,e]
   rcases E with⟨G,_⟩|⟨l,p,r,_⟩|⟨G,_⟩
   . omega
   . have e:j-A.b=l:=ac
     grind
   grind
 . rcases F with⟨d,h⟩|⟨l,p,r,B⟩|⟨d,h⟩
   . exact .inl ⟨d,am⟩
   . exact .inr (.inl ⟨l,p,r,am⟩)
   . exact .inr (.inr ⟨d,am⟩)
 . show iy P A s' j=iy P A s j
   unfold iy;rcases H with⟨d,h1⟩|⟨l,p,r,_⟩|⟨d,_⟩
   . grind
   . grind
   grind
 . rcases o with⟨o,v⟩|⟨hm,u⟩
   . refine .inl ?_
     rcases hd with⟨l,sv,Y,p,r,B,C⟩|⟨d,B,C⟩
     . exact .inl ⟨l,sv,Y,p,r,am,o C⟩
     . exact .inr ⟨d,am,v C⟩
   . refine .inr λy U=>?_
     obtain⟨a1,a2⟩:=Q U;have R:(mayWake P g && g1.status !=.blocked && g1.status !=.waiting)=true:=am
     unfold Go.Conc.woken
     simp_all [Gb]
 . rcases F with⟨d,D,z,p,r,B,C⟩|h
   . rcases t.mU with u|⟨_,u⟩
     . exact .inl ⟨d,D,z,p,r,B,by rw[DR u];exact C⟩
     . rcases S with⟨_,V⟩|⟨l,_,V,_⟩
       . grind
       omega
   . exact .inr h
 . exact λl b X p r B=>T l b X p r am
variable{j:Nat}{x:cL P}{sh:Mu.Sh}
def DQ(hj:j<A.n)(h:x.mU=(s.w j).mU\/((gV P A s 0->∃m,s.ms=.add m\/s.ms=.spawn m)/\s.ms≠.parked)):jU A s (s.bW j x sh) (A.b+j):=⟨(by grind [dW]),λ_=>rfl,λ_=>rfl,rfl,rfl,(by grind [bV,dW])⟩
def wM  c  (hj:j<A.n) (d:x.mU=(s.w j).mU) (e:∀i,i≠A.b+j->f' i=f i) (l:∀i,i≠A.b+j->q' i=q i) (m:∀i,i≠A.b+j->i<A.b+A.n+1->kk' i=kk i) (o:∀i,i≠A.b+j->i<A.b+A.n+1->OO' i=OO i) (p:∀i,i≠A.b+j->J i->J' i)
 (a:(s.sh.ms=0->sh.ms=0)\/(mayWake P g=true/\g1.status=.running)) (r:∀{i k O y},M6 P A Fin s i k O y->y.status=.running/\y.offers=none):
 Beside (dG P A Fin Z c) s (s.bW j x sh) f f' q q' kk kk' OO OO' J J' w' (A.b+j) g g1:=
 r8 c (DQ hj (.inl d)) e l m o p (a.imp (λh=>⟨h,id⟩) am) r
def sS  c  (hj:j<A.n) (o:(s.w j).work=true) (p:x.work=true) (d:∀i,i≠A.b+j->f' i=f i) (e:∀i,i≠A.b+j->q' i=q i) (h:∀i,i≠A.b+j->i<A.b+A.n+1->kk' i=kk i) (l:∀i,i≠A.b+j->i<A.b+A.n+1->OO' i=OO i) (r:∀i,J i->J' i)
 (a:(s.sh.ms=0->sh.ms=0)\/(mayWake P g=true/\g1.status=.running)) (m:∀{i k O y},M6 P A Fin s i k O y->y.status=.running/\y.offers=none):
 Beside (dG P A Fin Z c) s (s.bW j x sh) f f' q q' kk kk' OO OO' J J' w' (A.b+j) g g1:=
 wM c hj (by simp_all [eS]) d e h l am a m
end
def cL.pX{P}:cL P->Bool
 |.lk ..=>true|.un ..=>true|_=>false
def ny{P}{x:cL P}(h:x.pX=true):x.work=true:=by cases x<;>simp_all [cL.pX,cL.work]
section
variable{P:Rg}{A:dq}{Fin:ZD}{Z:Base}{s:MS P}{f:Nat->Node P}{q:Ct}{kk:Zz}{OO:ZF}{J M:ZA}{gs:Da}{w w':World}{t:Trace}{j:Nat}{x:cL P}{sh:Mu.Sh}{g g1:YB}
def CE(hj:j<A.n)(h:(s.w j).busy=true):jf P A s (A.b+j):=.inl ⟨j,hj,rfl,h⟩
def mV(I:du A.n s)(hj:j<A.n)(h:(s.w j).oJ=false):dA P A s (A.b+j):=by
 refine .inr (.inl ⟨j,?_,rfl⟩);have:=I.idle j hj
 grind
def nz(hj:j<A.n)(h:(s.w j).pX=true):ln P A s (A.b+j):=.inr (.inl ⟨j,hj,rfl,by cases e:s.w j<;>simp_all [cL.pX]⟩)
def sT(hj:j<A.n)(h:(s.w j).pX=true):¬gV P A s (A.b+j):=by
 have:=A.hb;rintro(⟨e,_⟩|⟨l,a,c,d⟩|⟨e,_⟩)
 . omega
 . cases e:s.w l<;>simp_all [cL.pX]
 omega
def wO(hj:j<A.n)(h:(s.w j).pX=true):¬ki P A s (A.b+j):=by
 have:=A.hb;rintro(⟨e,_⟩|⟨l,c,d,a⟩)
 . omega
 . obtain rfl:l=j:=ac
   rw[a]at h;cases h
theorem jG(hj:j<A.n):iy P A s (A.b+j)=(s.w j).deaf:=by
 have:=A.hb;unfold iy
 grind
def J2  r  (H:cZ (dG P A Fin Z r) Z s f q kk OO J M gs w t) (hj:j<A.n) (K:(s.w j).work=true){d}(L:Deaf t (A.b+j)=d) (N:¬ki P A s (A.b+j)) (h2:x.pX=true) (ho:x.owns=(s.w j).owns) (Q:A.dir=true->x.mH=(s.w j).mH) (hI:du A.n (s.bW j x sh)) (hL:MS.kS A.n (s.bW j x sh) s)
 (Y:gs[A.b+j]?=some g){es}(R:stepG P false g w=.go g1 w' es) (m:MW A.fb A.fo w w') (S:ShM A.fb A.fo w' sh) (T:EvM A.fb A.fo es) (hd:deafBehind d es=x.deaf)
 (hs:∃n g',n8 P (qI A) n g1 g'/\N9 P A j x (kk (A.b+j)) (OO (A.b+j)) g') (u:(s.sh.ms=0->sh.ms=0)\/(mayWake P g=true/\g1.status=.running))  sl :
 ∃ο m',runT P (crowd gs w sl) (A.b+j)=(.next m',ο)/\∃s' f' q' kk' OO' J' M' gs' v U,m'=crowd gs' v U/\MS.kS A.n s' s/\cZ (dG P A Fin Z r) Z s' f' q' kk' OO' J' M' gs' v (t++ο):=by
 obtain⟨n,g',z,V⟩:=hs;have hb:=A.hb;have B:=cE (P:=P) (A:=A) (Fin:=Fin) (Z:=Z) r;have w2:=ny h2;have o:fP P A Z s kk OO J M gs.size w t:=H.ex;have W:(A.b+j==0)=false:=am
 have C:=runT_crowd_go (P:=P) (sl:=sl) (i:=A.b+j) Y (by rw[W];exact R);have D:dA P A s (A.b+j):=mV o.I hj (eS K).2.2.2.2.1;obtain⟨y1,y2,y3⟩:=o.Tq T D g.frame.fn g.frame.place;have h:∀op∈MemOp.ofEvents (A.b+j) g.frame.fn g.frame.place es,op.g=A.b+j:=(by grind [Go.Conc.mem_ofEvents]);obtain⟨m1,m2,c,e,c',m3,m4,_⟩:=vo m o.BZ;have hP:=H.eU.sync (i:=A.b+j) (.inr ((o.hJ _).2 (by simp_all [CE,eS]))) h m1 (o.calm m) (o.kept m) y2 y1;have E:fP P A Z (s.bW j x sh) kk OO J M gs.size w' (t++MemOp.ofEvents (A.b+j) g.frame.fn g.frame.place es):=o.work hj K w2 ho Q hI S m2 ⟨c',e,m4⟩ y3;have p:Beside (dG P A Fin Z r) s (s.bW j x sh) f f q (upd q (A.b+j) n) kk kk OO OO J J w' (A.b+j) g g1:=sS r hj K w2 am (by grind [upd_ne]) am am am u (λ{i k O y} X=>B.qu (s:=s) (i:=i) (k:=k) (O:=O) (g:=y) X);have a:((s.bW j x sh).w j).pX=true:=by grind [bV]
 refine⟨_,_,C,s.bW j x sh,f,upd q (A.b+j) n,kk,OO,J,M,_,_,_,rfl,hL,?_⟩;refine cZ.step B H Y h hP E (λl y F X=>?_) p ⟨λF=>absurd F (sT hj a),λ_=>⟨sT hj a,?_,?_,g',?_,?_⟩,λhh=>absurd hh (wO hj a),λ_ hn _=>absurd (nz hj a) hn⟩
 . have G:l≠A.b+j:=λe=>N (e ▸ F)
   exact B.zf E ((p.held l G).2 F) _ _ (p.atC l _ _ _ G F X)
 . show A.b+j<A.b+A.n+1;omega
 . rw[Deaf_own,L]
   show deafBehind d es=iy P A (s.bW j x sh) (A.b+j)
   grind [jG,bV]
 . exact .inr (.inl ⟨j,hj,rfl,by rw[bV];exact V⟩)
 . exact .inr (by rw[upd_same];exact z)
def DT  d  (u:cZ (dG P A Fin Z d) Z s f q kk OO J M gs w t) (hj:j<A.n) (e:(s.w j).pX=true) (y:x.pX=true) (z:x.owns=(s.w j).owns) (h:A.dir=true->x.mH=(s.w j).mH) (B:du A.n (s.bW j x sh)) (C:MS.kS A.n (s.bW j x sh) s)
 (D:gs[A.b+j]?=some g){es}(i:stepG P false g w=.go g1 w' es) (k:MW A.fb A.fo w w') (l:ShM A.fb A.fo w' sh) (m:EvM A.fb A.fo es) (hd:deafBehind (s.w j).deaf es=x.deaf)
 (E:∃n g',n8 P (qI A) n g1 g'/\N9 P A j x (kk (A.b+j)) (OO (A.b+j)) g') (a:(s.sh.ms=0->sh.ms=0)\/(mayWake P g=true/\g1.status=.running))  sl :
 ∃ο v,runT P (crowd gs w sl) (A.b+j)=(.next v,ο)/\∃s' f' q' kk' OO' J' M' gs' c o,v=crowd gs' c o/\MS.kS A.n s' s/\cZ (dG P A Fin Z d) Z s' f' q' kk' OO' J' M' gs' c (t++ο):=by
 have p:=nz    hj e;obtain⟨_,_,r,_⟩:=u.walk _ p;exact J2 d u hj (ny e) (r.trans (jG hj)) (wO hj e) y z h B C D i k l m hd E a sl
end
namespace Mu
section
variable{n:Nat}{pcs:Nat->Pc}{s:Sh}{i:Nat}
def Xv{f:Pc->Nat}(h:∀p,f p<=1)(pcs:Nat->Pc)  n :tot n (λi=>f (pcs i))<=n:=by
 have:=LP (f:=λi=>f (pcs i)) (c:=1) am n;omega
def Inv.afa(h:Inv n pcs s):s.w.N<=n+1/\s.ms<=1:=by
 have b:=Xv (f:=eH) (λp=>by cases p<;>simp[eH]) pcs n
 cases e:s.w.S with
 | false=>
   obtain⟨c,_,a⟩:=h.j2 e;have:s.w.K.toNat<=1:=by cases s.w.K<;>simp
   omega
 | true=>
   obtain⟨_,_,a,d⟩:=h.j3 e;have:(!s.w.L).toNat<=1:=by cases s.w.L<;>simp
   omega
def Inv.Xw(h:Inv n pcs s)(hi:i<n)(a:pcs i=.held):s.w.L=true:=by
 have:dQ (pcs i)<=tot n (λj=>dQ (pcs j)):=(by grind [pe]);rw[h.j1,a,show dQ .held=1 from rfl]at this
 grind
def Inv.Z6(h:Inv n pcs s)(hi:i<n){old sv}(a:pcs i=.add old sv):s.w.L=false/\s.w.S=true/\s.w.N≠0:=by
 have:gz (pcs i)<=tot n (λj=>gz (pcs j)):=(by grind [pe]);rw[a,show gz _=1 from rfl]at this;cases e:s.w.S with
 |false=>obtain⟨_,b,_⟩:=h.j2 e;omega
 | true=>
   obtain⟨_,_,c,d⟩:=h.j3 e
   grind
end
def H5:Pc->Bool
 |.rd _=>true|.sq ..=>true|.sw ..=>true|.qe ..=>true|.lx _=>true|.tq=>true|.up _=>true|.add ..=>true|.held=>true|_=>false
def Mn:Pc->Bool
 |.out=>true|.nZ _=>true|.Cl=>true|.give=>true|_=>false
theorem Y1  old   l :H5 (nx old l)=true:=by unfold nx;split<;>rfl
theorem acG{old l p}(h:p∈hd old l):H5 p=true:=by
 unfold hd at h;rw[E4]at h;rcases h with h|h
 . split at h
   . rw[sN]at h;subst h;split<;>rfl
   grind
 . rw[sN]at h;subst h;rfl
def acH{p q s s'}(a:p=.mE\/(H5 p=true/\p≠.held))(h:(q,s')∈mv p s)(c:q≠.bad):H5 q=true:=by
 rcases a with rfl|⟨a,b⟩
 . simp  [mv]at h
   split at h<;>(rw[sN,zG]at h;obtain⟨rfl,rfl⟩:=h;rfl)
 cases p<;>simp  [H5,zA]at a
 case rd l=>simp  [mv,zG]at h;grind [Y1]
 case sq old l=>simp  [mv,CR,zG]at h;grind [acG]
 case sw old l=>simp  [mv]at h;split at h<;>(rw[sN,zG]at h;obtain⟨rfl,rfl⟩:=h;rfl)
 case qe old l=>
  simp  [mv]at h;split at h
  . grind
  split at h
  . rw[sN,zG]at h;obtain⟨rfl,rfl⟩:=h;split<;>rfl
  . rw[sN,zG]at h;obtain⟨rfl,rfl⟩:=h;rfl
 case lx sv=>
  simp only[mv]at h;split at h
  . cases h
  . rw[sN,zG]at h;obtain⟨rfl,rfl⟩:=h;split<;>rfl
 case tq=>
  simp  [mv,Cv,zG,LY,or_false]at h;rcases h with⟨rfl,rfl⟩|⟨rfl,rfl⟩<;>rfl
 case up sv=>
  simp  [mv]at h;split at h
  . split at h
    . grind
    . rw[sN,zG]at h;obtain⟨rfl,rfl⟩:=h;rfl
  grind [Y1]
 case add old sv=>simp  [mv]at h;obtain⟨rfl,rfl⟩:=h;rfl
 grind
def acI{p q s s'}(a:p=.held\/(Mn p=true/\p≠.out))(h:(q,s')∈mv p s)(c:q≠.bad):Mn q=true:=by
 rcases a with rfl|⟨a,b⟩
 . simp  [mv]at h
   split at h
   . grind
   . rw[sN,zG]at h
     obtain⟨rfl,rfl⟩:=h;split
     . rfl
     split
     . rfl
     split<;>rfl
 cases p<;>simp  [Mn]at a
 case out=>grind
 case nZ old=>simp  [mv]at h;split at h<;>(rw[sN,zG]at h;obtain⟨rfl,rfl⟩:=h;rfl)
 case Cl=>simp  [mv]at h;obtain⟨rfl,rfl⟩:=h;split<;>rfl
 case give=>simp  [mv]at h;obtain⟨rfl,rfl⟩:=h;rfl
def Y2{p q s s'}(b:p≠.give)(h:(q,s')∈mv p s)(a:s.ms=0):s'.ms=0:=by
 cases p<;>simp only[mv]at h
 case give=>grind
 case sq=>grind
 case tq=>grind
 all_goals repeat' split at h
 all_goals first
  |(cases h;done)
  |(rw[sN,zG]at h;obtain⟨_,rfl⟩:=h;first|exact a|(show s.ms-1=0))
end Mu
def Bi:Hy->Bool
 |.mE=>true|.rd _=>true|.sq ..=>true|.sw ..=>true|.qe ..=>true|.lx _=>true|.tq=>true|.up _=>true|.add ..=>true|.held=>true|.nZ _=>true|.Cl=>true|.give=>true
 |_=>false
def Tr{q p}(h:To q p):p.abs=q:=by cases h<;>rfl
def acJ{q p}(h:To q p)(a:Mu.H5 q=true):JV p=true/\p≠.ld/\p≠.la:=by cases h<;>simp_all [Mu.H5,JV]
def acK{q p}(h:To q p)(a:Mu.Mn q=true):Fw p=true/\p≠.NL/\p≠.ur/\p≠.ud:=by cases h<;>simp_all [Mu.Mn,Fw]
def Ts{q p}(h:To q p):q≠.bad:=by cases h<;>simp
section
variable{P:Rg}{nm:Jl}(C:kX P nm)(X:kY P nm){n:Nat}{pcs:Nat->Mu.Pc}{s:Mu.Sh}{i:Nat}{p:Hy}{b o:Nat}{ν:FB}{Wd:FD}{cs:E8}{g:YB}{w:World}{γ:Bool}
include C X in
def J3(I:Mu.Inv n pcs s)(hi:i<n)(v:n<=900)(c:pcs i=p.abs)(f:Bi p=true)(a:ShM b o w s)(h:uJ P nm b o ν p cs g):
 rz P nm b o ν Wd cs g w γ p.abs s\/((∃sv,p=.lx sv)/\s.ms=0/\stepG P γ g w=.go {g with status:=.blocked} w #[]):=by
 obtain⟨x,k⟩:=I.afa;have hb:s.w.N<=1000:=ac
 have j:∀{q s'},(q,s')∈Mu.mv (pcs i) s->Mu.loc q:=λ{q s'} f=>by
  have:=(I.step hi f).j0 i hi
  rwa [Mu.aj]at this
 have d:Mu.loc (pcs i):=I.j0 i hi;rw[c]at j d;cases p<;>simp only[Bi,zA]at f
 case mE=>exact .inl (chN C X a h)
 case rd l=>exact .inl (WU C X a hb (j (q:=Mu.nx s.w l) (s':=s) (by simp[Hy.abs,Mu.mv])) h)
 case sq old l=>exact .inl (WV C X a d h)
 case sw old l=>exact .inl (WW C X a d h)
 case qe old l=>exact .inl (Sn C X a d h)
 case lx sv=>
  by_cases e:s.ms=0
  . exact .inr ⟨⟨sv,rfl⟩,e,afX C X a e h⟩
  . exact .inl (bkB C X a e h)
 case tq=>exact .inl (WZ C X a h)
 case up sv=>exact .inl (W2 C X a hb (λq s' m=>j m) h)
 case add old sv=>obtain⟨r,t,u⟩:=I.Z6 hi c;exact .inl (So C X a hb r t u h)
 case held=>exact .inl (ajy C X a hb (I.Xw hi c) h)
 case nZ old=>exact .inl (aju C X a h)
 case Cl=>exact .inl (Sp C X a hb h)
 case give=>exact .inl (ajt C X a ac h)
end
section
variable{P:Rg}{A:dq}{Fin:ZD}{Z:Base}{s:MS P}{f:Nat->Node P}{q:Ct}{kk:Zz}{OO:ZF}{J M:ZA}{gs:Da}{w:World}{t:Trace}{j:Nat}{g:YB}
def Goes  P  (A:dq) (Fin:ZD) (Z:Base) (f:A.b+A.n+1<=Z.lk) (s:MS P) (gs:Da) (w:World) (t:Trace) (sl:Option (Nat × Nat)) (i:Nat):Prop:=∃ο e,runT P (crowd gs w sl) i=(.next e,ο)/\∃s' f' q' kk' OO' J' M' a c d,e=crowd a c d/\MS.kS A.n s' s/\cZ (dG P A Fin Z f) Z s' f' q' kk' OO' J' M' a c (t++ο)
def Mp  P  (A:dq) (s:MS P) (gs:Da) (w:World) (sl:Option (Nat × Nat)) (i:Nat) (g:YB):Prop:=Z3 P A s i/\runT P (crowd gs w sl) i=(.next (crowd (gs.setIfInBounds i (blk g)) w sl),#[])
def afd(e:gs[A.b+j]?=some g)(a:stepG P false g w=.go {g with status:=.blocked} w #[])  sl :runT P (crowd gs w sl) (A.b+j)=(.next (crowd (gs.setIfInBounds (A.b+j) (blk g)) w sl),#[]):=by
 have hb:=A.hb;have c:(A.b+j==0)=false:=am
 have h:=runT_crowd_go  (sl:=sl)  e (by rw[c];exact a)
 have d:woken P g {g with status:=.blocked} w=id:=funext λo=>by unfold Go.Conc.woken;simp
 rw[d,Array.map_id]at h;exact h
variable(C:kX P A.nm)(X:kY P A.nm)
include C X in
def Xx  G  (H:cZ (dG P A Fin Z G) Z s f q kk OO J M gs w t) (hj:j<A.n){p Y}(a:s.w j=.lk p Y) (K:gs[A.b+j]?=some g) (V:N9 P A j (.lk p Y) (kk (A.b+j)) (OO (A.b+j)) g) (W:p≠.la)  sl :
 Goes P A Fin Z G s gs w t sl (A.b+j)\/Mp P A s gs w sl (A.b+j) g:=by
 have m:fP P A Z s kk OO J M gs.size w t:=H.ex;have a7:JV p=true:=by have:=m.I.ok j hj;rw[a]at this;exact this
 have L:(s.w j).pX=true:=by rw[a];rfl
 have v:=ny L;have l:(s.w j).pc=p.abs:=by rw[a];rfl
 have hn:=A.hn;have hb:=A.hb;have ay:(A.b+j==0)=false:=F2
 obtain⟨ν,c,μ,e,Q,R,S,T,o,r,U⟩:=V
 by_cases N:Bi p=true
 . rcases J3 (Wd:=qI A) (γ:=false) C X m.I.mu hj hn l N m.mu R with⟨g1,w',es,qq,s',z,i,B,D,⟨hr,E,⟨k,d⟩,F⟩,a8,a9,ab,ad⟩|⟨⟨sv,rfl⟩,u,i⟩
   . left
     have al:Mu.H5 qq=true:=Mu.acH (by cases p<;>simp_all [JV,Bi,Hy.abs,Mu.H5]) B (Ts D)
     obtain⟨k1,k2,k3⟩:=acJ D al;have y:((cL.lk z Y).pc,s')∈Mu.mv (s.w j).pc s.sh:=by rw[l,show(cL.lk z Y).pc=z.abs from rfl,Tr D];exact B
     have av:(s.w j).deaf=1:=by rw[a];cases p<;>simp_all [cL.deaf,Bi,JV]
     have ax:(cL.lk z Y).deaf=1:=by cases z<;>simp_all [cL.deaf]
     refine DT (x:=.lk z Y) G H hj L rfl (by rw[a];rfl) (λ_=>by rw[a];rfl) (m.I.mv hj v rfl k1 y) (Ob m.I hj v rfl (by rw[a];rfl) y ?_) K i a8 a9 ab (by rw[ad,av,ax]) ⟨k,E,d,ν,c,μ,e,Q,F,S,T,o,r,U⟩ (.inl λu=>Mu.Y2 ?_ B u) sl
     . cases z<;>simp_all [cL.ex]
     . cases p<;>simp_all [Bi,JV,Hy.abs]
   . right
     exact⟨.inl ⟨j,sv,Y,hj,rfl,a,u⟩,afd K i sl⟩
 . cases p<;>simp only[Bi,JV,not_true_eq_false,zA]at N a7
   case ld=>obtain⟨g1,i,hr,E,⟨k,d⟩,F⟩:=Hz (Wd:=qI A) (γ:=false) (w:=w) C X R;left;exact DT (x:=.lk .mE Y) (sh:=s.sh) G H hj L rfl (by rw[a];rfl) (λ_=>by rw[a];rfl) (m.I.enq hj v rfl rfl l rfl) (Tn hj v rfl (by rw[a];rfl) l rfl (by rw[a];rfl) rfl) K i (cH rfl) m.mu (λe O=>by simp at O;subst O;exact .inl (.inl rfl)) (by rw[a];rfl) ⟨k,E,d,ν,c,μ,e,Q,F,S,T,o,r,U⟩ (.inl λu=>u) sl
   case t1 sv=>obtain⟨g1,i,hr,E,⟨k,d⟩,F⟩:=WR (Wd:=qI A) (γ:=false) (w:=w) C X R;left;exact DT (x:=.lk (.lx sv) Y) (sh:=s.sh) G H hj L rfl (by rw[a];rfl) (λ_=>by rw[a];rfl) (m.I.still hj v rfl rfl (by rw[l];rfl)) (r7 hj v rfl (by rw[a];rfl) (by rw[l];rfl) (by rw[a];simp[cL.ex])) K i (cH rfl ⟨⟨w.tick,rfl⟩,rfl⟩) (m.mu.heap rfl) kD (by rw[a];rfl) ⟨k,E,d,ν,c,μ,e,Q,F,S,T,o,r,U⟩ (.inl λu=>u) sl
   case le=>
    obtain⟨g1,i,hr,E,⟨k,d⟩,F⟩:=NR (Wd:=qI A) (γ:=false) (w:=w) C X (λw h=>h.2.2) R
    left;exact DT (x:=.lk .la Y) (sh:=s.sh) G H hj L rfl (by rw[a];rfl) (λ_=>by rw[a];rfl) (m.I.still hj v rfl rfl (by rw[l];rfl)) (r7 hj v rfl (by rw[a];rfl) (by rw[l];rfl) (by rw[a];simp[cL.ex])) K i (cH rfl) m.mu (λe O=>by simp at O;subst O;exact .inl (.inr rfl)) (by rw[a];rfl) ⟨k,E,d,ν,c,μ,e,Q,F,S,T,o,r,U⟩ (.inl λu=>u) sl
   case la=>exact absurd rfl W
end
section
variable{P:Rg}{A:dq}{Fin:ZD}{Z:Base}{s:MS P}{f:Nat->Node P}{q:Ct}{kk:Zz}{OO:ZF}{J M:ZA}{gs:Da}{w:World}{t:Trace}{j:Nat}{g:YB}
variable(C:kX P A.nm)(X:kY P A.nm)
include C X in
def Xy  B  (L:cZ (dG P A Fin Z B) Z s f q kk OO J M gs w t) (hj:j<A.n){p Y}(a:s.w j=.un p Y) (Q:gs[A.b+j]?=some g) (R:N9 P A j (.un p Y) (kk (A.b+j)) (OO (A.b+j)) g) (S:p≠.ur) (T:p≠.ue)  sl :
 Goes P A Fin Z B s gs w t sl (A.b+j):=by
 have m:fP P A Z s kk OO J M gs.size w t:=L.ex;have F:Fw p=true:=by have:=m.I.ok j hj;rw[a]at this;exact this
 have N:(s.w j).pX=true:=by rw[a];rfl
 have D:=ny N;have i:(s.w j).pc=p.abs:=by rw[a];rfl
 have hn:=A.hn;have hb:=A.hb;obtain⟨ν,c,μ,U,O,V,W,G⟩:=R
 by_cases u:Bi p=true
 . have a7:¬(p=.NL\/p=.ur):=by rintro(rfl|rfl)<;>cases u
   have hN:=G a7
   rcases J3 (Wd:=qI A) (γ:=false) C X m.I.mu hj hn i u m.mu O with⟨g1,w',es,qq,s',o,l,y,z,⟨hr,H,⟨k,d⟩,K⟩,a8,a9,ab,ad⟩|⟨⟨sv,rfl⟩,E,l⟩
   . have al:Mu.Mn qq=true:=Mu.acI (by cases p<;>simp_all [Fw,Bi,Hy.abs,Mu.Mn]) y (Ts z)
     obtain⟨k1,k2,k3,k4⟩:=acK z al;have r:((cL.un o Y).pc,s')∈Mu.mv (s.w j).pc s.sh:=by rw[i,show(cL.un o Y).pc=o.abs from rfl,Tr z];exact y
     have av:(s.w j).deaf=1:=by rw[a];cases p<;>simp_all [cL.deaf,Bi,Fw]
     have ax:(cL.un o Y).deaf=1:=by cases o<;>simp_all [cL.deaf]
     have ay:(s.w j).owns=false:=by rw[a];cases p<;>simp_all [cL.owns,Bi,Fw]
     have aC:(cL.un o Y).owns=false:=by cases o<;>simp_all [cL.owns]
     refine DT (x:=.un o Y) B L hj N rfl (by rw[ay,aC]) (λ_=>by rw[a];rfl) (m.I.mv hj D rfl k1 r) (Ob m.I hj D rfl (by rw[a];rfl) r ?_) Q l a8 a9 ab (by rw[ad,av,ax]) ⟨k,H,d,ν,c,μ,U,K,V,λh=>absurd h (λh=>h.elim k2 k3),λ_=>hN⟩ ?_ sl
     . cases o<;>simp_all [cL.ex]
     . by_cases aE:p=.give
       . subst aE;exact .inr ⟨ajL C X O,hr⟩
       . refine .inl λE=>Mu.Y2 ?_ y E
         cases p<;>simp_all [Bi,Fw,Hy.abs]
   . exact absurd F (by simp[Fw])
 . cases p<;>simp only[Bi,Fw,not_true_eq_false,zA]at u F
   case NL=>
    obtain⟨v,hv⟩:=((cE (P:=P) (A:=A) (Fin:=Fin) (Z:=Z) B).wd m).2.2;obtain⟨g1,l,hr,H,⟨k,d⟩,K⟩:=Dt (Wd:=qI A) (γ:=false) (w:=w) C X (λw h=>h.2.2) hv O
    exact DT (x:=.un .ur Y) (sh:=s.sh) B L hj N rfl (by rw[a];rfl) (λ_=>by rw[a];rfl) (m.I.still hj D rfl rfl (by rw[i];rfl)) (r7 hj D rfl (by rw[a];rfl) (by rw[i];rfl) (by rw[a];simp[cL.ex])) Q l (cH rfl) m.mu kD (by rw[a];rfl) ⟨k,H,d,ν,c,μ,U,K,V,λ_=>W (.inl rfl),λh=>absurd (.inr rfl) h⟩ (.inl λE=>E) sl
   case ud=>
    have hN:=G (by rintro(h|h)<;>cases h)
    obtain⟨g1,l,hr,H,⟨k,d⟩,K⟩:=NN (Wd:=qI A) (γ:=false) (w:=w) C X O;exact DT (x:=.un .held Y) (sh:=s.sh) B L hj N rfl (by rw[a];rfl) (λ_=>by rw[a];rfl) (m.I.still hj D rfl rfl (by rw[i];rfl)) (r7 hj D rfl (by rw[a];rfl) (by rw[i];rfl) (by rw[a];simp[cL.ex])) Q l (cH rfl) m.mu (λe he=>by simp at he;subst he;exact .inl (.inl rfl)) (by rw[a];rfl) ⟨k,H,d,ν,c,μ,U,K,V,λh=>absurd h ap,λ_=>hN⟩ (.inl λE=>E) sl
   case ur=>exact absurd rfl S
   case ue=>exact absurd rfl T
end
def TT.acL{P m K O g1 a}(h:zd P (λ_=>True) g1 a)(e:TT P m K O a):TT P m K O g1:=.step (λb c d=>b=K/\c=O/\d=a) h.1 (λb c d f=>by obtain⟨rfl,rfl,rfl⟩:=f;exact e) (λw g=>⟨a,w,#[],K,O,h.2 _ w trivial,Eff.refl _ _ _,g,rfl,rfl,rfl⟩)
theorem TT.J5{P m K O g1 b}  h   a  {z:Node P}(c:vT z ⟨m,K,O,g1,TT.acL h a⟩):z=⟨m,K,O,b,a⟩:=by
 cases c with
 |step _ _ _ _ d=>obtain⟨rfl,rfl,rfl⟩:=d;rfl
def TT.pre{P m K O}:∀{k g1 a},n8 P (λ_=>True) k g1 a->(X:TT P m K O a)->∃T ,B0 ⟨m,K,O,g1,T⟩ ⟨m,K,O,a,X⟩
 |0,g1,a,h,X=>by obtain rfl:g1=a:=h;exact⟨X,.refl _⟩
 | k + 1,g1,a,⟨c,e,h⟩,X=>by
   obtain⟨b,f⟩:=TT.pre h X;refine⟨TT.acL e b,λy hy d=>?_⟩;rcases hy with rfl|hy
   . exact d.elim
   . have:y=⟨m,K,O,c,b⟩\/Relation.TransGen vT y ⟨m,K,O,c,b⟩:=by
      cases hy with
      |single h=>grind [TT.J5]
      |tail g i=>grind [TT.J5]
     exact f y this d
section
variable{P:Rg}{A:dq}{Fin:ZD}{Z:Base}{s:MS P}{f:Nat->Node P}{q:Ct}{kk:Zz}{OO:ZF}{J M:ZA}{gs:Da}{w:World}{t:Trace}{j:Nat}{g:YB}
def pY(hj:j<A.n){h X}(e:s.w j=.run h X):gV P A s (A.b+j):=.inr (.inl ⟨j,hj,rfl,aq⟩)
def Bj(hj:j<A.n){h X}(e:s.w j=.run h X):¬ln P A s (A.b+j):=by
 have:=A.hb;rintro(⟨e,_⟩|⟨l,a,c,d⟩|⟨e,_⟩)
 . omega
 . grind
 omega
def py(hj:j<A.n){h X}(e:s.w j=.run h X):¬ki P A s (A.b+j):=by
 have:=A.hb;rintro(⟨e,_⟩|⟨l,a,c,d⟩)
 . omega
 grind
def uz(hj:j<A.n){h X}(e:s.w j=.run h X):eF P A Fin s (A.b+j)=mT P A j:=by
 have:=A.hb;unfold eF
 grind
variable(C:kX P A.nm)(X:kY P A.nm)(F:sz P A.nm)
include C X F in
def Xz  z  (D:cZ (dG P A Fin Z z) Z s f q kk OO J M gs w t) (hj:j<A.n){Y}(E:s.w j=.un .ue Y) (hg:gs[A.b+j]?=some g) (W:N9 P A j (.un .ue Y) (kk (A.b+j)) (OO (A.b+j)) g) (d:A.dir=false)  sl :
 Goes P A Fin Z z s gs w t sl (A.b+j):=by
 have p:fP P A Z s kk OO J M gs.size w t:=D.ex;have B:=cE (P:=P) (A:=A) (Fin:=Fin) (Z:=Z) z;have h1:(s.w j).pX=true:=by rw[E];rfl
 have u:=ny h1;have hb:=A.hb;have a7:(A.b+j==0)=false:=F2
 obtain⟨ν,c,μ,hk,hM,hm,ax,a8⟩:=W;have G:=a8 ap
 rw[show Lt P A Y.N=Y.N by simp[Lt,d]]at G
 obtain⟨g1,a9,hr,g2,H,K⟩:=HA (Wd:=λ_=>True) (γ:=false) (w:=w) C X hM
 obtain⟨k,ab⟩:=H.trans (rB F K hk);obtain⟨T,hU⟩:=TT.pre ab (Y.c _ _ _ G);obtain⟨x,v⟩:=S1 (.run false ⟨Y.m,kk (A.b+j),OO (A.b+j),_,Y.c _ _ _ G⟩:cL P);have V:x.work=true:=by rw[v];rfl
 have a:∀sh,((s.bW j x sh).w j)=.run false ⟨Y.m,kk (A.b+j),OO (A.b+j),_,Y.c _ _ _ G⟩:=λsh=>by rw[bV,v]
 have ad:EvM A.fb A.fo #[⟨.mark .enable,false,true⟩]:=λe he=>by simp at he;subst he;exact .inl (.inr rfl)
 have L:=runT_crowd_go (P:=P) (sl:=sl) (i:=A.b+j) hg (by rw[a7];exact a9)
 have Q:dA P A s (A.b+j):=mV p.I hj (eS u).2.2.2.2.1;obtain⟨y1,y2,y3⟩:=p.Tq ad Q g.frame.fn g.frame.place;have o:∀op∈MemOp.ofEvents (A.b+j) g.frame.fn g.frame.place #[⟨.mark .enable,false,true⟩],op.g=A.b+j:=λop al=>by obtain⟨e,_,rfl⟩:=zj al;rfl
 have hJ:J (A.b+j):=(p.hJ _).2 (CE hj (eS u).2.2.2.2.2.1);have hP:=D.eU.sync (i:=A.b+j) (.inr hJ) o rfl ⟨⟨.refl _,rfl⟩,λ_ _=>rfl⟩ (λb=>.inl rfl) y2 y1
 have hI:du A.n (s.bW j x s.sh):=p.I.still hj u V (by rw[v];rfl) (by rw[v,E];rfl)
 have hL:MS.kS A.n (s.bW j x s.sh) s:=H2 hj u V ⟨_,_,by rw[v];rfl,by rw[E];rfl,.single (vT.fY Y.N Y.h0 Y.ht Y.c G)⟩
 have R:fP P A Z (s.bW j x s.sh) kk OO J M gs.size w (t++MemOp.ofEvents (A.b+j) g.frame.fn g.frame.place #[⟨.mark .enable,false,true⟩]):=p.work hj u V (by rw[v,E];rfl) (λh=>by rw[d]at h;cases h) hI p.mu (λ_ _=>rfl) p.BZ y3
 have r:Beside (dG P A Fin Z z) s (s.bW j x s.sh) f (dz f (A.b+j) ⟨Y.m,kk (A.b+j),OO (A.b+j),g1,T⟩) q q kk kk OO OO J J w (A.b+j) g g1:=sS z hj u V (λi hi=>aK _ _ hi) (λi hi=>rfl) (λ_ _ _=>rfl) (λ_ _ _=>rfl) (λ_ h=>h) (.inl λh=>h) (λ{i k O y} K=>B.qu (s:=s) (i:=i) (k:=k) (O:=O) (g:=y) K)
 have S:=nz (P:=P) (A:=A) (s:=s) hj h1;refine⟨_,_,L,s.bW j x s.sh,dz f (A.b+j) ⟨Y.m,kk (A.b+j),OO (A.b+j),g1,T⟩,q,kk,OO,J,M,_,_,_,rfl,hL,?_⟩;refine cZ.step B D hg o hP R (λl y hl K=>?_) r ⟨λ_=>?_,λh=>absurd h (Bj hj (a _)),λh=>absurd h (py hj (a _)),λh=>absurd (pY hj (a _)) h⟩
 . have U:l≠A.b+j:=λe=>(D.held l hl).2.1 (by rw[e];exact S)
   exact B.zf R ((r.held l U).2 hl) _ _ (r.atC l _ _ _ U hl K)
 . rw[aD]
   refine⟨by show A.b+j<A.b+A.n+1;omega,rfl,?_,rfl,rfl,hr,?_,.inr hJ,λl b X' h3 h4 h5=>?_⟩
   . show Y.m=eF P A Fin (s.bW j x s.sh) (A.b+j)
     rw[uz hj (a _)];exact hm
   . obtain⟨_,_,av,_⟩:=D.walk _ S
     rw[Deaf_own,av];show deafBehind (iy P A s (A.b+j)) _=0;rw[jG hj,E];rfl
   . obtain rfl:l=j:=ac
     rw[a]at h5;cases h5;exact hU
end
section
variable{Z:Base}{kk:Zz}{OO:ZF}{J M:ZA}{w:World}{t:Trace}
def nA(kk:Zz)(lk i:Nat):Zz:=dz kk i ((kk i).join (kk lk))
def mI(OO:ZF)(lk i mb:Nat)(x:Own):ZF:=dz (dz OO i ((OO i).set mb x)) lk au.bot
def dX.acM(h:dX Z kk OO J M w t){i mb x}(hi:i≠Z.lk)(H:OO Z.lk mb=some x)(ho:∀c,OO Z.lk c≠none->c=mb)(I:Z.la.block<w.heap.size)(hd:Deaf t i=0)(η:∀m a,m<Z.N0->touchAt t m=some a->a.loc.isMemory=true -> ¬Z.na a.loc->Knows t i m)(S:∀m a,Z.N0<=m->t.act? m≠some (.mark (.release a)))  fn   pos :
 dX Z (nA kk Z.lk i) (mI OO Z.lk i mb x) J M w (t++MemOp.ofEvents i fn pos #[⟨.mark (.acquire Z.la),false,true⟩]):=by
 obtain⟨u,N⟩:=S1 (MemOp.ofEvents i fn pos #[⟨.mark (.acquire Z.la),false,true⟩]);have E:u=#[⟨i,fn,pos,.mark (.acquire Z.la)⟩]:=by rw[N,ofEvents_eq];simp[MemAct.ofEvent]
 rw[<-N];have r:qg u:=λop d=>am
 have T:∀op∈u,op.act.touch?=none:=λop d=>by rw[E]at d;simp at d;subst d;rfl
 have F:∀op∈u,op.g=i:=am
 have O:∀m a,Z.N0<=m->(t++u).act? m≠some (.mark (.release a)):=(by grind [xy])
 have U:OO i mb=none:=h.om Z.lk i mb x (vj hi) H;have eK:∀l,l≠i->nA kk Z.lk i l=kk l:=λl V=>aK _ _ V
 have G:nA kk Z.lk i i=(kk i).join (kk Z.lk):=aD _ _ _;have eO:∀l,l≠i->l≠Z.lk->mI OO Z.lk i mb x l=OO l:=λl B C=>by unfold mI;grind [aK]
 have s:mI OO Z.lk i mb x i=(OO i).set mb x:=by unfold mI;grind [aK,aD]
 have z:mI OO Z.lk i mb x Z.lk=au.bot:=by unfold mI;rw[aD]
 refine h.AO (λa b=>a=b\/(a=Z.lk/\b=i)) rfl ⟨⟨.refl _,rfl⟩,am⟩ (λb=>.inl rfl) (λop d=>by rw[E]at d;simp at d;subst d;simpa[MemAct.low]using I) (λa b e n y K P W D=>?_) (λl b n v X=>?_) (λl b sv X=>?_) (λl b y f=>?_) (λa l b y k f=>?_)
  (λsaid=>noRace_append (h.clean said) F am) am am
  (λn a ha P h=>h.elim (λ⟨j,B,C⟩=>.inr (.inl ⟨j,B,C.app _⟩)) (λ⟨p,B,C⟩=>.inr (.inr (.inl ⟨p,B,C.app _⟩))))
 . rcases e with rfl|⟨rfl,rfl⟩
   . exact D.app u
   . refine(wo hi).2 ?_
     unfold OT at D;rw[wS rfl]at D
     rcases D with D|⟨p,h0,B,C,Y⟩
     . exact(η n y D K P W).app u
     . exact tx (y:=⟨b,fn,pos,.mark (.acquire Z.la)⟩) (m:=0) r am rfl hd B C am Y
 . by_cases e:l=i
   . grind [az.tV]
   grind
 . by_cases e:l=i
   . grind [az.NC]
   grind
 . by_cases e:l=i
   . subst e;rw[s]at f
     by_cases q:b=mb
     . subst q
       simp only[au.set,ZC,td]at f;subst f;exact⟨Z.lk,ac,H,λsv L=>by rw[G];exact(az.Dk (h.sat l) (h.sat Z.lk)).2 b sv L⟩
     . simp only[au.set,q,LK]at f
       exact⟨l,.inl rfl,f,λsv L=>by rw[G];exact(az.y7 _ _).2 b sv L⟩
   . by_cases Q:l=Z.lk
     . subst Q;rw[z]at f;cases f
     . rw[eO l e Q]at f;grind
 . by_cases A:a=Z.lk
   . subst A;rw[z]at f;cases f
   by_cases o:l=Z.lk
   . subst o;rw[z];rfl
   by_cases R:a=i
   . subst R
     rw[s]at f;rw[eO l (vj k) o]
     by_cases q:b=mb
     . subst q;exact h.om Z.lk l b x (vj o) H
     . simp only[au.set,q,LK]at f;exact h.om a l b y k f
   . rw [eO a R A]at f
     by_cases el:l=i
     . subst el
       rw[s]
       by_cases q:b=mb
       . subst q
         have:=h.om Z.lk a b x (vj A) H
         grind
       . simp only[au.set,q,LK];exact h.om a l b y k f
     . rw[eO l el o];exact h.om a l b y k f
def vp(kk:Zz)(lk i:Nat):Zz:=dz kk lk (kk i)
def kK(OO:ZF)(lk i mb fb:Nat)(x:Own):ZF:=dz (dz OO i (((OO i).del mb).del fb)) lk (au.bot.set mb x)
def dX.acN(h:dX Z kk OO J M w t){i mb fb x}(hi:i≠Z.lk)(R:OO i mb=some x)(ho:∀c,OO Z.lk c=none)(K:Z.la.block<w.heap.size)(hd:Deaf t i=0)  fn   pos :
 dX Z (vp kk Z.lk i) (kK OO Z.lk i mb fb x) J M w (t++MemOp.ofEvents i fn pos #[⟨.mark (.releaseMerge Z.la),false,true⟩]):=by
 obtain⟨u,O⟩:=S1 (MemOp.ofEvents i fn pos #[⟨.mark (.releaseMerge Z.la),false,true⟩]);have E:u=#[⟨i,fn,pos,.mark (.releaseMerge Z.la)⟩]:=by rw[O,ofEvents_eq];simp[MemAct.ofEvent]
 rw[<-O];have r:qg u:=λop f=>am
 have S:∀op∈u,op.act.touch?=none:=λop f=>by rw[E]at f;simp at f;subst f;rfl
 have F:∀op∈u,op.g=i:=am
 have s:u[0]?=some ⟨i,fn,pos,.mark (.releaseMerge Z.la)⟩:=am
 have eK:∀l,l≠Z.lk->vp kk Z.lk i l=kk l:=λl T=>aK _ _ T
 have U:vp kk Z.lk i Z.lk=kk i:=aD _ _ _;have eO:∀l,l≠i->l≠Z.lk->kK OO Z.lk i mb fb x l=OO l:=λl H I=>by unfold kK;grind [aK]
 have k:kK OO Z.lk i mb fb x i=((OO i).del mb).del fb:=by unfold kK;grind [aK,aD]
 have z:kK OO Z.lk i mb fb x Z.lk=au.bot.set mb x:=by unfold kK;rw[aD]
 have P:∀b y,(((OO i).del mb).del fb) b=some y->b≠mb/\OO i b=some y:=λb y d=>by
  by_cases o:b=fb
  . simp[au.del,o]at d
  by_cases q:b=mb
  . simp[au.del,q]at d
  . exact⟨q,by simpa[au.del,o,q]using d⟩
 have G:∀b y,(au.bot.set mb x) b=some y->b=mb/\y=x:=λb y d=>by
  by_cases e:b=mb
  . subst e;simp only[au.set,ZC,td]at d;grind
  . simp only[au.set,e,LK]at d;cases d
 have A:∀b,OO i b=none->(((OO i).del mb).del fb) b=none:=λb V=>by
  by_cases o:b=fb
  . simp[au.del,o]
  by_cases q:b=mb
  . grind
  . simpa[au.del,o,q]using V
 refine h.AO (λa b=>a=b\/(a=i/\b=Z.lk)) rfl ⟨⟨.refl _,rfl⟩,am⟩ (λb=>.inl rfl) (λop f=>by rw[E]at f;simp at f;subst f;simpa[MemAct.low]using K) (λa b e n y W X hz Q=>?_) (λl b n v Y=>?_) (λl b sv Y=>?_) (λl b y d=>?_) (λa l b y m d=>?_)
  (λsaid=>noRace_append (h.clean said) F am) am am
  (λn a ha X h=>h.elim (λ⟨j,H,I⟩=>.inr (.inl ⟨j,H,I.app _⟩)) (λ⟨p,H,I⟩=>.inr (.inr (.inl ⟨p,H,I.app _⟩))))
 . rcases e with rfl|⟨rfl,rfl⟩
   . exact Q.app u
   . have L:Knows t a n:=(wo hi).1 Q
     unfold OT;rw[wS rfl];exact .inr ⟨t.size+0,by have:=h.n0;omega,by rw[act?_of (kV s)],heard_new r s hd,rq L s rfl⟩
 . grind
 . grind
 . by_cases q:l=Z.lk
   . subst q;rw[z]at d
     grind
   by_cases e:l=i
   . subst e;rw[k]at d
     grind
   . rw[eO l e q]at d;grind
 . by_cases B:a=Z.lk
   . subst B;rw[z]at d
     obtain⟨rfl,rfl⟩:=G b y d
     by_cases el:l=i
     . subst el;rw[k]
       by_cases o:b=fb
       . simp[au.del,o]
       . simp[au.del,o]
     . rw[eO l el (vj m)];exact h.om i l b y (vj el) R
   by_cases C:l=Z.lk
   . subst C;rw[z]
     have N:b≠mb:=by
      by_cases D:a=i
      . subst D;rw[k]at d;grind
      . rw[eO a D B]at d
        intro e;subst e;have:=h.om a i b y D d
        grind
     simp only[au.set,N,LK];rfl
   by_cases D:a=i
   . subst D
     rw[k]at d;rw[eO l (vj m) C];exact h.om a l b y m am
   . rw[eO a D B]at d
     by_cases el:l=i
     . subst el;rw[k];exact A b (h.om a l b y m d)
     . rw[eO l el C];exact h.om a l b y m d
variable{P:Rg}{A:dq}{Fin:ZD}{s:MS P}{f:Nat->Node P}{q:Ct}{gs:Da}{gsz:Nat}{u:Trace}{j:Nat}{g:YB}{x:cL P}{xo:Own}
def aac{x:cL P}(h:x.owns=true):x.pc=.held:=by
 cases x with
 |run b X=>cases b<;>simp_all [cL.owns,cL.pc]
 |un p Y=>cases p<;>simp_all [cL.owns,cL.pc,Hy.abs]
 |_=>simp_all [cL.owns]
def J6(I:du A.n s)(hj:j<A.n)(a:(s.w j).pc=.held){l}(f:l<A.n)(b:(s.w l).owns=true):l=j:=by
 by_cases e:l=j
 . exact e
 . have g:=I.mu.j1
   have c:=Mu.kW Mu.dQ (λi=>(s.w i).pc) j .out hj
   have d:Mu.dQ (Mu.set (λi=>(s.w i).pc) j .out l)<=Mu.tot A.n (λi=>Mu.dQ (Mu.set (λi=>(s.w i).pc) j .out i)):=(by grind [Mu.pe])
   rw[Mu.ah _ _ e,aac b]at d;have h:Mu.dQ .held=1:=rfl;have k:Mu.dQ .out=0:=rfl;rw[a]at c;have:s.sh.w.L.toNat<=1:=by cases s.sh.w.L<;>simp
   omega
def qx(A:dq)(Z:Base)(OO:ZF)(i:Nat)(x:Own)(a:Nat->FP):ZF:=dz (mI OO Z.lk i A.mb x) i ((mI OO Z.lk i A.mb x i).set A.fb (.part a))
def dq.Tk.Wm{f}(h:A.Tk j f){l}(a:f l≠none):A.dir=true/\l=A.cell j:=by
 unfold dq.Tk at h;split at h
 . grind
 . subst h;exact absurd rfl a
def fP.take{g}(C:A.Tk j g)(W:A.b+A.n+1<=Z.lk)(h:fP P A Z s kk OO J M gsz w t)(hj:j<A.n)(p:(s.w j).work=true)(O:x.work=true)(Q:∀l,l<A.n->(s.w l).owns=false)(R:x.owns=true)(S:du A.n (s.bW j x s.sh))(X:∀op∈u,op.act.touch?=none/\∀a,op.act≠.mark (.release a)):
 fP P A Z (s.bW j x s.sh) (nA kk Z.lk (A.b+j)) (qx A Z OO (A.b+j) xo g) J M gsz w (t++u):=by
 have T:A.b+j≠Z.lk:=ac
 have D:x.busy=(s.w j).busy:=by simp_all [eS]
 have E:∀l,l≠A.b+j->nA kk Z.lk (A.b+j) l=kk l:=λl d=>aK _ _ d
 have F:nA kk Z.lk (A.b+j) (A.b+j)=(kk (A.b+j)).join (kk Z.lk):=aD _ _ _;have eO:∀l,l≠A.b+j->l≠Z.lk->qx A Z OO (A.b+j) xo g l=OO l:=λl p O=>by unfold qx mI;grind [aK]
 have k:qx A Z OO (A.b+j) xo g (A.b+j)=((OO (A.b+j)).set A.mb xo).set A.fb (.part g):=by unfold qx mI;grind [aD,aK]
 have o:qx A Z OO (A.b+j) xo g Z.lk=au.bot:=by unfold qx mI;rw[aK _ _ (vj T),aD]
 have r:dA P A s (A.b+j):=mV h.I hj (eS p).2.2.2.2.1
 have K:∀i,OO i A.fb=none:=λi=>by
  cases e:OO i A.fb with
  |none=>rfl
  | some y=>
    obtain⟨l,_,d,_,Y,_⟩:=h.tok i y e
    grind
 have f:∀{c n:Nat},(∀i,(kk i).cell c n=none)->(nA kk Z.lk (A.b+j) (A.b+j)).cell c n=none:=λ{c n} hn=>by
  rw[F];cases e:((kk (A.b+j)).join (kk Z.lk)).cell c n with
  |none=>rfl
  |some v=>grind [az.tV]
 refine⟨S,h.size,h.dd,h.off,λhd l d=>?_,h.Gq,h.mu,h.gr,h.BZ,h.Fx,λi=>?_,λi=>?_,λi y z=>?_,λl d G=>?_,λG=>?_,λc L=>?_,
  λi=>by rw[h.hJ i];grind [vn],h.B1 u,h.sR u,h.pW u am,h.vm u am,h.wJ u,h.oO u am,λi d hb=>?_,h.zc,h.px,h.jT,h.la,by simp;exact FL h.n0 (Iq _ _)⟩
 . by_cases e:l=j
   . subst e
     rw[bV];exact⟨(by grind [Gr]),λH=>by simp[cL.rel,R]at H⟩
   . rw[dW e]
     refine⟨λN=>⟨λi=>?_,λm a U V q q'=>(iN V).elim (λp=>((h.Fc hd l d).1 N).2 m a U p.1 q q') am⟩,λH=>?_⟩
     . have p:=((h.Fc hd l d).1 N).1
       grind
     . rw[E _ ac];exact(h.Fc hd l d).2 H
 . by_cases e:i=A.b+j
   . subst e;rw[k]
     have:=h.lq (A.b+j);simp only[au.set,A.d1,A.d3,vj A.d4,A.d6,LK];omega
   by_cases B:i=Z.lk
   . subst B;rw[o];exact⟨λ_=>rfl,rfl⟩
   . rw[eO i e B];exact h.lq i
 . by_cases e:i=A.b+j
   . subst e
     exact⟨f λi=>(h.jr i).1,f λi=>(h.jr i).2.1,f λi=>(h.jr i).2.2.1,f λi=>(h.jr i).2.2.2⟩
   . rw[E i e];exact h.jr i
 . by_cases e:i=A.b+j
   . subst e;rw[k]at z
     simp only[au.set,ZC,td]at z;exact⟨j,g,hj,rfl,by grind [bV],z.symm,λ_=>C.Wm⟩
   by_cases B:i=Z.lk
   . subst B;rw[o]at z;cases z
   simp_all
 . by_cases e:l=j
   . subst e;rw[k];simp[au.set]
   grind [dW]
 . grind [bV]
 . rw[o]at L;exact absurd rfl L
 . have e:i≠A.b+j:=λe=>hb (e ▸ r)
   rw[E i e,eO i e d];exact h.JX i d hb
end
section
variable{P:Rg}{A:dq}{Fin:ZD}{Z:Base}{s:MS P}{f:Nat->Node P}{q:Ct}{kk:Zz}{OO:ZF}{J M:ZA}{gs:Da}{w:World}{t:Trace}{j:Nat}{g:YB}
variable(C:kX P A.nm)(X:kY P A.nm)(F:sz P A.nm)
include C X F in
def XA  hZ  (H:cZ (dG P A Fin Z hZ) Z s f q kk OO J M gs w t) (hj:j<A.n){Y}(S:s.w j=.lk .la Y) (hg:gs[A.b+j]?=some g) (b3:N9 P A j (.lk .la Y) (kk (A.b+j)) (OO (A.b+j)) g)  sl :
 Goes P A Fin Z hZ s gs w t sl (A.b+j):=by
 have d:fP P A Z s kk OO J M gs.size w t:=H.ex;have B:=cE (P:=P) (A:=A) (Fin:=Fin) (Z:=Z) hZ;have r:(s.w j).pX=true:=by rw[S];rfl
 have w1:=ny r;have b4:(s.w j).pc=.held:=by rw[S];rfl
 have hb:=A.hb;have o:A.b+j≠Z.lk:=ac
 have b5:(A.b+j==0)=false:=F2
 have U:∀l,l<A.n->(s.w l).owns=false:=λl E=>by
  cases e:(s.w l).owns with
  |false=>rfl
  |true=>obtain rfl:=J6 d.I hj b4 E e;rw[S]at e;cases e
 have L:∀i,OO i A.fb=none:=λi=>by
  cases e:OO i A.fb with
  |none=>rfl
  |some y=>obtain⟨l,_,E,_,ho,_⟩:=d.tok i y e;rw[U l E]at ho;cases ho
 obtain⟨xo,a,a9,b6,b7⟩:=d.Wj U;obtain⟨ν,c,μ,e,hk,hM,hm,hO,ab,b8,hN⟩:=b3;obtain⟨cc,ee,al⟩:=d.BZ
 have av:e=(ee,cc.size):=by have hs:=(H.eU.sat (A.b+j)).sh _ _ ab;simp only[World.shape?,al]at hs;exact(KE hs).symm
 obtain⟨p,V,ax⟩:∃p,A.Tk j p/\∀n v,p n=some v->A.dir=true/\n=A.cell j/\cc[n]?=some v:=by
  unfold dq.Tk
  by_cases hd:A.dir=true
  . have:=b8 hd
    rw[av]at this;refine⟨λi=>if i=A.cell j then some cc[A.cell j]else none,by rw[wS hd];exact⟨_,rfl⟩,λn v G=>?_⟩
    simp only at G;split at G
    . next e=>subst e;exact⟨hd,rfl,by rw[<-G];exact Ie this⟩
    . cases G
  . exact⟨Tf,by rw[wN hd],λn v G=>by cases G⟩
 have ay:(kk Z.lk).Le ((kk (A.b+j)).join (kk Z.lk)):=az.Dk (H.eU.sat (A.b+j)) (H.eU.sat Z.lk);have u:=hN ((kk (A.b+j)).join (kk Z.lk)) xo a p (az.y7 _ _) (b6.mono ay) b7 (H.eU.om Z.lk (A.b+j) _ _ (vj o) a9) V;obtain⟨g1,aC,hr,g2,aE,hA⟩:=NQ (Wd:=λ_=>True) (γ:=false) (w:=w) C X hM
 obtain⟨k,b9⟩:=aE.trans (zn F hA hk);rw[<-d.la]at aC;have W:nA kk Z.lk (A.b+j) (A.b+j)=(kk (A.b+j)).join (kk Z.lk):=aD _ _ _;have bm:qx A Z OO (A.b+j) xo p (A.b+j)=((OO (A.b+j)).set A.mb xo).set A.fb (.part p):=by unfold qx mI;rw[aD,aK _ _ o,aD]
 rw[<-W,<-bm]at u;obtain⟨T,hU⟩:=TT.pre b9 (Y.c _ _ _ u);obtain⟨x,hx⟩:=S1 (.run true ⟨Y.m,nA kk Z.lk (A.b+j) (A.b+j),qx A Z OO (A.b+j) xo p (A.b+j),_,Y.c _ _ _ u⟩:cL P);have w2:x.work=true:=by rw[hx];rfl
 have z:∀sh,((s.bW j x sh).w j)=.run true ⟨Y.m,nA kk Z.lk (A.b+j) (A.b+j),qx A Z OO (A.b+j) xo p (A.b+j),_,Y.c _ _ _ u⟩:=λsh=>by rw[bV,hx]
 have aF:=runT_crowd_go (P:=P) (sl:=sl) (i:=A.b+j) hg (by rw[b5];exact aC)
 have aL:=nz (P:=P) (A:=A) (s:=s) hj r
 have K:Deaf t (A.b+j)=0:=by obtain⟨_,_,K,_⟩:=H.walk _ aL;rw[K];show iy P A s (A.b+j)=0;rw[jG hj,S];rfl
 have Q:dA P A s (A.b+j):=mV d.I hj (eS w1).2.2.2.2.1;have hJ:J (A.b+j):=(d.hJ _).2 (CE hj (eS w1).2.2.2.2.2.1);have aO:∀op∈MemOp.ofEvents (A.b+j) g.frame.fn g.frame.place #[⟨.mark (.acquire Z.la),false,true⟩],op.g=A.b+j:=λop D=>by obtain⟨e,_,rfl⟩:=zj D;rfl
 have aW:∀op∈MemOp.ofEvents (A.b+j) g.frame.fn g.frame.place #[⟨.mark (.acquire Z.la),false,true⟩],op.act.touch?=none/\∀a,op.act≠.mark (.release a):=λop D=>by obtain⟨e,he,rfl⟩:=zj D;simp at he;subst he;exact⟨rfl,λa h=>by simp[MemAct.ofEvent]at h⟩
 have b0:A.fb<w.heap.size:=by obtain⟨c,e,r⟩:=d.BZ;exact(CS.1 r).1
 have bq:=H.eU.acM o a9 (λc hc=>(d.Wk c hc).1) (by rw[d.la];exact b0) K (λm a hm ha b1 hz=>d.old _ Q m a hm ha b1 hz) d.norel g.frame.fn g.frame.place
 have a7:∀l,mI OO Z.lk (A.b+j) A.mb xo l A.fb=none:=λl=>by
  unfold mI
  by_cases e1:l=Z.lk
  . subst e1;rw[aD];rfl
  by_cases e2:l=A.b+j
  . subst e2;rw[aK _ _ e1,aD];simp only[au.set,A.d5,LK];exact L _
  . rw[aK _ _ e1,aK _ _ e2];exact L _
 have b2:A.dir=true->(∀i,(kk i).cell A.fb (A.cell j)=none)/\∀m a R,touchAt t m=some a->a.loc=.cell R->R.block=A.fb/\R.off=A.cell j->m<Z.N0:=λhd=>(d.Fc hd j hj).1 (by rw[S];rfl)
 have a8:∀n,p n≠none->A.dir=true/\n=A.cell j:=λn hn=>V.Wm hn
 have hP:=bq.abX (f:=p) o a7 (λn v G i=>by
  obtain⟨hd,rfl,_⟩:=ax n v G;have r:=(b2 hd).1
  by_cases ei:i=A.b+j
  . subst ei
    rw[W];cases q:((kk (A.b+j)).join (kk Z.lk)).cell A.fb (A.cell j)with
    |none=>rfl
    |some v=>rcases az.tV q with h|h<;>rw[r]at h<;>cases h
  . unfold nA;rw[aK _ _ ei];exact r i) (λR r h2=>d.px R ⟨r,.inr (.inr ⟨(a8 _ h2).1,j,hj,(a8 _ h2).2⟩)⟩) (by
  refine⟨cc,ee,al,?_,λn v G=>(ax n v G).2.2⟩
  rw[W];refine(az.y7 _ _).2 _ _ ?_;rw[ab,av]) (λm a R ha E r h2=>by
  obtain⟨hd,h3⟩:=a8 _ h2
  rcases iN ha with⟨h4,_⟩|⟨op,D,h4⟩
  . exact(d.old _ Q m a ((b2 hd).2 m a R h4 E ⟨r,h3⟩) h4 (by rw[E];rfl) (by rw[E];exact d.px R ⟨r,.inr (.inr ⟨hd,j,hj,h3⟩)⟩)).app _
  . rw[(aW op D).1]at h4;cases h4) d.jT.2.1
 have hI:du A.n (s.bW j x s.sh):=d.I.still hj w1 w2 (by rw[hx];rfl) (by rw[hx,S];rfl)
 have hL:MS.kS A.n (s.bW j x s.sh) s:=H2 hj w1 w2 ⟨_,_,by rw[hx];rfl,by rw[S];rfl,.single (vT.fY Y.N Y.h0 Y.ht Y.c u)⟩
 have br:=d.take (xo:=xo) V hZ hj w1 w2 U (by rw[hx];rfl) hI aW
 have bw:Beside (dG P A Fin Z hZ) s (s.bW j x s.sh) f (dz f (A.b+j) ⟨Y.m,nA kk Z.lk (A.b+j) (A.b+j),qx A Z OO (A.b+j) xo p (A.b+j),g1,T⟩) q q kk (nA kk Z.lk (A.b+j)) OO (qx A Z OO (A.b+j) xo p) J J w (A.b+j) g g1:=sS hZ hj w1 w2 (λi hi=>aK _ _ hi) (λi hi=>rfl) (λi hi _=>aK _ _ hi) (λi hi ht=>by unfold qx mI;rw[aK _ _ hi,aK _ _ (show i≠Z.lk by omega),aK _ _ hi]) (λ_ h=>h) (.inl λh=>h) (λ{i k O y} hA=>B.qu (s:=s) (i:=i) (k:=k) (O:=O) (g:=y) hA)
 refine⟨_,_,aF,s.bW j x s.sh,dz f (A.b+j) ⟨Y.m,nA kk Z.lk (A.b+j) (A.b+j),qx A Z OO (A.b+j) xo p (A.b+j),g1,T⟩,q,nA kk Z.lk (A.b+j),qx A Z OO (A.b+j) xo p,J,M,_,_,_,rfl,hL,?_⟩;refine cZ.step B H hg aO hP br (λl y E hA=>?_) bw ⟨λ_=>?_,λh=>absurd h (Bj hj (z _)),λh=>absurd h (py hj (z _)),λh=>absurd (pY hj (z _)) h⟩
 . have bx:l≠A.b+j:=λe=>(H.held l E).2.1 (by rw[e];exact aL)
   exact B.zf d E _ _ hA
 . rw[aD]
   refine⟨by show A.b+j<A.b+A.n+1;omega,rfl,?_,rfl,rfl,hr,?_,.inr hJ,λl b X' h3 h4 h5=>?_⟩
   . show Y.m=eF P A Fin (s.bW j x s.sh) (A.b+j)
     rw[uz hj (z _)];exact hm
   . rw[Deaf_own,K];rfl
   . obtain rfl:l=j:=ac
     rw[z]at h5;cases h5;exact hU
end
section
variable{P:Rg}{A:dq}{Fin:ZD}{Z:Base}{s:MS P}{f:Nat->Node P}{q:Ct}{kk:Zz}{OO:ZF}{J M:ZA}{gs:Da}{gsz:Nat}{w:World}{t u:Trace}{j:Nat}{g:YB}{x:cL P}{xo:Own}{a:uK}
def fP.give(U:A.b+A.n+1<=Z.lk)(h:fP P A Z s kk OO J M gsz w t)(hj:j<A.n)(o:(s.w j).work=true)(L:x.work=true)(H:∀l,l<A.n->(s.w l).owns=true->l=j)(V:x.owns=false)(N:du A.n (s.bW j x s.sh))(O:qf (kk (A.b+j)) xo a)(z:A.GI a)(Q:x.mH=(s.w j).mH)(R:A.dir=true->(kk (A.b+j)).cell A.fb (A.cell j)=some (A.val j))(W:∀op∈u,op.act.touch?=none/\∀a,op.act≠.mark (.release a)):
 fP P A Z (s.bW j x s.sh) (vp kk Z.lk (A.b+j)) (kK OO Z.lk (A.b+j) A.mb A.fb xo) J M gsz w (t++u):=by
 have X:A.b+j≠Z.lk:=ac
 have B:x.busy=(s.w j).busy:=by simp_all [eS]
 have C:∀l,l≠Z.lk->vp kk Z.lk (A.b+j) l=kk l:=λl d=>aK _ _ d
 have D:vp kk Z.lk (A.b+j) Z.lk=kk (A.b+j):=aD _ _ _;have eO:∀l,l≠A.b+j->l≠Z.lk->kK OO Z.lk (A.b+j) A.mb A.fb xo l=OO l:=λl o L=>by unfold kK;grind [aK]
 have p:kK OO Z.lk (A.b+j) A.mb A.fb xo (A.b+j)=((OO (A.b+j)).del A.mb).del A.fb:=by unfold kK;grind [aK,aD]
 have f:kK OO Z.lk (A.b+j) A.mb A.fb xo Z.lk=au.bot.set A.mb xo:=by unfold kK;rw[aD]
 have r:dA P A s (A.b+j):=mV h.I hj (eS o).2.2.2.2.1;have v:∀l,l<A.n->((s.bW j x s.sh).w l).owns=false:=(by grind [bV,dW])
 refine⟨N,h.size,h.dd,h.off,λhd l d=>⟨λE=>?_,λK=>?_⟩,h.Gq,h.mu,h.gr,h.BZ,h.Fx,λi=>?_,λi=>?_,λi y k=>?_,λl d F=>?_,λF=>?_,λc G=>?_,
  λi=>by rw[h.hJ i];grind [vn],h.B1 u,h.sR u,h.pW u am,h.vm u am,h.wJ u,h.oO u am,λi d hb=>?_,h.zc,h.px,h.jT,h.la,by simp;exact FL h.n0 (Iq _ _)⟩
 . have E:(s.w l).mH=false:=by
    grind [bV,dW]
   refine⟨λi=>?_,λm a S T q q'=>(iN T).elim (λo=>((h.Fc hd l d).1 E).2 m a S o.1 q q') am⟩
   have o:=((h.Fc hd l d).1 E).1
   grind
 . rw[C _ ac]
   by_cases e:l=j
   . grind
   . rw[dW e]at K;exact(h.Fc hd l d).2 K
 . by_cases g:i=Z.lk
   . subst g;rw[f];simp only[au.set,A.d3,A.d6,LK];exact⟨λ_=>rfl,rfl⟩
   by_cases e:i=A.b+j
   . subst e;rw[p]
     have:=h.lq (A.b+j);simp only[au.del,A.d1,A.d3,vj A.d4,A.d6,LK];omega
   . rw[eO i e g];exact h.lq i
 . by_cases g:i=Z.lk
   . subst g;rw[D];exact h.jr _
   . rw[C i g];exact h.jr i
 . exfalso
   by_cases g:i=Z.lk
   . subst g;rw[f]at k
     simp only[au.set,A.d5,LK]at k;cases k
   by_cases e:i=A.b+j
   . subst e;rw[p]at k;simp[au.del]at k
   . rw[eO i e g]at k
     obtain⟨l,_,d,Y,ho,_⟩:=h.tok i y k
     grind
 . grind
 . refine⟨xo,a,by rw[f];simp[au.set],am,z⟩
 . rw[f]at G
   refine⟨?_,v⟩
   by_cases e:c=A.mb
   . exact e
   . simp only[au.set,e,LK]at G;exact absurd rfl G
 . have e:i≠A.b+j:=λe=>hb (e ▸ r)
   rw[C i d,eO i e d];exact h.JX i d hb
variable(C:kX P A.nm)(X:kY P A.nm)
include C X in
def XB  z  (S:cZ (dG P A Fin Z z) Z s f q kk OO J M gs w t) (hj:j<A.n){Y}(o:s.w j=.un .ur Y) (hg:gs[A.b+j]?=some g) (W:N9 P A j (.un .ur Y) (kk (A.b+j)) (OO (A.b+j)) g)  sl :
 Goes P A Fin Z z s gs w t sl (A.b+j):=by
 have u:fP P A Z s kk OO J M gs.size w t:=S.ex;have B:=cE (P:=P) (A:=A) (Fin:=Fin) (Z:=Z) z;have T:(s.w j).pX=true:=by rw[o];rfl
 have U:=ny T;have a7:(s.w j).pc=.held:=by rw[o];rfl
 have hb:=A.hb;have d:A.b+j≠Z.lk:=ac
 have a8:(A.b+j==0)=false:=F2
 have D:∀l,l<A.n->(s.w l).owns=true->l=j:=λl E e=>J6 u.I hj a7 E e
 obtain⟨ν,c,μ,hk,hM,hm,a9,aL⟩:=W;obtain⟨tf,xo,a,aO,IS,ab,ad,al,hN⟩:=a9 (.inr rfl);obtain⟨g1,F,hr,g2,⟨k,G⟩,H⟩:=NP (Wd:=qI A) (γ:=false) (w:=w) C X hM;rw[<-u.la]at F;have av:vp kk Z.lk (A.b+j) (A.b+j)=kk (A.b+j):=aK _ _ d;have ax:kK OO Z.lk (A.b+j) A.mb A.fb xo (A.b+j)=((OO (A.b+j)).del A.mb).del A.fb:=by unfold kK;rw[aK _ _ d,aD]
 have K:=runT_crowd_go (P:=P) (sl:=sl) (i:=A.b+j) hg (by rw[a8];exact F)
 have ay:=nz (P:=P) (A:=A) (s:=s) hj T
 have p:Deaf t (A.b+j)=0:=by obtain⟨_,_,p,_⟩:=S.walk _ ay;rw[p];show iy P A s (A.b+j)=0;rw[jG hj,o];rfl
 have L:∀op∈MemOp.ofEvents (A.b+j) g.frame.fn g.frame.place #[⟨.mark (.releaseMerge Z.la),false,true⟩],op.g=A.b+j:=λop v=>by obtain⟨e,_,rfl⟩:=zj v;rfl
 have aC:∀op∈MemOp.ofEvents (A.b+j) g.frame.fn g.frame.place #[⟨.mark (.releaseMerge Z.la),false,true⟩],op.act.touch?=none/\∀a,op.act≠.mark (.release a):=λop v=>by obtain⟨e,he,rfl⟩:=zj v;simp at he;subst he;exact⟨rfl,λa h=>by simp[MemAct.ofEvent]at h⟩
 have N:A.fb<w.heap.size:=by obtain⟨c,e,T⟩:=u.BZ;exact(CS.1 T).1
 have Q:∀c,OO Z.lk c=none:=λc=>by
  cases e:OO Z.lk c with
  |none=>rfl
  | some y=>
    have:=(u.Wk c (by rw[e];simp)).2 j hj
    rw[o]at this;cases this
 have hP:=S.eU.acN (fb:=A.fb) d IS Q (by rw[u.la];exact N) p g.frame.fn g.frame.place
 obtain⟨x,m⟩:=S1 (.un .ud Y:cL P);have V:x.work=true:=by rw[m];rfl
 have r:((s.bW j x s.sh).w j).pX=true:=by rw[bV,m];rfl
 have hI:du A.n (s.bW j x s.sh):=u.I.still hj U V (by rw[m];rfl) (by rw[m,o];rfl)
 have hL:MS.kS A.n (s.bW j x s.sh) s:=r7 hj U V (by rw[m,o];rfl) (by rw[m,o];rfl) (by rw[m,o];simp[cL.ex])
 have aE:=u.give z hj U V D (by rw[m];rfl) hI ab ad (by rw[m,o];rfl) al aC
 have aF:Beside (dG P A Fin Z z) s (s.bW j x s.sh) f f q (upd q (A.b+j) k) kk (vp kk Z.lk (A.b+j)) OO (kK OO Z.lk (A.b+j) A.mb A.fb xo) J J w (A.b+j) g g1:=sS z hj U V (λi R=>rfl) (λi R=>upd_ne q k R) (λi R ht=>aK _ _ (show i≠Z.lk by omega)) (λi R ht=>by unfold kK;rw[aK _ _ (show i≠Z.lk by omega),aK _ _ R]) (λ_ h=>h) (.inl λh=>h) (λ{i k O y} H=>B.qu (s:=s) (i:=i) (k:=k) (O:=O) (g:=y) H)
 refine⟨_,_,K,s.bW j x s.sh,f,upd q (A.b+j) k,vp kk Z.lk (A.b+j),kK OO Z.lk (A.b+j) A.mb A.fb xo,J,M,_,_,_,rfl,hL,?_⟩;refine cZ.step B S hg L hP aE (λl y E H=>B.zf u E _ _ H) aF ⟨λE=>absurd E (sT hj r),λ_=>⟨sT hj r,?_,?_,g2,?_,?_⟩,λhh=>absurd hh (wO hj r),λ_ hn _=>absurd (nz hj r) hn⟩
 . show A.b+j<A.b+A.n+1;omega
 . rw[Deaf_own,p]
   show _=iy P A (s.bW j x s.sh) (A.b+j);rw[jG hj,bV,m];rfl
 . refine .inr (.inl ⟨j,hj,rfl,?_⟩)
   rw[bV,m,av,ax];exact⟨ν,c,μ,hk,H,hm,λh=>absurd h ap,λ_=>hN⟩
 . exact .inr (by rw[upd_same];exact G)
end
section
variable{P:Rg}{A:dq}{Fin:ZD}{Z:Base}{s:MS P}{f:Nat->Node P}{q:Ct}{kk:Zz}{OO:ZF}{J M:ZA}{gs:Da}{w w':World}{t:Trace}{j:Nat}{x:cL P}{sh:Mu.Sh}{g g1:YB}
def J7  n :20<=HY n:=by unfold HY;omega
def xz{X h}(hj:j<A.n)(a:s.w j=.run h X){y}(b:x.nd=some y)(c:x.work=true)(hu:y=X\/Relation.TransGen vT y X)
 (hi:4*Mu.meas A.n (Mu.set (λi=>(s.w i).pc) j x.pc) sh+x.ex A.n<4*Mu.meas A.n (λi=>(s.w i).pc) s.sh+2*HY A.n):MS.kS A.n (s.bW j x sh) s:=by
 have d:(s.w j).work=true:=by rw[a];rfl
 rcases hu with rfl|hu
 . exact CD hj d c (by rw[b,a];rfl) (by rw[a];exact hi)
 . exact H2 hj d c ⟨y,X,b,by rw[a];rfl,hu⟩
variable(C:kX P A.nm)(X:kY P A.nm)(F:sz P A.nm)
include C X F in
def aaH  D  (H:cZ (dG P A Fin Z D) Z s f q kk OO J M gs w t) (hj:j<A.n){h X0}(a:s.w j=.run h X0){Y:Py P}(hf:f (A.b+j)=Y.node) (hl:YZ P A j Y.k Y.O Y.g Y.N)  sl :
 Goes P A Fin Z D s gs w t sl (A.b+j):=by
 have B:fP P A Z s kk OO J M gs.size w t:=H.ex;obtain⟨_,d,l,r,u,_,E,_,y⟩:=H.live _ (pY hj a);rw[hf]at d l r u y;have d:gs[A.b+j]?=some Y.g:=d;have r:Y.k=kk (A.b+j):=r;have u:Y.O=OO (A.b+j):=u;have l:Y.m=mT P A j:=by have:Y.m=eF P A Fin s (A.b+j):=l;rw[this,uz hj a]
 obtain⟨ν,c,μ,e,hk,hg,K,z,G,L⟩:=hl;rw[r]at z L;rw[u]at K L
 have hh:h=false:=by
  cases h with
  |false=>rfl
  |true=>exact absurd K (B.Fy j hj (by rw[a];rfl))
 subst hh;have Q:(s.w j).work=true:=by rw[a];rfl
 have v:(s.w j).pc=.out:=by rw[a];rfl
 have hu:=y j false X0 hj rfl a Y.node (.inl rfl) trivial;obtain⟨g2,⟨n,p⟩,R⟩:=yb (P:=P) (n:=A.nm) (b:=A.fb) (o:=A.fo) (ν:=ν) (cs:=c::μ) (Wd:=qI A) F;rw[<-hg]at p;have a9:=J7 A.n;cases n with
 | zero=>
   have e0:Y.g=g2:=p;rw[<-e0]at R;obtain⟨g1,S,hr,g3,⟨k,T⟩,U⟩:=Hz (Wd:=qI A) (γ:=false) (w:=w) C X R;refine J2 (x:=.lk .mE Y) (sh:=s.sh) D H hj Q E (py hj a) rfl (by rw[a];rfl) (λ_=>by rw[a];rfl) (B.I.enq hj Q rfl rfl v rfl) (xz hj a rfl rfl hu ?_) d S (cH rfl) B.mu (λe he=>by simp at he;subst he;exact .inl (.inl rfl)) rfl ⟨k,g3,T,ν,c,μ,e,hk,U,l,K,z,G,L⟩ (.inl λV=>V) sl
   show 4*Mu.meas A.n (Mu.set (λi=>(s.w i).pc) j .mE) s.sh+0<_
   rw[J1 hj v];unfold HY;omega
 | succ n=>
   obtain⟨g1,⟨ab,W⟩,a7⟩:=p;have a8:qI A w:=(cE (P:=P) (A:=A) (Fin:=Fin) (Z:=Z) D).wd B;refine J2 (x:=.lk .ld Y) (sh:=s.sh) D H hj Q E (py hj a) rfl (by rw[a];rfl) (λ_=>by rw[a];rfl) (B.I.still hj Q rfl rfl (by rw[v];rfl)) (xz hj a rfl rfl hu ?_) d (W false w a8) (cH rfl) B.mu kD rfl ⟨n,g2,a7,ν,c,μ,e,hk,R,l,K,z,G,L⟩ (.inl λV=>V) sl
   have e1:Mu.set (λi=>(s.w i).pc) j (cL.lk .ld Y).pc=λi=>(s.w i).pc:=by
    have:=oP (λi=>(s.w i).pc) j
    rw[show(s.w j).pc=(cL.lk .ld Y).pc from v]at this
    exact this
   rw[e1];show _+HY A.n<_;omega
end

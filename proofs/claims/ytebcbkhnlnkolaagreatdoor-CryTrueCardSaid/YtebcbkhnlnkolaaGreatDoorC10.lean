import Derived.Conc.CrowdComm
import Derived.Test.YtebcbkhnlnkolaaGreatDoorC9
set_option linter.all false
namespace Go.cE
section
open Go.Conc
open Go.ConcN (sumTo upd sumTo_upd upd_ne upd_same)
structure bN where
 b:Nat
 n:Nat
 cl:Nat
 cF:Nat
 fb:Nat
 fo:Nat
 gb:Nat
 mb:Nat
 GI:sz->Prop
 res:Nat->AV
 val:Nat->Value
 nm:C7
 ng:Pm
 hb:0<b/\(cl=0\/cl=b+n)
 hn:n<=900
 d1:cF≠fb
 d2:cF≠gb
 d3:cF≠mb
 d4:fb≠gb
 d5:fb≠mb
 d6:gb≠mb
def bN.dir(A:bN):Bool:=A.cl==0
def bN.cell(A:bN)(j:Nat):Nat:=A.fo+2+j
def LA{A:bN}(h:A.dir=true):A.cl=0:=by simpa[bN.dir]using h
def vC{A:bN}(h:A.dir=false):A.cl=A.b+A.n:=by have:=A.hb;simp[bN.dir]at h;omega
def gM:acy:=λ_ _ _=>False
def LB:Nat->acK:=λ_=>none
def bN.Tk(A:bN)(j:Nat)(f:Nat->acK):Prop:=if A.dir then ∃v,f=λi=>if i=A.cell j then some v else none else f=LB
def bH(fo:Nat):Nat->acK:=λi=>if i=fo then some (.int .i32 0)else if i=fo+1 then some (.int .u32 0)else none
section
variable(P:adh)(A:bN)(Fin:acy)
def QV(j:Nat)(k:au)(O:ak)(g:acW)(N:acy):Prop:=
 ∃ kind c rest e,kind≠.early/\g=G (Frame.enter P A.nm.lock #[.pointer (some ⟨A.fb,A.fo,none⟩)] kind) (c::rest)/\O A.fb=none/\k.sh A.fb=some e/\(A.dir=true->A.cell j<e.2)/\
   ∀b x a f,k.Le b->kD b x a->A.GI a->O A.mb=none->A.Tk j f->N b ((O.set A.mb x).set A.fb (.part f)) (jZ kind c rest (.tuple #[]))
def Hx(j:Nat)(k:au)(O:ak)(g:acW)(N:acy):Prop:=
 ∃ kind c rest f x a,kind≠.early/\g=G (Frame.enter P A.nm.unlock #[.pointer (some ⟨A.fb,A.fo,none⟩)] kind) (c::rest)/\O A.fb=some (.part f)/\O A.mb=some x/\kD k x a/\A.GI a/\(A.dir=true->k.cell A.fb (A.cell j)=some (A.val j))/\
   N k ((O.del A.mb).del A.fb) (jZ kind c rest (.tuple #[]))
def kV:Mo:=⟨false,false,λk O g N=>N=gM/\∃a fn tmps todo,P.funcs[a]?=some fn/\fn.results=#[]/\g=G (Frame.enter P A.ng.done #[.pointer (some ⟨A.gb,0,none⟩)] .deferred) [kJ P a tmps todo,cG P]⟩
def E5(N:acy):acy:=if A.dir then T P (kV P A) gM else N
def iv(j:Nat):Mo:=⟨false,false,λk O g N=>QV P A j k O g N\/Hx P A j k O g (E5 P A N)\/(A.dir=false/\N=gM/\O A.fb=none/\∃a z v,(∀w,Sat k O w->stepG P false g w=.comm a #[scase A.cF v z] true .send w #[])/\V k v (A.res j)/\T P (kV P A) gM k O (Go.Conc.served a undef))⟩
def r8:Mo:=⟨false,false,λk O g N=>N=gM/\∃a n,mayWake P g=true/\(∀w s r b,Sat k O w->w.heap[A.cF]?=some (.chan 0 #[] false s r b)->stepG P false g w=.go a {w with heap:=w.heap.setIfInBounds A.cF (.chan 0 #[] true s r b)} #[⟨.obj A.cF,false,true⟩,⟨.obj A.cF,true,true⟩])/\QuitsD P n 0 a⟩
def xK:Mo:=⟨false,false,λk O g N=>N=gM/\∃c rest,g=G (Frame.enter P A.ng.wait #[.pointer (some ⟨A.gb,0,none⟩)] .normal) (c::rest)/\∀a,k.Le a->T P (r8 P A) gM a O (jZ .normal c rest (.tuple #[]))⟩
def UA(k:au)(O:ak)(c:Frame)(rest:acR):Prop:=(∃e,k.sh A.fb=some e)/\∀b x a,k.Le b->(∀j,j<A.n->b.cell A.fb (A.cell j)=some (A.val j))->kD b x a->A.GI a->Fin b ((O.set A.mb x).set A.fb (.part (bH A.fo))) (jZ .normal c rest (.tuple #[]))
def dL(k:au)(O:ak)(g a:acW)(z:Value):Prop:=∀w,Sat k O w->stepG P true g w=.comm a #[rcase A.cF z] true (.recv true) w #[]
def rI:Nat->acY->Mo
 | 0,R=>⟨true,false,λk O g N=>N=gM/\∃b z,dL P A k O g b z/\dL P A k O b b z/\b.status=.running/\(∃e,k.sh A.fb=some e)/\
    ∀c x a,k.Le c->kD c x a->A.GI a->Fin c ((O.set A.mb x).set A.fb (.part (bH A.fo))) (Go.Conc.served b (.tuple #[z,.bool false]))⟩
 | m + 1,R=>⟨true,false,λk O g N=>N=gM/\∃b z,dL P A k O g b z/\dL P A k O b b z/\b.status=.running/\
     ∀j∈R,∀c v,k.Le c->V c v (A.res j)->T P (rI m (R.erase j)) gM c O (Go.Conc.served b (.tuple #[v,.bool true]))⟩
def pv:Nat->Mo
 |0=>if A.dir then⟨true,false,λk O g N=>N=gM/\∃c rest,g=G (Frame.enter P A.ng.wait #[.pointer (some ⟨A.gb,0,none⟩)] .normal) (c::rest)/\UA A Fin k O c rest⟩else⟨true,false,λk O g N=>N=gM/\∃a child,(∀w,Sat k O w->stepG P true g w=.spawn a child w #[])/\T P (xK P A) gM k ak.bot child/\T P (rI P A Fin A.n (List.range A.n)) gM k O a⟩
 | m + 1=>⟨true,false,λk O g N=>N=gM/\∃c rest,g=G (Frame.enter P A.ng.add #[.pointer (some ⟨A.gb,0,none⟩),.int .i64 1] .normal) (c::rest)/\
     T P ⟨true,false,λk O g N=>N=gM/\∃a child,(∀w,Sat k O w->stepG P true g w=.spawn a child w #[])/\T P (iv P A (A.n-(m+1))) gM k ak.bot child/\T P (pv m) gM k O a⟩ gM k O (jZ .normal c rest (.tuple #[]))⟩
def FE(m:Nat):Mo:=⟨true,false,λk O g N=>N=gM/\∃a child,(∀w,Sat k O w->stepG P true g w=.spawn a child w #[])/\T P (iv P A (A.n-(m+1))) gM k ak.bot child/\T P (pv P A Fin m) gM k O a⟩
structure ID where
 m:Mo
 k:au
 O:ak
 g:acW
 N:acy
 h0:g.status=.running
 ht:m.di k O g N
 c:∀k' O' g',N k' O' g'->TT P m k' O' g'
variable {P} in
def ID.node(y:ID P):Node P:=⟨y.m,y.k,y.O,y.g,.di y.N y.h0 y.ht y.c⟩
inductive bp where
 |idle
 |run (h:Bool) (X:Node P)
 |lk (p:BA) (Y:ID P)
 |un (p:BA) (Y:ID P)
 |wait
 |yX
 |dn (p:Hv)
 |gone
inductive jQ where
 |none|eC|wt (p:Hv)|jw|gone
inductive pJ where
 |add (j:Nat)|bE (j:Nat) (p:Hv)|spawn (j:Nat)|recv|parked|off
structure MS where
 d:Bool
 ms:pJ
 sp:Nat
 w:Nat->bp P
 c:jQ
 sh:Mu.Sh
 gc:Nat
 gv:Nat
 gm:Nat
def BA.abs:BA->Mu.Pc
 |.ld=>.out|.ir=>.ir|.rd l=>.rd l|.sq o l=>.sq o l|.sw o l=>.sw o l|.kB o l=>.kB o l|.t1 sv=>.gE sv|.gE sv=>.gE sv|.tq=>.tq|.up sv=>.up sv|.add o sv=>.add o sv
 |.le=>.held|.la=>.held|.back=>.held|.Hj=>.held|.ur=>.held|.ud=>.held|.held=>.held|.jh o=>.jh o|.vX=>.vX|.give=>.give|.ue=>.out|.Da=>.out
variable{P}
def bp.pc:bp P->Mu.Pc
 |.run true _=>.held
 |.lk p _=>p.abs
 |.un p _=>p.abs
 |_=>.out
def bp.owns:bp P->Bool
 |.run h _=>h
 |.un .Hj _=>true
 |.un .ur _=>true
 |_=>false
def Dc:BA->Bool
 |.ld=>true|.ir=>true|.rd _=>true|.sq ..=>true|.sw ..=>true|.kB ..=>true|.t1 _=>true|.gE _=>true|.tq=>true|.up _=>true|.add ..=>true|.le=>true|.la=>true
 |_=>false
def zp:BA->Bool
 |.Hj=>true|.ur=>true|.ud=>true|.held=>true|.jh _=>true|.vX=>true|.give=>true|.ue=>true
 |_=>false
def bp.deaf:bp P->Nat
 |.lk .ld _=>0|.lk .la _=>0|.lk _ _=>1
 |.un .Hj _=>0|.un .ur _=>0|.un .ud _=>0|.un _ _=>1
 |.dn .d1=>0|.dn .d2=>0|.dn _=>1
 |_=>0
def ta:Hv->Nat
 |.a0=>0|.a2=>1|.a4=>1|.ae=>1
 |.w0=>0|.w1=>1|.we=>1|.wa=>0|.w2 _=>1|.w3=>1|.w4=>1|.w5=>1
 |_=>0
def bp.cu:bp P->Nat
 |.idle=>0|.run ..=>20|.lk ..=>20|.un ..=>20|.wait=>19|.yX=>18
 |.dn .d1=>12|.dn .d2=>11|.dn .d4=>10|.dn .d5=>4|.dn .d6=>3|.dn _=>2|.gone=>0
def jQ.cu(gc:Nat):jQ->Nat
 |.none=>0|.eC=>14
 |.wt .w0=>13|.wt .w1=>10|.wt (.w2 k)=>if gc=k then 9 else 11|.wt .w3=>8|.wt .w4=>7|.wt .w5=>6|.wt .we=>5|.wt _=>4
 |.jw=>3|.gone=>0
def pJ.cu:pJ->Nat
 |.add j=>40*j+200|.bE j .a0=>40*j+199|.bE j .a2=>40*j+198|.bE j .a4=>40*j+197|.bE j _=>40*j+196
 |.spawn j=>40*j+225|.recv=>100|.parked=>99|.off=>0
def MS.cu(n:Nat)(s:MS P):Nat:=s.ms.cu+sumTo n (λj=>(s.w j).cu)+s.c.cu s.gc
def BI(n:Nat):Nat:=4*(6*(18*n+1)+16)+20
def bp.ex(n:Nat):bp P->Nat
 |.run ..=>2*BI n|.lk .ld _=>BI n|.lk (.t1 _) _=>1|.lk .le _=>2|.lk .la _=>1
 |.un .Hj _=>5|.un .ur _=>4|.un .ud _=>3|.un .ue _=>1|_=>0
def MS.inner(n:Nat)(s:MS P):Nat:=4*Mu.meas n (λj=>(s.w j).pc) s.sh+sumTo n (λj=>(s.w j).ex n)
def bp.nd:bp P->Option (Node P)
 |.run _ X=>some X|.lk _ Y=>some Y.node|.un _ Y=>some Y.node|_=>none
end
def IE{P}(a b:Option (Node P)):Prop:=∃x y,a=some x/\b=some y/\Relation.TransGen pG x y
def LC{P}:∀a:Option (Node P),Acc IE a:=by
 have key:∀x:Node P,Acc (Relation.TransGen pG) x->Acc IE (some x):=by
  intro x b;induction b with
  |intro x _ c=>exact⟨_,λy ⟨u,v,d,f,h⟩=>by simp_all⟩
 intro a;cases a with
 |none=>exact⟨_,λy ⟨u,v,_,e,_⟩=>by cases e⟩
 |some x=>exact key x ((WellFounded.intro C4).transGen.apply x)
def LG{α:Type}(R:α->α->Prop)(n:Nat)(f' f:Nat->α):Prop:=∃i,i<n/\(∀j,j≠i->f' j=f j)/\R (f' i) (f i)
def Dd{α R}(d:∀a,Acc R a):∀  n  (f:Nat->α),Acc (LG R n) f
 |0,f=>⟨_,λy ⟨i,e,_⟩=>by omega⟩
 | n + 1,f=>by
   have key:∀x:α,Acc R x->∀f:Nat->α,f n=x->Acc (LG R (n+1)) f:=by
    intro x g;induction g with
    | intro x _ h=>
      intro f m;have j:=Dd d n f;induction j with
      | intro f _ b=>
        refine⟨_,λf' ⟨i,e,c,k⟩=>?_⟩;by_cases l:i=n
        . grind
        . exact b f' ⟨i,by omega,c,k⟩ (by grind)
   simp_all
def MS.gh{P}(n:Nat)(s' s:MS P):Prop:=s'.cu n<s.cu n\/(s'.cu n=s.cu n/\(LG IE n (λj=>(s'.w j).nd) (λj=>(s.w j).nd)\/((λj=>(s'.w j).nd)=(λj=>(s.w j).nd)/\s'.inner n<s.inner n)))
def Pq{P}  n :WellFounded (MS.gh (P:=P) n):=by
 have c:WellFounded (LG (IE (P:=P)) n):=⟨Dd LC n⟩;have d:=(Prod.lex ⟨Nat.lt,Nat.lt_wfRel.wf⟩ (Prod.lex ⟨LG (IE (P:=P)) n,c⟩ ⟨Nat.lt,Nat.lt_wfRel.wf⟩)).wf;refine Subrelation.wf (r:=InvImage _ (λs:MS P=>(s.cu n,(λj=>(s.w j).nd),s.inner n))) ?_ (InvImage.wf _ d);intro s' s h;rcases h with h|⟨h,b|⟨b,a⟩⟩
 . exact Prod.Lex.left _ _ h
 . show Prod.Lex _ _ (_,_) (_,_)
   grind
 . show Prod.Lex _ _ (_,_) (_,_)
   rw[h,b];exact Prod.Lex.right _ (Prod.Lex.right _ a)
section
variable{P:adh}
def bp.iH:bp P->Bool
 |.yX=>true|.dn _=>true|.gone=>true|_=>false
def bp.iw:bp P->Bool
 |.idle=>false|.run h _=>h|.lk ..=>false|_=>true
def bp.rel(x:bp P):Bool:=x.iw && !x.owns
def bp.cnt:bp P->Nat
 |.run ..=>1|.lk ..=>1|.un ..=>1|.wait=>1|.yX=>1|.dn .d1=>1|.dn .d2=>1|.dn .d4=>1|_=>0
def bp.busy:bp P->Bool
 |.run ..=>true|.lk ..=>true|.un ..=>true|.wait=>true|.yX=>true|.dn .d1=>true|_=>false
def bp.last:bp P->Bool
 |.dn .d5=>true|.dn .d6=>true|.dn .d7=>true|_=>false
def bp.jx:bp P->Bool
 |.idle=>true|_=>false
def bp.ok:bp P->Bool
 |.lk p _=>Dc p
 |.un p _=>zp p
 |.dn p=>(match p with|.d1=>true|.d2=>true|.d4=>true|.d5=>true|.d6=>true|.d7=>true|_=>false)
 |_=>true
def jQ.busy:jQ->Bool
 |.eC=>true|.wt _=>true|.jw=>true|_=>false
def jQ.ok:jQ->Bool
 |.wt p=>(match p with|.w0=>true|.w1=>true|.w2 _=>true|.w3=>true|.w4=>true|.w5=>true|.we=>true|.wa=>true|_=>false)
 |_=>true
def jQ.waits:jQ->Bool
 |.wt .w3=>true|.wt .w4=>true|_=>false
def jQ.LH:jQ->Bool
 |.wt .w5=>true|.wt .we=>true|.wt .wa=>true|.jw=>true|.gone=>true|_=>false
def jQ.isNone:jQ->Bool
 |.none=>true|_=>false
def jQ.eF:jQ->Bool
 |.gone=>true|_=>false
def pJ.pend:pJ->Nat
 |.bE _ .a4=>1|.bE _ .ae=>1|.spawn _=>1|_=>0
structure bR(n:Nat)(s:MS P):Prop where
 g1:s.gc=sumTo n (λj=>(s.w j).cnt)+s.ms.pend
 g2:s.gv<=1
 FF:s.gv=1->s.c.waits=true/\s.gm=0
 g3:∀j,j<n->(s.w j=.dn .d5\/s.w j=.dn .d6)->s.gv=1/\s.gc=0
 Hy:∀i j,i<n->j<n->(s.w i).last=true->(s.w j).last=true->i=j
 g4:∀j,j<n->s.w j=.dn .d7->s.gv=0/\s.gc=0/\s.gm=0/\s.c.waits=true
 g5:s.gm<=1/\(s.gm=1->s.c.waits=true/\s.gv=0/\s.gc=0/\∀j,j<n->(s.w j).last=false)
 g6:s.c.waits=true->s.gv=0->s.gm=0->∃j,j<n/\s.w j=.dn .d7
 g7:s.gv=1->s.gc=0->∃j,j<n/\(s.w j=.dn .d5\/s.w j=.dn .d6)
 g8:s.c.LH=true->s.gc=0/\s.gv=0/\s.gm=0/\∀j,j<n->s.w j=.gone
 g9:∀k,s.c=.wt (.w2 k)->k≠0
 ok:∀j,j<n->(s.w j).ok=true
 Tq:s.c.ok=true
 sp:s.sp<=n
 idle:∀j,j<n->((s.w j).jx=true↔s.sp<=j)
 ms:match s.ms with
  |.add j=>s.sp+j=n/\s.c=.none
  |.bE j p=>s.sp+j=n/\s.c=.none/\1<=j/\(p=.a0\/p=.a2\/p=.a4\/p=.ae)
  |.spawn j=>s.sp+j+1=n/\s.c=.none
  |.recv=>s.sp=n/\s.c≠.none
  |.parked=>s.sp=n/\s.c≠.none/\s.c≠.gone/\∀j,j<n->s.w j≠.wait
  |.off=>s.sp=n/\s.c≠.none
 early:s.d=false->s.c=.none->∀j,j<n->(s.w j).iH=false
 mu:Mu.Inv n (λj=>(s.w j).pc) s.sh
end
variable(P:adh)(A:bN)(Fin:acy)
def MS.rem(n:Nat)(s:MS P):acY:=(List.range n).filter λj=>!(s.w j).iH
def dD(s:MS P)(i:Nat):Prop:=(i=0/\(match s.ms with|.add _=>True|.spawn _=>True|.recv=>True|_=>False))\/(∃j,j<A.n/\i=A.b+j/\(match s.w j with|.run ..=>True|.yX=>True|_=>False))\/(i=A.cl/\(match s.c with|.eC=>True|.jw=>True|_=>False))
def gy(s:MS P)(i:Nat):Prop:=(i=0/\(match s.ms with|.bE ..=>True|_=>False))\/(∃j,j<A.n/\i=A.b+j/\(match s.w j with|.lk ..=>True|.un ..=>True|.dn _=>True|_=>False))\/(i=A.cl/\(match s.c with|.wt _=>True|_=>False))
def fq(s:MS P)(i:Nat):Prop:=(i=0/\s.ms=.parked)\/(∃j,j<A.n/\i=A.b+j/\s.w j=.wait)
def cD(s:MS P)(i:Nat):Mo:=
 if i=0 then(match s.ms with|.add j=>pv P A Fin j|.spawn j=>FE P A Fin j|_=>rI P A Fin (MS.rem P A.n s).length (MS.rem P A.n s))
 else if i<A.b+A.n then(match s.w (i-A.b)with|.run ..=>iv P A (i-A.b)|_=>kV P A)else(match s.c with|.eC=>xK P A|_=>r8 P A)
def FG(s:MS P)(i:Nat):(cD P A Fin s i).main=(i==0):=by
 have c:∀m R,(rI P A Fin m R).main=true:=λm R=>by cases m<;>rfl
 have b:∀m,(pv P A Fin m).main=true:=λm=>by
  cases m with
  |zero=>unfold pv;grind
  |succ m=>rfl
 unfold cD;by_cases a:i=0
 . subst a
   simp only[aan,beq_self_eq_true];split
   . exact b _
   . rfl
   simp_all
 . have:(i==0)=false:=by simp_all
   rw[aaj a,this];split
   . split<;>rfl
   . split<;>rfl
def Hz(j:Nat)(x:bp P)(k:au)(O:ak)(g:acW):Prop:=
 match x with
 |.lk p Y=>∃kind c rest e,kind≠.early/\oi P A.nm A.fb A.fo kind p (c::rest) g/\Y.m=iv P A j/\O A.fb=none/\k.sh A.fb=some e/\(A.dir=true->A.cell j<e.2)/\∀b x a f,k.Le b->kD b x a->A.GI a->O A.mb=none->A.Tk j f->Y.N b ((O.set A.mb x).set A.fb (.part f)) (jZ kind c rest (.tuple #[]))
 | .un p Y=>∃kind c rest,kind≠.early/\oi P A.nm A.fb A.fo kind p (c::rest) g/\Y.m=iv P A j/\
    ((p=.Hj\/p=.ur)->∃f x a,O A.fb=some (.part f)/\O A.mb=some x/\kD k x a/\A.GI a/\(A.dir=true->k.cell A.fb (A.cell j)=some (A.val j))/\E5 P A Y.N k ((O.del A.mb).del A.fb) (jZ kind c rest (.tuple #[])))/\
    (¬(p=.Hj\/p=.ur)->E5 P A Y.N k O (jZ kind c rest (.tuple #[])))
 |.dn p=>∃d fn tmps todo,P.funcs[d]?=some fn/\fn.results=#[]/\rE P A.ng A.gb .deferred p [kJ P d tmps todo,cG P] g
 |_=>False
def Tr(x:jQ)(k:au)(O:ak)(g:acW):Prop:=
 match x with
 |.wt p=>∃c rest,rE P A.ng A.gb .normal p (c::rest) g/\if A.dir then UA A Fin k O c rest else ∀a,k.Le a->T P (r8 P A) gM a O (jZ .normal c rest (.tuple #[]))
 |_=>False
def V9(x:pJ)(k:au)(O:ak)(g:acW):Prop:=
 match x with
 |.bE j p=>∃c rest,rE P A.ng A.gb .normal p (c::rest) g/\T P (FE P A Fin (j-1)) gM k O (jZ .normal c rest (.tuple #[]))
 |_=>False
def UB(s:MS P)(i:Nat)(k:au)(O:ak)(g:acW):Prop:=(i=0/\V9 P A Fin s.ms k O g)\/(∃j,j<A.n/\i=A.b+j/\Hz P A j (s.w j) k O g)\/(i=A.cl/\Tr P A Fin s.c k O g)
def RO(s:MS P)(i:Nat):Prop:=(∃j sv Y,j<A.n/\i=A.b+j/\s.w j=.lk (.gE sv) Y/\s.sh.ms=0)\/(i=A.cl/\s.c=.wt .w4/\s.gm=0)
def W9(s:MS P)(i:Nat)(k:au)(O:ak)(g:acW):Prop:=
 (i=0/\∃a z,g=parked a #[rcase A.cF z] (.recv true)/\dL P A k O a a z/\a.status=.running/\(rI P A Fin (MS.rem P A.n s).length (MS.rem P A.n s)).di k O a gM)\/
 (∃j,j<A.n/\i=A.b+j/\∃a z v,g=parked a #[scase A.cF v z] .send/\V k v (A.res j)/\O A.fb=none/\T P (kV P A) gM k O (Go.Conc.served a undef)/\A.dir=false)
def dM(s:MS P)(i:Nat):Nat:=
 if i=0 then(match s.ms with|.bE _ p=>ta p|.off=>(match s.c with|.wt p=>ta p|_=>0)|_=>0)
 else if i<A.b+A.n then(s.w (i-A.b)).deaf else(match s.c with|.wt p=>ta p|_=>0)
def kW(w:World):Prop:=(∃v,w.cell? ⟨A.gb,0,none⟩=some v)/\(∃v,w.cell? ⟨A.gb,1,none⟩=some v)/\∃v,w.cell? ⟨A.fb,A.fo,none⟩=some v
def yY(A:bN):Loc->Prop
 |.cell a=>a.spot=none/\((a.block=A.fb/\(a.off=A.fo\/a.off=A.fo+1))\/(a.block=A.gb/\(a.off=0\/a.off=1)))
 |.obj r=>r=A.cF/\A.dir=false
 |_=>False
def dY(s:MS P)(i:Nat):Prop:=(∃j,j<A.n/\i=A.b+j/\(s.w j).busy=true)\/(i=A.cl/\s.c.busy=true)
def bU(s:MS P)(i:Nat):Prop:=i=0\/(∃j,j<s.sp/\i=A.b+j)\/(i=A.cl/\s.c≠.none)
abbrev wh(s:MS P):Prop:=(A.dir=true->s.c≠.none->s.ms=.off)/\(A.dir=true->s.ms≠.recv/\s.ms≠.parked/\s.c≠.eC/\s.c≠.jw/\s.c≠.gone)/\(A.dir=false->s.ms≠.off)
structure cZ(Z:Base)(s:MS P)(kk:adg)(OO:adf)(J M:acT)(gsz:Nat)(w:World)(t:Trace):Prop where
 I:bR A.n s
 size:gsz=A.b+s.sp+(if s.c.isNone||A.dir then 0 else 1)
 dd:s.d=A.dir
 off:wh P A s
 yZ:A.dir=true->∀j,j<A.n->((s.w j).iw=false->(∀i,(kk i).cell A.fb (A.cell j)=none)/\∀m a ad,touchAt t m=some a->a.loc=.cell ad->ad.block=A.fb/\ad.off=A.cell j->m<Z.N0)/\((s.w j).rel=true->(kk (A.b+j)).cell A.fb (A.cell j)=some (A.val j))
 Ac:A.dir=false->∃x tm,w.heap[A.cF]?=some (.chan 0 #[] s.c.eF x x tm)
 mu:ShM A.fb A.fo w s.sh
 gr:rD A.gb w s.gc s.gv s.gm
 vD:∃c e,w.heap[A.fb]?=some (.cells c e (0,0))
 zq:∃c e,w.heap[A.gb]?=some (.cells c e (0,0))
 gz:∀i,(A.dir=false->OO i A.cF=none)/\OO i A.gb=none
 eD:∀i,(kk i).cell A.fb A.fo=none/\(kk i).cell A.fb (A.fo+1)=none/\(kk i).cell A.gb 0=none/\(kk i).cell A.gb 1=none
 tok:∀i x,OO i A.fb=some x->∃j f,j<A.n/\i=A.b+j/\(s.w j).owns=true/\x=.part f/\∀l,f l≠none->A.dir=true/\l=A.cell j
 zr:∀j,j<A.n->(s.w j).owns=true->OO (A.b+j) A.fb≠none
 OM:(∀j,j<A.n->(s.w j).owns=false)->∃x a,OO Z.lk A.mb=some x/\kD (kk Z.lk) x a/\A.GI a
 ON:∀c,OO Z.lk c≠none->c=A.mb/\∀j,j<A.n->(s.w j).owns=false
 hJ:∀i,J i↔dY P A s i
 hM:∀p,M p->t.heard p/\Z.N0<=p/\((t.act? p=some (.mark (.releaseMerge ⟨A.gb,0,none⟩))/\(s.c=.none\/s.c=.eC\/∃q,s.c=.wt q))\/(s.c=.gone/\t.act? p=some (.close A.cF)))
 shut:s.c=.gone->∃p,M p/\t.act? p=some (.close A.cF)/\t.heard p
 quiet:∀m a,touchAt t m=some a->yY A a.loc->a.kind=.plain->∀i,bU P A s i->Knows t i m
 said:∀m a,touchAt t m=some a->yY A a.loc->a.kind=.said->Knows t (if s.c.isNone then 0 else A.cl) m
 old:∀i,bU P A s i->∀m a,m<Z.N0->touchAt t m=some a->a.loc.isMemory=true -> ¬Z.Shun a.loc->Knows t i m
 norel:∀m a,Z.N0<=m->t.act? m≠some (.mark (.release a))
 De:∀i,i≠Z.lk -> ¬bU P A s i->kk i=au.bot/\OO i=ak.bot
 sS:∀a,yY A a->(∃c,a=.cell c/\c.block=A.gb)->Z.Shun a
 jR:∀c:Addr,c.block=A.fb/\(c.off=A.fo\/c.off=A.fo+1\/(A.dir=true/\∃j,j<A.n/\c.off=A.cell j)) -> ¬Z.Shun (.cell c)
 fa:(A.dir=false->Z.W0.heap.size<=A.cF)/\Z.W0.heap.size<=A.fb/\Z.W0.heap.size<=A.gb
 la:Z.la=⟨A.fb,A.fo,none⟩
 n0:Z.N0<=t.size
def Node.RP{P:adh}:Node P->Prop
 |⟨_,_,_,_,.di ..⟩=>True
 |_=>False
def vE{P:adh}(x X:Node P):Prop:=∀y,(y=x\/Relation.TransGen pG y x)->y.RP->(y=X\/Relation.TransGen pG y X)
def vE.sub{P:adh}{x y X:Node P}(h:vE x X)(a:pG y x):vE y X:=λz b c=>h z (b.elim (λe=>.inr (by rw[e];exact .single a)) (λe=>.inr (e.tail a))) c
def vE.refl{P:adh}(X:Node P):vE X X:=λy a _=>a
def Pr(s:MS P)(i:Nat)(x:Node P):Prop:=∀j h X,j<A.n->i=A.b+j->s.w j=.run h X->vE x X
def cd(Z:Base)(a:A.b+A.n+1<=Z.lk):rB P where
 S:=MS P
 r:=MS.gh A.n
 wf:=Pq A.n
 mo:=cD P A Fin
 main:=FG P A Fin
 top:=A.b+A.n+1
 lk:=Z.lk
 Ua:=a
 Live:=dD P A
 Walk:=gy P A
 At:=UB P A Fin
 zZ:=RO P A
 oA:=fq P A
 Fs:=W9 P A Fin
 deaf:=dM P A
 Wd:=kW A
 Ex:=cZ P A Z
 O9:=Pr P A
 tie:=λs i x y hs h j b X c d e=>(h j b X c d e).sub hs
end
section
open Go.Conc
open Go.ConcN (sumTo upd sumTo_upd upd_ne upd_same)
def xL{t}(u:Trace){p x}(h:t.act? p=some x)(b:t.heard p):(t++u).act? p=some x/\(t++u).heard p:=by have a:=lt_of_act? h;exact⟨by rw[act?_old a];exact h,(heard_old a).2 b⟩
structure Df  b o  (w w':World):Prop where
 cell:∀l,l=o\/l=o+1->w'.cell? ⟨b,l,none⟩=w.cell? ⟨b,l,none⟩
 fz:∀l,w'.frozen? ⟨b,l,none⟩=w.frozen? ⟨b,l,none⟩
def Df.of_heap{b o w w'}(h:w'.heap[b]?=w.heap[b]?):Df b o w w':=⟨λl _=>by simp only[World.cell?,h],λl=>by simp only[World.frozen?,h]⟩
def ShM.same{b o w w' s}(h:ShM b o w s)(e:Df b o w w'):ShM b o w' s:=⟨by rw[e.cell _ (.inl rfl)];exact h.cw,by rw[e.cell _ (.inr rfl)];exact h.cs,λi=>by rw[e.fz];exact h.fz i⟩
def rD.same{b w w' c v m}(h:rD b w c v m)(e:Df b 0 w w'):rD b w' c v m:=⟨by rw[e.cell _ (.inl rfl)];exact h.cw,by rw[e.cell _ (.inr rfl)];exact h.cs,λi=>by rw[e.fz];exact h.fz i⟩
def dU{t u m a}(h:touchAt (t++u) m=some a):(touchAt t m=some a/\m<t.size)\/∃op∈u,op.act.touch?=some a:=by
 obtain⟨x,d,b⟩:=touch_of h;rcases getElem?_append_cases d with⟨e,c⟩|⟨_,f⟩
 . exact .inl ⟨by rw[touchAt_of c];exact b,e⟩
 grind
def qP{t u:Trace}{m x}(h:(t++u).act? m=some x):(t.act? m=some x/\m<t.size)\/∃op∈u,op.act=x:=by
 unfold Trace.act? at h;obtain⟨y,b,rfl⟩:=aat.1 h;rcases getElem?_append_cases b with⟨c,a⟩|⟨_,d⟩
 . exact .inl ⟨by simp[Trace.act?,a],c⟩
 grind
section
variable{P:adh}{A:bN}{Fin:acy}{Z:Base}{s:MS P}{kk kk':adg}{OO OO':adf}{J M:acT}{gsz:Nat}{w w':World}{t:Trace}
def cZ.kh(h:cZ P A Z s kk OO J M gsz w t)  u  (j:∀op∈u,∀a,op.act.touch?=some a->yY A a.loc->a.kind≠.plain):∀m a,touchAt (t++u) m=some a->yY A a.loc->a.kind=.plain->∀i,bU P A s i->Knows (t++u) i m:=λm a c d e i f=>by
 rcases dU c with⟨b,_⟩|⟨op,g,b⟩
 . exact(h.quiet m a b d e i f).app u
 grind
def cZ.oE(h:cZ P A Z s kk OO J M gsz w t)  u  (i:∀op∈u,∀a,op.act.touch?=some a->yY A a.loc->a.kind≠.said):∀m a,touchAt (t++u) m=some a->yY A a.loc->a.kind=.said->Knows (t++u) (if s.c.isNone then 0 else A.cl) m:=λm a d e f=>by
 rcases dU d with⟨b,_⟩|⟨op,g,b⟩
 . exact(h.said m a b e f).app u
 grind
def cZ.p9(h:cZ P A Z s kk OO J M gsz w t)  u :∀i,bU P A s i->∀m a,m<Z.N0->touchAt (t++u) m=some a->a.loc.isMemory=true -> ¬Z.Shun a.loc->Knows (t++u) i m:=λi g m a e j b k=>by
 have c:m<t.size:=aaG e h.n0
 have l:touchAt t m=some a:=by obtain⟨x,f,d⟩:=touch_of j;rw[acg c]at f;rw[touchAt_of f];exact d
 exact(h.old i g m a e l b k).app u
def cZ.jy(h:cZ P A Z s kk OO J M gsz w t)  u  (f:∀op∈u,∀a,op.act≠.mark (.release a)):∀m a,Z.N0<=m->(t++u).act? m≠some (.mark (.release a)):=λm a c e=>by
 rcases qP e with⟨b,_⟩|⟨op,d,b⟩
 . exact h.norel m a c b
 simp_all
def cZ.vF(h:cZ P A Z s kk OO J M gsz w t)  u :∀p,M p->(t++u).heard p/\Z.N0<=p/\(((t++u).act? p=some (.mark (.releaseMerge ⟨A.gb,0,none⟩))/\(s.c=.none\/s.c=.eC\/∃q,s.c=.wt q))\/(s.c=.gone/\(t++u).act? p=some (.close A.cF))):=λp e=>by
 obtain⟨b,i,a⟩:=h.hM p e;rcases a with⟨a,d⟩|⟨a,d⟩
 . obtain⟨f,g⟩:=xL u a b
   simp_all
 . obtain⟨f,g⟩:=xL u d b
   simp_all
def cZ.mK(h:cZ P A Z s kk OO J M gsz w t)  u :s.c=.gone->∃p,M p/\(t++u).act? p=some (.close A.cF)/\(t++u).heard p:=λa=>by
 obtain⟨p,e,b,d⟩:=h.shut a;obtain⟨f,g⟩:=xL u b d
 grind
def FH(I:bR A.n s){i}(d:dD P A s i):bU P A s i:=by
 rcases d with⟨h,_⟩|⟨j,b,c,f⟩|⟨b,c⟩
 . exact .inl h
 . refine .inr (.inl ⟨j,?_,c⟩)
   have a:=I.idle j b;cases e:s.w j with
   |idle=>simp_all
   |_=>rw[e]at a;simp[bp.jx]at a;omega
 . refine .inr (.inr ⟨b,λe=>?_⟩)
   simp_all
def LI{i}(a:dD P A s i):i<A.b+A.n+1:=by
 have:=A.hb;rcases a with⟨h,_⟩|⟨j,c,d,e⟩|⟨c,d⟩<;>omega
def cZ.Ps(h:cZ P A Z s kk OO J M gsz w t){i l}(a:aV (OO i) A.fb l):A.dir=true/\∃j,j<A.n/\(i=A.b+j/\(s.w j).owns=true)/\l=A.cell j:=by
 obtain⟨x,c⟩:=a.own;obtain⟨j,f,d,e,k,rfl,p⟩:=h.tok i x c;rcases a with⟨o,q⟩|⟨m,q,_⟩|⟨g,q,r⟩
 . simp_all
 . simp_all
 . rw[c]at q;cases q;grind
def Ad{x:bp P}(h:x.owns=true):x.iw=true:=by cases x<;>simp_all [bp.owns,bp.iw]
def zt(h:cZ P A Z s kk OO J M gsz w t){i e}(n:jg (kk i) (OO i) w.heap.size e){a}(p:(MemAct.ofEvent e).touch?=some a):¬yY A a.loc:=λb=>by
 have q:A.fb<w.heap.size:=by obtain⟨c,e,k⟩:=h.vD;grind
 have u:A.gb<w.heap.size:=by obtain⟨c,e,k⟩:=h.zq;grind
 have g:∀l,(l=A.fo\/l=A.fo+1) -> ¬aV (OO i) A.fb l:=λl f m=>by obtain⟨_,_,_,_,e⟩:=h.Ps m;unfold bN.cell at e;omega
 have j:∀l,¬aV (OO i) A.gb l:=λl=>dX (h.gz i).2
 obtain⟨v,y,z,B⟩:=h.eD i
 rcases jX n p with⟨C,f,m⟩|⟨r,f,d⟩
 . rw[f]at b
   obtain⟨_,b⟩:=b
   grind
 . rw[f]at b
   obtain⟨b,hd⟩:r=A.cF/\A.dir=false:=b;subst b
   rcases d with⟨o,d⟩|d
   . rw[(h.gz i).1 hd]at d;cases d
   . obtain⟨x,D,k⟩:=h.Ac hd
     simp_all
def zu{k O B e}(b:jg k O B e)  a :MemAct.ofEvent e≠.mark (.release a):=by
 obtain⟨loc,wr,c⟩:=e;cases loc with
 |mark m=>simp only[jg]at b;cases m<;>simp_all [jW,m5,MemAct.ofEvent]
 |cell d=>simp[MemAct.ofEvent]
 |obj r=>cases wr<;>cases c<;>simp[MemAct.ofEvent]
 |_=>simp[jg]at b
def cZ.own(h:cZ P A Z s kk OO J M gsz w t)(hZ:A.b+A.n+1<=Z.lk){i}(V:dD P A s i){k' O' es}(D:Eff (kk i) (OO i) w k' O' w' es)  u
 (H:∀op∈u,∃e,jg (kk i) (OO i) w.heap.size e/\op.act=.ofEvent e):cZ P A Z s (bT kk i k') (bT OO i O') J M gsz w' (t++u):=by
 have K:i≠Z.lk:=by have:=LI V;omega
 have Q:=FH h.I V;have W:A.fb<w.heap.size:=by obtain⟨c,e,d⟩:=h.vD;grind
 have X:A.gb<w.heap.size:=by obtain⟨c,e,d⟩:=h.zq;grind
 have hC:A.dir=false->A.cF<w.heap.size:=λhd=>by obtain⟨x,tm,d⟩:=h.Ac hd;grind
 have R:=D.keep A.gb X (h.gz i).2
 have S:Df A.fb A.fo w w'/\∃c e,w'.heap[A.fb]?=some (.cells c e (0,0)):=by
  cases q:OO i A.fb with
  |none=>have:=D.keep A.fb W q;exact⟨.of_heap this,by rw[this];exact h.vD⟩
  | some x=>
    obtain⟨j,f,_,_,_,rfl,hf⟩:=h.tok i x q;obtain⟨c,e,d⟩:=h.vD;obtain⟨c',N,h3,h4⟩:=D.part A.fb f W q c e d;refine⟨⟨λl V=>?_,λl=>?_⟩,c',e,N⟩
    . simp only[World.cell?,d,N];rw[h4 l (aaY λhh=>by have:=(hf l hh).2;unfold bN.cell at this;omega)]
    . simp only[World.frozen?,d,N]
 have p:∀c,c<w.heap.size->OO i c=none->O' c=none:=λc hc hn=>by
  cases q:O' c with
  |none=>rfl
  | some x=>
    rcases D.own c x q with⟨y,hy,_⟩|hy
    . simp_all
    . omega
 have z:∀l,(l=A.fo\/l=A.fo+1) -> ¬aV (OO i) A.fb l:=λl V hc=>by obtain⟨_,_,_,_,e⟩:=h.Ps hc;unfold bN.cell at e;omega
 have a7:∀l,l<A.n->(s.w l).iw=false -> ¬aV (OO i) A.fb (A.cell l):=λl _ O hc=>by
  obtain⟨_,j,_,⟨_,T⟩,e⟩:=h.Ps hc;obtain rfl:l=j:=by unfold bN.cell at e;omega
  rw[Ad T]at O;cases O
 have E:∀c l,c<w.heap.size -> ¬aV (OO i) c l->(kk i).cell c l=none->k'.cell c l=none:=λc l hc av hn=>by
  cases q:k'.cell c l with
  |none=>rfl
  | some v=>
    rcases D.cell c l v q with d|d|d
    . simp_all
    . simp_all
    . omega
 obtain⟨a8,a9,ab,al⟩:=h.eD i
 have U:∀op∈u,∀a,op.act.touch?=some a -> ¬yY A a.loc:=λop k a G=>by obtain⟨e,B,C⟩:=H op k;rw[C]at G;exact zt h B G
 refine⟨h.I,h.size,h.dd,h.off,λhd l F=>⟨λO=>⟨λj=>?_,λm a ad G e e'=>?_⟩,λhr=>?_⟩,λhd=>by rw[D.keep A.cF (hC hd) ((h.gz i).1 hd)];exact h.Ac hd,h.mu.same S.1,h.gr.same (.of_heap R),S.2,by rw[R];exact h.zq,λj=>?_,λj=>?_,λj x Y=>?_,λj hj T=>?_,λT=>?_,λc hc=>?_,h.hJ,h.vF u,h.mK u,
  h.kh u (λop k a G hs=>absurd hs (U op k a G)),h.oE u (λop k a G hs=>absurd hs (U op k a G)),h.p9 u,h.jy u (λop k a=>by obtain⟨e,B,C⟩:=H op k;rw[C];exact zu B a),λj hj hb=>?_,h.sS,h.jR,h.fa,h.la,by simp;exact aar h.n0 (abf _ _)⟩
 . have d:=((h.yZ hd l F).1 O).1 j
   by_cases e:j=i
   . subst e;rw[ar];simp_all
   . rw[az _ _ e];exact d
 . rcases dU G with⟨d,_⟩|⟨op,k,d⟩
   . exact((h.yZ hd l F).1 O).2 m a ad d e e'
   . obtain⟨ev,B,C⟩:=H op k
     rw[C]at d
     rcases jX B d with⟨ad,L,hc⟩|⟨r,L,_⟩
     . rw[e]at L
       cases L;rw[e'.1,e'.2]at hc
       rcases hc with hc|hc|⟨_,v,hc⟩
       . simp_all
       . omega
       . have:=((h.yZ hd l F).1 O).1 i
         simp_all
     simp_all
 . have d:=(h.yZ hd l F).2 hr
   by_cases e:A.b+l=i
   . rw[e,ar];rw[e]at d;exact D.le.1 _ _ _ d
   . rw[az _ _ e];exact d
 . by_cases e:j=i
   . subst e;rw[ar];exact⟨λhd=>p _ (hC hd) ((h.gz j).1 hd),p _ X (h.gz j).2⟩
   . rw[az _ _ e];exact h.gz j
 . by_cases e:j=i
   . subst e;rw[ar]
     exact⟨E _ _ W (z _ (.inl rfl)) a8,E _ _ W (z _ (.inr rfl)) a9,E _ _ X (dX (h.gz j).2) ab,E _ _ X (dX (h.gz j).2) al⟩
   . rw[az _ _ e];exact h.eD j
 . by_cases e:j=i
   . subst e;rw[ar]at Y
     rcases D.own _ x Y with⟨y,hy,hb⟩|hy
     . obtain⟨l,f,d,N,h3,rfl,h4⟩:=h.tok j y hy
       cases x with
       |obj o=>exact hb.elim
       |tail m=>exact hb.elim
       |part g=>exact⟨l,g,d,N,h3,rfl,λa q=>h4 a (hb a q)⟩
     . omega
   . rw[az _ _ e]at Y;exact h.tok j x Y
 . have d:=h.zr j hj T
   by_cases e:A.b+j=i
   . rw[e,ar]
     rw[e]at d;cases q:OO i A.fb with
     |none=>simp_all
     | some x=>
       obtain⟨_,f,_,_,_,rfl,_⟩:=h.tok i x q;obtain⟨f',N⟩:=D.tok _ f q
       grind
   . rw[az _ _ e];exact d
 . rw[az _ _ (za K),az _ _ (za K)];exact h.OM T
 . rw[az _ _ (za K)]at hc;exact h.ON c hc
 . have e:j≠i:=λe=>hb (e ▸ Q)
   rw[az _ _ e,az _ _ e];exact h.De j hj hb
def cZ.still(h:cZ P A Z s kk OO J M gsz w t)  u  (i:∀op∈u,op.act.touch?=none/\∀a,op.act≠.mark (.release a)):cZ P A Z s kk OO J M gsz w (t++u):=
 ⟨h.I,h.size,h.dd,h.off,λhd l c=>⟨λf=>⟨((h.yZ hd l c).1 f).1,λm a j d e k=>(dU d).elim (λg=>((h.yZ hd l c).1 f).2 m a j g.1 e k) (λ⟨op,b,g⟩=>by simp_all)⟩,(h.yZ hd l c).2⟩,h.Ac,h.mu,h.gr,h.vD,h.zq,h.gz,h.eD,h.tok,h.zr,h.OM,h.ON,h.hJ,h.vF u,h.mK u,h.kh u (λop b a d=>by simp_all),h.oE u (λop b a d=>by simp_all),
   h.p9 u,h.jy u (λop b=>(i op b).2),h.De,h.sS,h.jR,h.fa,h.la,by simp;exact aar h.n0 (abf _ _)⟩
def bh  y :z5 (cd P A Fin Z y) where
 own:=λa m _ he u _ _ o=>cZ.own a y m he u o
 slip:=λa u _ hu=>cZ.still a u hu
 draw:=λ{s kk OO J M n w t} a d=>by have a:cZ P A Z s kk OO J M n w t:=a;exact⟨a.I,a.size,a.dd,a.off,a.yZ,a.Ac,a.mu.heap rfl,a.gr.same (.of_heap rfl),a.vD,a.zq,a.gz,a.eD,a.tok,a.zr,a.OM,a.ON,a.hJ,a.hM,a.shut,a.quiet,a.said,a.old,a.norel,a.De,a.sS,a.jR,a.fa,a.la,a.n0⟩
 sV := λ{s kk OO J M n w t j g} a B k O b=>by
  have a:cZ P A Z s kk OO J M n w t:=a
  have q:s.c.eF=false:=by
   rcases B with⟨_,hm⟩|⟨l,m,_,hw⟩
   . have:=a.I.ms
     rw[hm]at this;have:=this.2.2.1;cases e:s.c<;>simp_all [jQ.eF]
   . cases e:s.c with
     | gone=>
       have:=(a.I.g8 (by rw[e];rfl)).2.2.2 l m
       simp_all
     |_=>rfl
  have hd:A.dir=false:=by
   cases e:A.dir with
   |false=>rfl
   | true=>
     rcases b with⟨h0,_⟩|⟨l,_,_,h,z,v,_,_,_,_,hd⟩
     . have:=A.hb
       rcases B with⟨_,hm⟩|⟨l,m,f,hw⟩
       . exact absurd hm (a.off.2.1 e).2.1
       . omega
     simp_all
  obtain⟨x,C,r⟩:=a.Ac hd;rw[q]at r;rcases b with⟨_,h,z,rfl,_⟩|⟨l,_,_,h,z,v,rfl,_⟩
  . exact again_recv_open r
  . exact again_send_open r
 wd:=λ{s kk OO J M n w t} a=>by have a:cZ P A Z s kk OO J M n w t:=a;exact⟨⟨_,a.gr.cw⟩,⟨_,a.gr.cs⟩,⟨_,a.mu.cw⟩⟩
 kO:=λ{s i k O g} b=>by
  rcases b with⟨_,b⟩|⟨j,_,_,b⟩|⟨_,b⟩
  . cases e:s.ms with
    |bE j p=>rw[e]at b;obtain⟨c,rest,f,_⟩:=b;exact f.running
    |_=>rw[e]at b;exact b.elim
  . cases e:s.w j with
    |lk p Y=>rw[e]at b;obtain⟨kind,c,rest,_,_,f,_⟩:=b;exact f.running
    |un p Y=>rw[e]at b;obtain⟨kind,c,rest,_,f,_⟩:=b;exact f.running
    |dn p=>rw[e]at b;obtain⟨D,fn,tmps,todo,_,_,f⟩:=b;exact f.running
    |_=>rw[e]at b;exact b.elim
  . cases e:s.c with
    |wt p=>rw[e]at b;obtain⟨c,rest,f,_⟩:=b;exact f.running
    |_=>rw[e]at b;exact b.elim
end
end
section
open Go.Conc
open Go.ConcN (sumTo upd sumTo_upd upd_ne upd_same)
variable{P:adh}
def MS.aW(s:MS P)(j:Nat)(x:bp P)(sh:Mu.Sh):MS P:={s with w:=λi=>if i=j then x else s.w i,sh:=sh}
section
variable{s:MS P}{j n:Nat}{x:bp P}{sh:Mu.Sh}
def aX:(s.aW j x sh).w j=x:=by simp[MS.aW]
def cx{i}(h:i≠j):(s.aW j x sh).w i=s.w i:=by simp[MS.aW,h]
def HA:(λi=>((s.aW j x sh).w i).pc)=Mu.set (λi=>(s.w i).pc) j x.pc:=by
 funext i;by_cases h:i=j
 . subst h;rw[aX,Mu.aj]
 . rw[cx h,Mu.ai _ _ h]
def te(F:bp P->Nat)(hj:j<n):sumTo n (λi=>F ((s.aW j x sh).w i))+F (s.w j)=sumTo n (λi=>F (s.w i))+F x:=by
 have e:(λi=>F ((s.aW j x sh).w i))=upd (λi=>F (s.w i)) j (F x):=by
  funext i;by_cases h:i=j
  . subst h;rw[aX,upd_same]
  . rw[cx h,upd_ne _ _ h]
 rw[e];have:=sumTo_upd (λi=>F (s.w i)) (F x) id hj
 simp_all
def bp.work:bp P->Bool
 |.run ..=>true|.lk ..=>true|.un ..=>true|_=>false
def bF{x:bp P}(h:x.work=true):x.cnt=1/\x.cu=20/\x.iH=false/\x.last=false/\x.jx=false/\x.busy=true/\x≠.gone/\x≠.wait/\∀p,x≠.dn p:=by cases x<;>simp_all [bp.work,bp.cnt,bp.cu,bp.iH,bp.last,bp.jx,bp.busy]
def bp.BJ:bp P->Bool
 |.run ..=>true|.lk ..=>true|.un ..=>true|.yX=>true|.dn .d1=>true|.dn .d2=>true|.dn .d4=>true|_=>false
def xN{x:bp P}(h:x.BJ=true):x.cnt=1/\x.last=false/\x.jx=false/\x≠.gone/\x≠.wait/\∀p,(p=.d5\/p=.d6\/p=.d7)->x≠.dn p:=by
 cases x with
 |dn p=>cases p<;>simp_all [bp.BJ,bp.cnt,bp.last,bp.jx]
 |_=>simp_all [bp.BJ,bp.cnt,bp.last,bp.jx]
def bR.same(I:bR n s)(hj:j<n)(o:(s.w j).BJ=true)(q:x.BJ=true)(r:x.iH=(s.w j).iH\/s.d=true)(G:x.ok=true)(t:Mu.Inv n (Mu.set (λi=>(s.w i).pc) j x.pc) sh):bR n (s.aW j x sh):=by
 obtain⟨H,a4,u,J,K,L⟩:=xN o;obtain⟨M,N,v,O,Q,g⟩:=xN q;have m:=te (s:=s) (x:=x) (sh:=sh) bp.cnt hj
 have look:∀{i:Nat}{y:bp P},(s.aW j x sh).w i=y->x≠y->i≠j/\s.w i=y:=λ{i y} h z=>by
  by_cases e:i=j
  . subst e;rw[aX]at h;simp_all
  . rw[cx e]at h;simp_all
 have back:∀{i:Nat}{y:bp P},s.w i=y->(s.w j)≠y->(s.aW j x sh).w i=y:=λ{i y} h z=>by
  by_cases e:i=j
  . simp_all
  . rw[cx e];exact h
 have b:∀{i:Nat},((s.aW j x sh).w i).last=(s.w i).last:=λ{i}=>by
  by_cases e:i=j
  . grind
  . rw[cx e]
 refine⟨?_,I.g2,I.FF,λi a h=>?_,λi l a A h f=>?_,λi a h=>?_,⟨I.g5.1,λh=>?_⟩,λh f k=>?_,λh f=>?_,λh=>?_,I.g9,λi a=>?_,I.Tq,I.sp,λi a=>?_,?_,λhd h i a=>?_,by rw[HA];exact t⟩
 . have:=I.g1
   show s.gc=sumTo n (λi=>((s.aW j x sh).w i).cnt)+s.ms.pend;omega
 . exact I.g3 i a (h.imp (λh=>(look h (g _ (by simp))).2) (λh=>(look h (g _ (by simp))).2))
 . rw[b]at h f;exact I.Hy i l a A h f
 . exact I.g4 i a (look h (g _ (by simp))).2
 . obtain⟨B,C,D,E⟩:=I.g5.2 h
   exact⟨B,C,D,λi a=>by grind⟩
 . obtain⟨i,a,F⟩:=I.g6 h f k
   grind
 . obtain⟨i,a,F⟩:=I.g7 h f
   grind
 . obtain⟨_,_,_,E⟩:=I.g8 h
   simp_all
 . by_cases e:i=j
   . grind
   . rw[cx e];exact I.ok i a
 . by_cases e:i=j
   . subst e
     rw[aX,v];have:=I.idle i a;rw[u]at this;exact this
   . rw[cx e];exact I.idle i a
 . have:=I.ms
   show match s.ms with
   |.add l=>s.sp+l=n/\s.c=.none
   |.bE l p=>s.sp+l=n/\s.c=.none/\1<=l/\(p=.a0\/p=.a2\/p=.a4\/p=.ae)
   |.spawn l=>s.sp+l+1=n/\s.c=.none
   |.recv=>s.sp=n/\s.c≠.none
   |.parked=>s.sp=n/\s.c≠.none/\s.c≠.gone/\∀i,i<n->(s.aW j x sh).w i≠.wait
   |.off=>s.sp=n/\s.c≠.none
   grind
 . by_cases e:i=j
   . subst e;rw[aX,r.resolve_right λe=>by have hd:s.d=false:=hd;grind];exact I.early hd h i a
   . rw[cx e];exact I.early hd h i a
def Ae{x:bp P}(h:x.work=true):x.BJ=true:=by cases x<;>simp_all [bp.work,bp.BJ]
def bR.work(I:bR n s)(hj:j<n)(a:(s.w j).work=true)(b:x.work=true)(c:x.ok=true)(d:Mu.Inv n (Mu.set (λi=>(s.w i).pc) j x.pc) sh):bR n (s.aW j x sh):=I.same hj (Ae a) (Ae b) (.inl (by rw[(bF a).2.2.1,(bF b).2.2.1])) c d
def RQ(F:bp P->Nat)(hj:j<n)(h:F x=F (s.w j)):sumTo n (λi=>F ((s.aW j x sh).w i))=sumTo n (λi=>F (s.w i)):=by have:=te (s:=s) (x:=x) (sh:=sh) F hj;omega
def Dg(hj:j<n)(a:(s.w j).work=true)(b:x.work=true):(s.aW j x sh).cu n=s.cu n:=by
 have:=RQ (s:=s) (x:=x) (sh:=sh) bp.cu hj (by rw[(bF a).2.1,(bF b).2.1]);show s.ms.cu+sumTo n (λi=>((s.aW j x sh).w i).cu)+s.c.cu s.gc=_;rw[this];rfl
def BL(hj:j<n)(a:(s.w j).work=true)(b:x.work=true)(h:IE x.nd (s.w j).nd):MS.gh n (s.aW j x sh) s:=.inr ⟨Dg hj a b,.inl ⟨j,hj,λi c=>by show((s.aW j x sh).w i).nd=_;rw[cx c],by simp only[aX];exact h⟩⟩
def wD(hj:j<n)(a:(s.w j).work=true)(b:x.work=true)(h:x.nd=(s.w j).nd)(hi:4*Mu.meas n (Mu.set (λi=>(s.w i).pc) j x.pc) sh+x.ex n<4*Mu.meas n (λi=>(s.w i).pc) s.sh+(s.w j).ex n):MS.gh n (s.aW j x sh) s:=by
 refine .inr ⟨Dg hj a b,.inr ⟨?_,?_⟩⟩
 . funext i
   by_cases e:i=j
   . subst e;rw[aX];exact h
   . rw[cx e]
 . have:=te (s:=s) (x:=x) (sh:=sh) (bp.ex n) hj
   show 4*Mu.meas n (λi=>((s.aW j x sh).w i).pc) sh+sumTo n (λi=>((s.aW j x sh).w i).ex n)<4*Mu.meas n (λi=>(s.w i).pc) s.sh+sumTo n (λi=>(s.w i).ex n);rw[HA];omega
def HB(I:bR n s)(hj:j<n)(a:(s.w j).work=true)(b:x.work=true)(h:x.nd=(s.w j).nd)(c:(x.pc,sh)∈Mu.mv (s.w j).pc s.sh)(d:x.ex n<=3):MS.gh n (s.aW j x sh) s:=by
 have:=(Mu.Iq (pcs:=λi=>(s.w i).pc) hj (I.mu.j0 j hj) c).1;exact wD hj a b h (by omega)
def bR.mv(I:bR n s)(hj:j<n)(a:(s.w j).work=true)(b:x.work=true)(c:x.ok=true)(d:(x.pc,sh)∈Mu.mv (s.w j).pc s.sh):bR n (s.aW j x sh):=I.work hj a b c (I.mu.step hj d)
def jz  pcs   i :Mu.set pcs i (pcs i)=pcs:=by
 funext l;by_cases e:l=i
 . subst e;exact Mu.aj _ _ _
 . exact Mu.ai _ _ e
def lS(hj:j<n)(a:(s.w j).work=true)(b:x.work=true)(h:x.nd=(s.w j).nd)(c:x.pc=(s.w j).pc)(d:x.ex n<(s.w j).ex n):MS.gh n (s.aW j x s.sh) s:=by
 refine wD hj a b h ?_;rw[c,jz (λi=>(s.w i).pc)];omega
def bR.still(I:bR n s)(hj:j<n)(a:(s.w j).work=true)(b:x.work=true)(c:x.ok=true)(d:x.pc=(s.w j).pc):bR n (s.aW j x s.sh):=I.work hj a b c (by rw[d,jz (λi=>(s.w i).pc)];exact I.mu)
def fT(F:Mu.Pc->Nat){pcs i}(a:pcs i=.out)(h:F .ir=F .out):(λl=>F (Mu.set pcs i .ir l))=λl=>F (pcs l):=by
 funext l;by_cases e:l=i
 . subst e;rw[Mu.aj,a,h]
 . rw[Mu.ai _ _ e]
def Pt{n pcs s i}(h:Mu.Inv n pcs s)(a:pcs i=.out):Mu.Inv n (Mu.set pcs i .ir) s:=by
 obtain⟨⟨m,c,d,f,g⟩,j,o⟩:=h;refine⟨⟨λl k=>?_,?_,?_,?_,?_⟩,j,λl k old sv b=>?_⟩
 . by_cases e:l=i
   . subst e;rw[Mu.aj];trivial
   . rw[Mu.ai _ _ e];grind
 . rw[fT Mu.cj a rfl];exact c
 . rw[fT Mu.fI a rfl,fT Mu.cI a rfl,fT Mu.na a rfl,fT Mu.dc a rfl,fT Mu.cH a rfl];exact d
 . rw[fT Mu.fI a rfl,fT Mu.cI a rfl,fT Mu.na a rfl,fT Mu.dc a rfl,fT Mu.cH a rfl];exact f
 . rw[fT Mu.iu a rfl];exact g
 . by_cases e:l=i
   . subst e;rw[Mu.aj]at b;cases b
   . rw[Mu.ai _ _ e]at b;grind
def Dh{n pcs s i}(hi:i<n)(a:pcs i=.out):Mu.meas n (Mu.set pcs i .ir) s=Mu.meas n pcs s+(6*(18*n+1)+16):=by
 have C:=Mu.gn Mu.gF pcs i .ir hi;have R:=Mu.gn (Mu.jI s.w) pcs i .ir hi;rw[a]at C R;have b:Mu.gF .out=0:=rfl;have c:Mu.gF .ir=6:=rfl;have d:Mu.jI s.w .out=0:=rfl;have e:Mu.jI s.w .ir=16:=rfl;rw[b,c]at C;rw[d,e]at R;have f:Mu.phi n (Mu.set pcs i .ir) s=Mu.phi n pcs s+6:=by unfold Mu.phi;omega
 unfold Mu.meas
 grind
def LJ(hj:j<n)(a:(s.w j).work=true)(b:x.work=true)(h:x.nd=(s.w j).nd)(c:(s.w j).pc=.out)(d:x.pc=.ir)(e:(s.w j).ex n=BI n)(f:x.ex n=0):MS.gh n (s.aW j x s.sh) s:=by refine wD hj a b h ?_;rw[d,Dh hj c,e,f];unfold BI;omega
def bR.Yf(I:bR n s)(hj:j<n)(a:(s.w j).work=true)(b:x.work=true)(c:x.ok=true)(d:(s.w j).pc=.out)(e:x.pc=.ir):bR n (s.aW j x s.sh):=I.work hj a b c (by rw[e];exact Pt I.mu d)
end
end
open Go.Conc
open Go.ConcN (sumTo upd sumTo_upd upd_ne upd_same)
section
variable{P:adh}{A:rB P}{Z:Base}{s s':A.S}{f f':Nat->Node P}{q q':acZ}{kk kk':adg}{OO OO':adf}{J J' M M':acT}{gs:acC}{w w':World}{t u:Trace}{i:Nat}{g g1:acW}
structure Beside(A:rB P)(s s':A.S)(f f':Nat->Node P)(q q':acZ)(kk kk':adg)(OO OO':adf)(J J':acT)(w':World)(i:Nat)(g g1:acW):Prop where
 ef:∀j,j≠i->f' j=f j
 eq:∀j,j≠i->q' j=q j
 ek:∀j,j≠i->j<A.top->kk' j=kk j
 eO:∀j,j≠i->j<A.top->OO' j=OO j
 eJ:∀j,j≠i->A.Live s j->J j->J' j
 live:∀j,j≠i->(A.Live s' j↔A.Live s j)
 walk:∀j,j≠i->(A.Walk s' j↔A.Walk s j)
 held:∀j,j≠i->(A.oA s' j↔A.oA s j)
 mo:∀j,j≠i->A.Live s j->A.mo s' j=A.mo s j
 at':∀j k O x,j≠i->A.Walk s j->A.At s j k O x->A.At s' j k O x
 deaf:∀j,j≠i->A.Walk s j->A.deaf s' j=A.deaf s j
 zZ:∀j,j≠i->A.Walk s j->A.zZ s j->A.zZ s' j\/∀x,A.At s j (kk j) (OO j) x->woken P g g1 w' (blk x)=x
 Ts:∀j k O x,j≠i->A.oA s j->A.Fs s j k O x->A.Fs s' j k O x
 tie:∀j x,j≠i->A.Live s j->A.O9 s j x->A.O9 s' j x
structure Self(P:adh)(A:rB P)(s':A.S)(f':Nat->Node P)(q':acZ)(kk':adg)(OO':adf)(J':acT)(t':Trace)(i:Nat)(g1:acW):Prop where
 live:A.Live s' i->i<A.top/\g1=(f' i).g/\(f' i).m=A.mo s' i/\(f' i).k=kk' i/\(f' i).O=OO' i/\(f' i).g.status=.running/\Deaf t' i=0/\(i=0\/J' i)/\A.O9 s' i (f' i)
 walk:A.Walk s' i -> ¬A.Live s' i/\i<A.top/\Deaf t' i=A.deaf s' i/\∃g',A.At s' i (kk' i) (OO' i) g'/\K9 P A.Wd (A.zZ s' i) (q' i) g1 g'
 held:A.oA s' i -> ¬A.Live s' i/\¬A.Walk s' i/\i<A.top/\Deaf t' i=0/\g1.status=.blocked/\A.Fs s' i (kk' i) (OO' i) g1
 rest:¬A.Live s' i -> ¬A.Walk s' i -> ¬A.oA s' i->i≠0/\QuitsD P (q' i) (Deaf t' i) g1
def bG.step(B:z5 A)(v:bG A Z s f q kk OO J M gs w t)(hi:gs[i]?=some g)(C:∀op∈u,op.g=i)(U:cA Z kk' OO' J' M' w' (t++u))(V:A.Ex s' kk' OO' J' M' gs.size w' (t++u))
 (W:∀j x,A.oA s j->A.Fs s j (kk j) (OO j) x->x.again w'=x) (hb:Beside A s s' f f' q q' kk kk' OO OO' J J' w' i g g1) (E:Self P A s' f' q' kk' OO' J' (t++u) i g1):
 bG A Z s' f' q' kk' OO' J' M' ((gs.map (woken P g g1 w')).setIfInBounds i g1) w' (t++u):=by
 have X:i<gs.size:=(zA.1 hi).1;have F:=v.Pa B (i:=i) (a:=g) (a':=g1) (x:=g1) (w':=w') W;have p:((gs.map (woken P g g1 w')).setIfInBounds i g1)[i]?=some g1:=LF (by simp_all)
 have G:∀j,j≠i->Deaf (t++u) j=Deaf t j:=λj d=>Deaf_other t (za d) _ C
 refine⟨v.lk,U,λj d=>?_,λj d=>?_,λj d=>?_,λj x I N O Q=>?_,λj d=>?_,by simp_all⟩
 . by_cases e:j=i
   . subst e
     obtain⟨l,n,m⟩:=E.live d
     simp_all
   . have b:=(hb.live j e).1 d
     obtain⟨l,n,pm,m,D,z,r,R⟩:=v.live j b;rw[hb.ef j e,hb.ek j e l,hb.eO j e l,G j e,hb.mo j e b];exact⟨l,F.live j e b,pm,m,D,z,r,R.1.imp id (hb.eJ j e b),hb.tie j _ e b R.2⟩
 . by_cases e:j=i
   . subst e
     obtain⟨l,n,m,g',D,z⟩:=E.walk d
     grind
   . have b:=(hb.walk j e).1 d
     obtain⟨l,n,m,x,Y,D,z,r⟩:=v.walk j b;refine⟨λh=>l ((hb.live j e).1 h),n,by rw[G j e,hb.deaf j e b];exact m,?_⟩
     rw[hb.ek j e n,hb.eO j e n,hb.eq j e];obtain⟨y,y',o,K,r3⟩:=F.walk j e b
     by_cases hd:∃x,A.zZ s j/\y=blk x/\A.At s j (kk j) (OO j) x/\q j=0
     . obtain⟨x0,S,H,d3,d4⟩:=hd
       rcases hb.zZ j e b S with h|h
       . exact⟨y,x0,o,hb.at' j _ _ _ e b d3,.inl ⟨h,H,d4⟩⟩
       ·
        have c:((gs.map (woken P g g1 w')).setIfInBounds i g1)[j]?=some (woken P g g1 w' x):=by grind
        obtain⟨T,a2⟩:=B.kO z
        rcases r with⟨_,rfl,_⟩|r
        . rw[h _ z]at c
          rw[c]at o;have:=aaF o;rw[H]at this;have k:Y.status=.blocked:=by rw[this];rfl
          simp_all
        . rw[woken_run (r.first T)]at c
          rw[c]at o;have hh:=aaF o;have k:x.status=.blocked:=by rw[hh,H];rfl
          rw[r.first T]at k;cases k
     . rcases r3 with⟨S,rfl,H⟩|r3
       . simp_all
       . exact⟨y,y',o,hb.at' j _ _ _ e b K,.inr r3⟩
 . by_cases e:j=i
   . subst e
     obtain⟨l,n,m,D,z,r⟩:=E.held d
     simp_all
   . have b:=(hb.held j e).1 d
     obtain⟨l,n,m,D,_⟩:=v.held j b;obtain⟨x,o,K,r3⟩:=F.held j e b;refine⟨λh=>l ((hb.live j e).1 h),λh=>n ((hb.walk j e).1 h),m,by simp_all,x,o,K,?_⟩
     rw[hb.ek j e m,hb.eO j e m];exact hb.Ts j _ _ _ e b r3
 . by_cases e:j=i
   . subst e
     rw[p]at I;obtain rfl:=aaF I;exact E.rest N O Q
   . rw[hb.eq j e,G j e]
     exact F.rest j x e I (λh=>N ((hb.live j e).2 h)) (λh=>O ((hb.walk j e).2 h)) (λh=>Q ((hb.held j e).2 h))
 . have L:gs.size<=j:=by simp_all
   rw[G j (by omega)];exact v.above j L
end
def knows_own{t u i m op}(h:u[m]?=some op)(a:op.g=i):Knows (t++u) i (t.size+m):=⟨t.size+m,op,dv h,a,.inl rfl⟩
section
variable{Z:Base}{kk:adg}{OO:adf}{J M:acT}{w w':World}{t u:Trace}{i:Nat}
def BM(kk:adg)(OO:adf)(B:Nat)(t:Trace)(i:Nat)(u:Trace):Prop:=∀op∈u,∀a,op.act.touch?=some a->a.kind=.atomic/\(a.loc.isMemory=true->KZ kk OO B a.loc)/\∀n b,touchAt t n=some b->b.loc=a.loc->b.kind=.plain->Knows t i n
def cA.QW(h:cA Z kk OO J M w t)(d:∀op∈u,op.g=i)(y:w'.heap.size=w.heap.size)(z:Calm Z w w')(hb:∀b,Kept kk OO w w' b)(A:∀op∈u,op.act.low w.heap.size)(q:BM kk OO w.heap.size t i u)
 (l:∀m op a,u[m]?=some op->op.act.touch?=some a->a.loc.isMemory=true->Told Z J M (t++u) (t.size+m) a):cA Z kk OO J M w' (t++u):=
 h.uA (λa b=>a=b) y z hb A (λa b e n x _ _ _ B=>by subst e;exact B.app u) (λj b n v h=>⟨j,rfl,h⟩) (λj b s h=>⟨j,rfl,h⟩) (λj b x h=>⟨j,rfl,h,λ_ h=>h⟩) h.jv
  (fun said=>noRace_append (h.clean said) d λn a o op c b hb C=>by
    obtain⟨f,k,D⟩:=q op c b hb;obtain⟨E,_,_,F⟩:=C
    simp_all)
  (λop c a o r=>(q op c a o).2.1 r) l
  (λn a o r h=>h.elim (λ⟨j,f,k⟩=>.inr (.inl ⟨j,f,k.app _⟩)) (λ⟨p,f,k⟩=>.inr (.inr (.inl ⟨p,f,k.app _⟩))))
def cA.sync(h:cA Z kk OO J M w t)(hJ:i=0\/J i)(c:∀op∈u,op.g=i)(f:w'.heap.size=w.heap.size)(j:Calm Z w w')(hb:∀b,Kept kk OO w w' b)(k:∀op∈u,op.act.low w.heap.size)(l:BM kk OO w.heap.size t i u):cA Z kk OO J M w' (t++u):=
 h.QW c f j hb k l λm op a d n o=>by
  have e:Knows (t++u) i (t.size+m):=knows_own d (c op (aaO d));rcases hJ with rfl|hJ
  . exact .inl e
  . exact .inr (.inl ⟨i,hJ,e⟩)
end
section
variable{P:adh}{A:bN}{Z:Base}{s:MS P}{kk:adg}{OO:adf}{J M:acT}{gsz:Nat}{w w':World}{t u:Trace}{j:Nat}{x:bp P}{sh:Mu.Sh}
def oH(hj:j<A.n)(h:x.busy=(s.w j).busy)  i :dY P A (s.aW j x sh) i↔dY P A s i:=by
 have:∀l,((s.aW j x sh).w l).busy=(s.w l).busy:=λl=>by
  by_cases e:l=j
  . subst e;rw[aX,h]
  . rw[cx e]
 unfold dY;simp only[this];rfl
def LL{a:Touch}{l ad}(h:yY A a.loc)(e:a.loc=.cell ad)(b:ad.block=A.fb/\ad.off=A.cell l):False:=by rw[e]at h;obtain⟨_,h⟩:=h;have:=A.d4;rw[b.1,b.2]at h;unfold bN.cell at h;omega
def cZ.FI(h:cZ P A Z s kk OO J M gsz w t){s':MS P}(d:A.dir=true->∀l,l<A.n->(s'.w l).iw=(s.w l).iw/\(s'.w l).owns=(s.w l).owns)(p:∀op∈u,∀a,op.act.touch?=some a->yY A a.loc):
 A.dir=true->∀j,j<A.n->((s'.w j).iw=false->(∀i,(kk i).cell A.fb (A.cell j)=none)/\∀m a ad,touchAt (t++u) m=some a->a.loc=.cell ad->ad.block=A.fb/\ad.off=A.cell j->m<Z.N0)/\((s'.w j).rel=true->(kk (A.b+j)).cell A.fb (A.cell j)=some (A.val j)):=λhd l c=>by
 obtain⟨q,r⟩:=d hd l c;rw[bp.rel,q,r];exact⟨λk=>⟨((h.yZ hd l c).1 k).1,λm a ad v e o=>(dU v).elim (λf=>((h.yZ hd l c).1 k).2 m a ad f.1 e o) (λ⟨op,g,f⟩=>(LL (p op g a f) e o).elim)⟩,(h.yZ hd l c).2⟩
def cZ.xO(h:cZ P A Z s kk OO J M gsz w t)(hj:j<A.n)(k:x.busy=(s.w j).busy)(E:x.owns=(s.w j).owns)(o:A.dir=true->x.iw=(s.w j).iw)(F:bR A.n (s.aW j x sh))(p:ShM A.fb A.fo w' sh)
 (d:∀b,b≠A.fb->w'.heap[b]?=w.heap[b]?) (q:∃c e,w'.heap[A.fb]?=some (.cells c e (0,0))) (z:∀op∈u,(∀a,op.act.touch?=some a->a.kind=.atomic/\yY A a.loc)/\∀a,op.act≠.mark (.release a)):
 cZ P A Z (s.aW j x sh) kk OO J M gsz w' (t++u):=by
 have m:∀l,((s.aW j x sh).w l).owns=(s.w l).owns:=λl=>by
  by_cases e:l=j
  . subst e;rw[aX,E]
  . rw[cx e]
 refine⟨F,h.size,h.dd,h.off,h.FI (λhd l _=>⟨?_,m l⟩) (λop g a r=>((z op g).1 a r).2),λhd=>by rw[d _ A.d1];exact h.Ac hd,p,h.gr.same (.of_heap (d _ (za A.d4))),q,by rw[d _ (za A.d4)];exact h.zq,h.gz,h.eD,λi y G=>?_,λl B v=>h.zr l B (by simp_all),λv=>h.OM λl B=>by simp_all,λc H=>?_,
  λi=>by rw[h.hJ i];exact(oH hj k i).symm,h.vF u,h.mK u,h.kh u (λop g a r _ I=>?_),h.oE u (λop g a r _ I=>?_),h.p9 u,h.jy u (λop g=>(z op g).2),h.De,h.sS,h.jR,h.fa,h.la,by simp;exact aar h.n0 (abf _ _)⟩
 . by_cases e:l=j
   . subst e;rw[aX,o hd]
   . rw[cx e]
 . obtain⟨l,f,C,D,L,K⟩:=h.tok i y G
   exact⟨l,f,C,D,by simp_all,K⟩
 . obtain⟨C,D⟩:=h.ON c H
   simp_all
 . grind
 grind
def cZ.work(h:cZ P A Z s kk OO J M gsz w t)(hj:j<A.n)(k:(s.w j).work=true)(l:x.work=true)(m:x.owns=(s.w j).owns)(f:A.dir=true->x.iw=(s.w j).iw)(o:bR A.n (s.aW j x sh))(g:ShM A.fb A.fo w' sh)
 (d:∀b,b≠A.fb->w'.heap[b]?=w.heap[b]?) (i:∃c e,w'.heap[A.fb]?=some (.cells c e (0,0))) (p:∀op∈u,(∀a,op.act.touch?=some a->a.kind=.atomic/\yY A a.loc)/\∀a,op.act≠.mark (.release a)):
 cZ P A Z (s.aW j x sh) kk OO J M gsz w' (t++u):=
 h.xO hj (by rw[(bF k).2.2.2.2.2.1,(bF l).2.2.2.2.2.1]) m f o g d i p
end
section
variable{P:adh}
def BN {y s fr f l e cs} (b:FR y s fr) (h:bc s=some (f,l)) (c:Ext P f e):mayWake P (G fr cs)=true:=by
 obtain⟨ops,i,rest,kk,o,as,d,g,p,j,q,a,r⟩:=dt b h;obtain⟨fn,k,t,u,v,w⟩:=c.ex;have m:fr.mode = .run:=by rw[a];rfl
 have n:fr.todo = .inRegion ops (i :: rest) :: kk:=by rw[a];rfl
 unfold mayWake;simp only[G,m,n,g,aaJ,j,Frame.eval,k,Option.any_some]
 grind
def IF{n b o kind cs g}(C:gq P n)(X:gu P n)(h:oi P n b o kind .give cs g):mayWake P g=true:=by
 obtain⟨c,y,fr,d,e,i,a,f,rfl⟩:=h;rcases e with rfl|rfl
 . exact BN a (C.WI b o kind) X.oC
 . exact BN a (C.WJ b o kind) X.oC
def oI{b o w w'}(h:MW b o w w')(a:∃c e,w.heap[b]?=some (.cells c e (0,0))):
 w'.heap.size=w.heap.size/\(∀r,r≠b->w'.heap[r]?=w.heap[r]?)/\∃c e c',w.heap[b]?=some (.cells c e (0,0))/\w'.heap[b]?=some (.cells c' e (0,0))/\c'.size=c.size/\∀n,n≠o->n≠o+1->c'[n]?=c[n]?:=by
 obtain⟨c,e,a⟩:=a;rcases h.2 with h|⟨i,v,f,g,h⟩
 . grind
 . refine⟨by simp_all,λr d=>?_,c,e,c.setIfInBounds i v,a,?_,by simp,λn j k=>?_⟩
   . rw[h];simp only[World.setCell,aaT,aaj (za d)]
   . rw[h];simp[World.setCell,aaT,a]
   grind
end
section
variable{P:adh}{A:bN}{Z:Base}{s:MS P}{kk:adg}{OO:adf}{J M:acT}{gsz:Nat}{w w':World}{t:Trace}{j:Nat}{x:bp P}{sh:Mu.Sh}
def cZ.calm(h:cZ P A Z s kk OO J M gsz w t)(a:MW A.fb A.fo w w'):Calm Z w w':=by obtain⟨d,c,_⟩:=oI a h.vD;have:=h.fa.2.1;exact⟨a.1,λb hb=>c b (by omega)⟩
def cZ.kept(h:cZ P A Z s kk OO J M gsz w t)(a:MW A.fb A.fo w w'):∀b,Kept kk OO w w' b:=λb=>by
 obtain⟨u,d,c,e,f,j,k,l,v⟩:=oI a h.vD;by_cases hb:b=A.fb
 . subst hb
   refine .inr (.inr ⟨c,f,e,j,k,l,λi x m=>by obtain⟨_,g,_,_,_,rfl,o⟩:=h.tok i x m;exact⟨g,rfl,λn p=>by have:=(o n p).2;unfold bN.cell at this;grind⟩,λn=>?_⟩);by_cases q:n=A.fo
   . subst q;exact .inr λi=>(h.eD i).1
   . by_cases r:n=A.fo+1
     . subst r;exact .inr λi=>(h.eD i).2.1
     simp_all
 . exact .inl (d b hb)
def cZ.UF(h:cZ P A Z s kk OO J M gsz w t){n}(a:n=A.fo\/n=A.fo+1):KZ kk OO w.heap.size (.cell ⟨A.fb,n,none⟩):=by
 have b:A.fb<w.heap.size:=by obtain⟨c,e,f⟩:=h.vD;grind
 refine⟨b,λi=>⟨λd=>?_,?_⟩⟩
 . obtain⟨_,_,_,_,e⟩:=h.Ps d
   have e:n=A.fo+2+_:=e;omega
 . rcases a with rfl|rfl
   . exact(h.eD i).1
   . exact(h.eD i).2.1
def nM{b o e}(d:(e.loc=.mark .disable\/e.loc=.mark .enable)\/∃i,(i=o\/i=o+1)/\e.loc=.cell ⟨b,i,none⟩/\e.sync=true):
 (∀a,(MemAct.ofEvent e).touch?=some a->a.kind=.atomic/\∃i,(i=o\/i=o+1)/\a.loc=.cell ⟨b,i,none⟩)/\(∀a,MemAct.ofEvent e≠.mark (.release a))/\∀B,b<B->(MemAct.ofEvent e).low B:=by
 obtain⟨loc,wr,j⟩:=e;rcases d with(h|h)|⟨i,k,h,c⟩
 . simp only at h;subst h
   simp[MemAct.ofEvent,MemAct.touch?,MemAct.low]
 . simp only at h;subst h
   simp[MemAct.ofEvent,MemAct.touch?,MemAct.low]
 . simp only at h c;subst h;subst c
   refine⟨λa f=>?_,by simp[MemAct.ofEvent],λB g=>by simpa[MemAct.ofEvent,MemAct.low,Loc.low]using g⟩;simp only[MemAct.ofEvent,MemAct.touch?,kn]at f
   grind
def cZ.LM(h:cZ P A Z s kk OO J M gsz w t){es}(p:EvM A.fb A.fo es){i}(hi:bU P A s i)  fn   pos :
 BM kk OO w.heap.size t i (MemOp.ofEvents i fn pos es)/\(∀op∈MemOp.ofEvents i fn pos es,op.act.low w.heap.size)/\∀op∈MemOp.ofEvents i fn pos es,(∀a,op.act.touch?=some a->a.kind=.atomic/\yY A a.loc)/\∀a,op.act≠.mark (.release a):=by
 have v:A.fb<w.heap.size:=by obtain⟨c,e,f⟩:=h.vD;grind
 refine⟨λop d a k=>?_,λop d=>?_,λop d=>?_⟩<;>obtain⟨e,l,rfl⟩:=zU d<;>obtain⟨o,q,x⟩:=nM (p e l)
 . obtain⟨f,n,g,j⟩:=o a k
   refine⟨f,λ_=>by rw[j];exact h.UF g,λm b hb r u=>h.quiet m b hb ?_ u i hi⟩
   rw[r,j];exact⟨rfl,.inl ⟨rfl,g⟩⟩
 . grind
 . refine⟨λa k=>?_,q⟩
   obtain⟨f,n,g,j⟩:=o a k;exact⟨f,by rw[j];exact⟨rfl,.inl ⟨rfl,g⟩⟩⟩
end
structure fe{P}(A:bN)(s s':MS P)  i :Prop where
 w:∀l,l<A.n->A.b+l≠i->s'.w l=s.w l
 c:i≠A.cl->s'.c=s.c
 ms:i≠0->s'.ms=s.ms
 sp:s'.sp=s.sp
 d:s'.d=s.d
 iH:(∀l,l<A.n->(s'.w l).iH=(s.w l).iH)\/((dD P A s 0->∃m,s.ms=.add m\/s.ms=.spawn m)/\s.ms≠.parked)
section
variable{P:adh}{A:bN}{Fin:acy}{Z:Base}{s s':MS P}{f f':Nat->Node P}{q q':acZ}{kk kk':adg}{OO OO':adf}{J J' M:acT}{gs:acC}{gsz:Nat}{w w':World}{t u:Trace}{i:Nat}{g g1:acW}
def xP(h:∀l,l<A.n->(s'.w l).iH=(s.w l).iH):MS.rem P A.n s'=MS.rem P A.n s:=by unfold MS.rem;exact abw λl a=>by grind
def fe.live(h:fe A s s' i){j}(hj:j≠i):dD P A s' j↔dD P A s j:=by
 constructor<;>rintro(⟨b,a⟩|⟨l,a,d,f⟩|⟨b,a⟩)
 . exact .inl ⟨b,by rw[<-h.ms (λe=>hj (b.trans e.symm))];exact a⟩
 . exact .inr (.inl ⟨l,a,d,by rw[<-h.w l a (λe=>hj (d.trans e))];exact f⟩)
 . exact .inr (.inr ⟨b,by rw[<-h.c (λe=>hj (b.trans e.symm))];exact a⟩)
 . exact .inl ⟨b,by rw[h.ms (λe=>hj (b.trans e.symm))];exact a⟩
 . exact .inr (.inl ⟨l,a,d,by rw[h.w l a (λe=>hj (d.trans e))];exact f⟩)
 . exact .inr (.inr ⟨b,by rw[h.c (λe=>hj (b.trans e.symm))];exact a⟩)
def fe.walk(h:fe A s s' i){j}(hj:j≠i):gy P A s' j↔gy P A s j:=by
 constructor<;>rintro(⟨b,a⟩|⟨l,a,d,f⟩|⟨b,a⟩)
 . exact .inl ⟨b,by rw[<-h.ms (λe=>hj (b.trans e.symm))];exact a⟩
 . exact .inr (.inl ⟨l,a,d,by rw[<-h.w l a (λe=>hj (d.trans e))];exact f⟩)
 . exact .inr (.inr ⟨b,by rw[<-h.c (λe=>hj (b.trans e.symm))];exact a⟩)
 . exact .inl ⟨b,by rw[h.ms (λe=>hj (b.trans e.symm))];exact a⟩
 . exact .inr (.inl ⟨l,a,d,by rw[h.w l a (λe=>hj (d.trans e))];exact f⟩)
 . exact .inr (.inr ⟨b,by rw[h.c (λe=>hj (b.trans e.symm))];exact a⟩)
def fe.held(h:fe A s s' i){j}(hj:j≠i):fq P A s' j↔fq P A s j:=by
 constructor<;>rintro(⟨b,a⟩|⟨l,a,c,d⟩)
 . exact .inl ⟨b,by rw[<-h.ms (λe=>hj (b.trans e.symm))];exact a⟩
 . exact .inr ⟨l,a,c,by rw[<-h.w l a (λe=>hj (c.trans e))];exact d⟩
 . exact .inl ⟨b,by rw[h.ms (λe=>hj (b.trans e.symm))];exact a⟩
 . exact .inr ⟨l,a,c,by rw[h.w l a (λe=>hj (c.trans e))];exact d⟩
def lT  K  (t:fe A s s' i) (L:∀j,j≠i->f' j=f j) (M:∀j,j≠i->q' j=q j) (N:∀j,j≠i->j<A.b+A.n+1->kk' j=kk j) (Q:∀j,j≠i->j<A.b+A.n+1->OO' j=OO j) (R:∀j,j≠i->J j->J' j)
 (o:((s.sh.ms=0->s'.sh.ms=0)/\(s.gm=0->s'.gm=0))\/(mayWake P g=true/\(g1.status=.running\/g1.status=.finished))) (S:∀{i k O y},UB P A Fin s i k O y->y.status=.running/\y.offers=none):
 Beside (cd P A Fin Z K) s s' f f' q q' kk kk' OO OO' J J' w' i g g1:=by
 have hb:=A.hb;have wl:∀{j l:Nat},l<A.n->j≠i->j=A.b+l->s'.w l=s.w l:=λ{j l} E a e=>t.w l E (λh=>a (e.trans h))
 have x:∀{j:Nat},j≠i->j=0->s'.ms=s.ms:=λa e=>t.ms (λh=>a (e.trans h.symm))
 have H:∀{j:Nat},j≠i->j=A.cl->s'.c=s.c:=λa e=>t.c (λh=>a (e.trans h.symm))
 refine⟨L,M,N,Q,λj a _ h=>R j a h,λj a=>t.live a,λj a=>t.walk a,λj a=>t.held a,λj a E=>?_,λj k O y a _ F=>?_,λj a I=>?_,λj a I hd=>?_,λj k O y a T F=>?_,λj y a _ U=>?_⟩
 . show cD P A Fin s' j=cD P A Fin s j
   unfold cD;by_cases d:j=0
   . rcases t.iH with u|⟨u,_⟩
     . simp only[aal d,x a d,xP u]
     . subst d
       obtain⟨m,e|e⟩:=u E<;>simp only[aan,x a rfl,e]
   rcases E with⟨G,_⟩|⟨l,p,r,_⟩|⟨G,_⟩
   . omega
   . have e:j-A.b=l:=by omega
     grind
   grind
 . rcases F with⟨d,h⟩|⟨l,p,r,B⟩|⟨d,h⟩
   . exact .inl ⟨d,by grind⟩
   . exact .inr (.inl ⟨l,p,r,by grind⟩)
   . exact .inr (.inr ⟨d,by grind⟩)
 . show dM P A s' j=dM P A s j
   unfold dM;rcases I with⟨d,h1⟩|⟨l,p,r,_⟩|⟨d,_⟩
   . grind
   . grind
   grind
 . rcases o with⟨o,v⟩|⟨hm,u⟩
   . refine .inl ?_
     rcases hd with⟨l,sv,Y,p,r,B,C⟩|⟨d,B,C⟩
     . exact .inl ⟨l,sv,Y,p,r,by grind,o C⟩
     . exact .inr ⟨d,by grind,v C⟩
   . refine .inr λy V=>?_
     obtain⟨W,a2⟩:=S V;have H:(mayWake P g && g1.status !=.blocked && g1.status !=.waiting)=true:=by grind
     unfold Go.Conc.woken;rw[aal H,z7 W a2]
 . rcases F with⟨d,D,z,p,r,B,C⟩|h
   . rcases t.iH with u|⟨_,u⟩
     . exact .inl ⟨d,D,z,p,r,B,by rw[xP u];exact C⟩
     . rcases T with⟨_,h7⟩|⟨l,_,h7,_⟩
       . simp_all
       . omega
   . exact .inr h
 . exact λl b X p r B=>U l b X p r (by grind)
variable{j:Nat}{x:bp P}{sh:Mu.Sh}
def xO(hj:j<A.n)(h:x.iH=(s.w j).iH\/((dD P A s 0->∃m,s.ms=.add m\/s.ms=.spawn m)/\s.ms≠.parked)):fe A s (s.aW j x sh) (A.b+j):=⟨λl _ a=>cx (by omega),λ_=>rfl,λ_=>rfl,rfl,rfl,h.imp_left λh l _=>by
 by_cases e:l=j
 . subst e;rw[aX,h]
 . rw[cx e]⟩
def qa  c  (hj:j<A.n) (d:x.iH=(s.w j).iH) (e:∀i,i≠A.b+j->f' i=f i) (l:∀i,i≠A.b+j->q' i=q i) (m:∀i,i≠A.b+j->i<A.b+A.n+1->kk' i=kk i) (o:∀i,i≠A.b+j->i<A.b+A.n+1->OO' i=OO i) (p:∀i,i≠A.b+j->J i->J' i)
 (a:(s.sh.ms=0->sh.ms=0)\/(mayWake P g=true/\g1.status=.running)) (r:∀{i k O y},UB P A Fin s i k O y->y.status=.running/\y.offers=none):
 Beside (cd P A Fin Z c) s (s.aW j x sh) f f' q q' kk kk' OO OO' J J' w' (A.b+j) g g1:=
 lT c (xO hj (.inl d)) e l m o p (a.imp (λh=>⟨h,id⟩) λh=>⟨h.1,.inl h.2⟩) r
def mL  c  (hj:j<A.n) (d:(s.w j).work=true) (e:x.work=true) (h:∀i,i≠A.b+j->f' i=f i) (l:∀i,i≠A.b+j->q' i=q i) (m:∀i,i≠A.b+j->i<A.b+A.n+1->kk' i=kk i) (o:∀i,i≠A.b+j->i<A.b+A.n+1->OO' i=OO i) (p:∀i,J i->J' i)
 (a:(s.sh.ms=0->sh.ms=0)\/(mayWake P g=true/\g1.status=.running)) (r:∀{i k O y},UB P A Fin s i k O y->y.status=.running/\y.offers=none):
 Beside (cd P A Fin Z c) s (s.aW j x sh) f f' q q' kk kk' OO OO' J J' w' (A.b+j) g g1:=
 qa c hj (by rw[(bF e).2.2.1,(bF d).2.2.1]) h l m o (λi _=>p i) a r
end
def bp.ki{P}:bp P->Bool
 |.lk ..=>true|.un ..=>true|_=>false
def iT{P}{x:bp P}(h:x.ki=true):x.work=true:=by cases x<;>simp_all [bp.ki,bp.work]
section
variable{P:adh}{A:bN}{Fin:acy}{Z:Base}{s:MS P}{f:Nat->Node P}{q:acZ}{kk:adg}{OO:adf}{J M:acT}{gs:acC}{w w':World}{t:Trace}{j:Nat}{x:bp P}{sh:Mu.Sh}{g g1:acW}
def wE(hj:j<A.n)(h:(s.w j).busy=true):dY P A s (A.b+j):=.inl ⟨j,hj,rfl,h⟩
def iI(I:bR A.n s)(hj:j<A.n)(h:(s.w j).jx=false):bU P A s (A.b+j):=by
 refine .inr (.inl ⟨j,?_,rfl⟩);have:=I.idle j hj
 simp_all
def iU(hj:j<A.n)(h:(s.w j).ki=true):gy P A s (A.b+j):=.inr (.inl ⟨j,hj,rfl,by cases e:s.w j<;>simp_all [bp.ki]⟩)
def mM(hj:j<A.n)(h:(s.w j).ki=true):¬dD P A s (A.b+j):=by
 have:=A.hb;rintro(⟨e,_⟩|⟨l,a,c,d⟩|⟨e,_⟩)
 . omega
 . obtain rfl:l=j:=by omega
   cases e:s.w l<;>simp_all [bp.ki]
 . omega
def qc(hj:j<A.n)(h:(s.w j).ki=true):¬fq P A s (A.b+j):=by
 have:=A.hb;rintro(⟨e,_⟩|⟨l,c,d,a⟩)
 . omega
 . obtain rfl:l=j:=by omega
   rw[a]at h;cases h
def eI(hj:j<A.n):dM P A s (A.b+j)=(s.w j).deaf:=by
 have:=A.hb;unfold dM
 grind
def Di  u  (L:bG (cd P A Fin Z u) Z s f q kk OO J M gs w t) (hj:j<A.n) (K:(s.w j).work=true){d}(N:Deaf t (A.b+j)=d) (Q:¬fq P A s (A.b+j)) (h2:x.ki=true) (ho:x.owns=(s.w j).owns) (R:A.dir=true->x.iw=(s.w j).iw) (hI:bR A.n (s.aW j x sh)) (hL:MS.gh A.n (s.aW j x sh) s)
 (hg:gs[A.b+j]?=some g){es}(S:stepG P false g w=.go g1 w' es) (o:MW A.fb A.fo w w') (T:ShM A.fb A.fo w' sh) (U:EvM A.fb A.fo es) (hd:deafBehind d es=x.deaf)
 (hs:∃n g',ji P (kW A) n g1 g'/\Hz P A j x (kk (A.b+j)) (OO (A.b+j)) g') (v:(s.sh.ms=0->sh.ms=0)\/(mayWake P g=true/\g1.status=.running))  sl :
 ∃ops m',runT P (crowd gs w sl) (A.b+j)=(.next m',ops)/\∃s' f' q' kk' OO' J' M' gs' z V,m'=crowd gs' z V/\MS.gh A.n s' s/\bG (cd P A Fin Z u) Z s' f' q' kk' OO' J' M' gs' z (t++ops):=by
 obtain⟨n,g',C,W⟩:=hs;have hb:=A.hb;have B:=bh (P:=P) (A:=A) (Fin:=Fin) (Z:=Z) u;have w2:=iT h2;have p:cZ P A Z s kk OO J M gs.size w t:=L.ex;have X:(A.b+j==0)=false:=by simp;omega
 have D:=runT_crowd_go (P:=P) (sl:=sl) (i:=A.b+j) hg (by rw[X];exact S)
 have E:bU P A s (A.b+j):=iI p.I hj (bF K).2.2.2.2.1;obtain⟨y1,y2,y3⟩:=p.LM U E g.frame.fn g.frame.place;have m:∀op∈MemOp.ofEvents (A.b+j) g.frame.fn g.frame.place es,op.g=A.b+j:=λop Y=>by obtain⟨e,_,rfl⟩:=zU Y;rfl
 obtain⟨m1,m2,c,e,c',m3,m4,_⟩:=oI o p.vD;have hP:=L.cO.sync (i:=A.b+j) (.inr ((p.hJ _).2 (wE hj (bF K).2.2.2.2.2.1))) m m1 (p.calm o) (p.kept o) y2 y1;have F:cZ P A Z (s.aW j x sh) kk OO J M gs.size w' (t++MemOp.ofEvents (A.b+j) g.frame.fn g.frame.place es):=p.work hj K w2 ho R hI T m2 ⟨c',e,m4⟩ y3
 have r:Beside (cd P A Fin Z u) s (s.aW j x sh) f f q (upd q (A.b+j) n) kk kk OO OO J J w' (A.b+j) g g1:=mL u hj K w2 (λ_ _=>rfl) (λi hi=>upd_ne q n hi) (λ_ _ _=>rfl) (λ_ _ _=>rfl) (λ_ h=>h) v (λ{i k O y} hA=>B.kO (s:=s) (i:=i) (k:=k) (O:=O) (g:=y) hA)
 have a:((s.aW j x sh).w j).ki=true:=by rw[aX];exact h2
 refine⟨_,_,D,s.aW j x sh,f,upd q (A.b+j) n,kk,OO,J,M,_,_,_,rfl,hL,?_⟩;refine bG.step B L hg m hP F (λl y G hA=>?_) r ⟨λG=>absurd G (mM hj a),λ_=>⟨mM hj a,?_,?_,g',?_,?_⟩,λhh=>absurd hh (qc hj a),λ_ hn _=>absurd (iU hj a) hn⟩
 . have H:l≠A.b+j:=λe=>Q (e ▸ G)
   exact B.sV F ((r.held l H).2 G) _ _ (r.Ts l _ _ _ H G hA)
 . show A.b+j<A.b+A.n+1;omega
 . rw[Deaf_own,N]
   show deafBehind d es=dM P A (s.aW j x sh) (A.b+j);rw[eI hj,aX];exact hd
 . exact .inr (.inl ⟨j,hj,rfl,by rw[aX];exact W⟩)
 . exact .inr (by rw[upd_same];exact C)
def xQ  d  (u:bG (cd P A Fin Z d) Z s f q kk OO J M gs w t) (hj:j<A.n) (e:(s.w j).ki=true) (y:x.ki=true) (z:x.owns=(s.w j).owns) (h:A.dir=true->x.iw=(s.w j).iw) (B:bR A.n (s.aW j x sh)) (C:MS.gh A.n (s.aW j x sh) s)
 (D:gs[A.b+j]?=some g){es}(i:stepG P false g w=.go g1 w' es) (k:MW A.fb A.fo w w') (l:ShM A.fb A.fo w' sh) (m:EvM A.fb A.fo es) (hd:deafBehind (s.w j).deaf es=x.deaf)
 (E:∃n g',ji P (kW A) n g1 g'/\Hz P A j x (kk (A.b+j)) (OO (A.b+j)) g') (a:(s.sh.ms=0->sh.ms=0)\/(mayWake P g=true/\g1.status=.running))  sl :
 ∃ops v,runT P (crowd gs w sl) (A.b+j)=(.next v,ops)/\∃s' f' q' kk' OO' J' M' gs' c o,v=crowd gs' c o/\MS.gh A.n s' s/\bG (cd P A Fin Z d) Z s' f' q' kk' OO' J' M' gs' c (t++ops):=by
 have p:=iU (P:=P) (A:=A) (s:=s) hj e;obtain⟨_,_,r,_⟩:=u.walk _ p;exact Di d u hj (iT e) (r.trans (eI hj)) (qc hj e) y z h B C D i k l m hd E a sl
end
namespace Mu
section
variable{n:Nat}{pcs:Nat->Pc}{s:Sh}{i:Nat}
def Pu{f:Pc->Nat}(h:∀p,f p<=1)(pcs:Nat->Pc)  n :fB n (λi=>f (pcs i))<=n:=by
 have:=Fq (f:=λi=>f (pcs i)) (c:=1) (λi=>h _) n;omega
def Inv.Xa(h:Inv n pcs s):s.w.N<=n+1/\s.ms<=1:=by
 have b:=Pu (f:=cH) (λp=>by cases p<;>simp[cH]) pcs n
 cases e:s.w.S with
 | false=>
   obtain⟨c,_,a⟩:=h.j2 e;have:s.w.K.toNat<=1:=by cases s.w.K<;>simp
   omega
 | true=>
   obtain⟨_,_,a,d⟩:=h.j3 e;have:(!s.w.L).toNat<=1:=by cases s.w.L<;>simp
   omega
def Inv.Pv(h:Inv n pcs s)(hi:i<n)(a:pcs i=.held):s.w.L=true:=by
 have:cj (pcs i)<=fB n (λj=>cj (pcs j)):=iS (λj=>cj (pcs j)) hi;rw[h.j1,a,show cj .held=1 from rfl]at this
 grind
def Inv.RR(h:Inv n pcs s)(hi:i<n){old sv}(a:pcs i=.add old sv):s.w.L=false/\s.w.S=true/\s.w.N≠0:=by
 have:dc (pcs i)<=fB n (λj=>dc (pcs j)):=iS (λj=>dc (pcs j)) hi;rw[a,show dc (.add old sv)=1 from rfl]at this;cases e:s.w.S with
 |false=>obtain⟨_,b,_⟩:=h.j2 e;omega
 | true=>
   obtain⟨_,_,c,d⟩:=h.j3 e
   grind
end
def BO:Pc->Bool
 |.rd _=>true|.sq ..=>true|.sw ..=>true|.kB ..=>true|.gE _=>true|.tq=>true|.up _=>true|.add ..=>true|.held=>true|_=>false
def FJ:Pc->Bool
 |.out=>true|.jh _=>true|.vX=>true|.give=>true|_=>false
def QX  old   l :BO (nx old l)=true:=by unfold nx;split<;>rfl
def UG{old l p}(h:p∈hd old l):BO p=true:=by
 unfold hd at h;rw[aaq]at h;rcases h with h|h
 . split at h
   . rw[lb]at h;subst h;split<;>rfl
   . cases h
 . rw[lb]at h;subst h;rfl
def UH{p q s s'}(b:p=.ir\/(BO p=true/\p≠.held))(h:(q,s')∈mv p s)(e:q≠.bad):BO q=true:=by
 rcases b with rfl|⟨b,c⟩
 . simp only[mv]at h
   split at h<;>(rw[lb,zH]at h;obtain⟨rfl,rfl⟩:=h;rfl)
 cases p<;>simp only[BO,LK]at b
 case rd l=>simp only[mv,lb,zH]at h;obtain⟨rfl,rfl⟩:=h;exact QX _ _
 case sq old l=>simp only[mv,aaA,zH]at h;obtain⟨a,d,rfl,rfl⟩:=h;exact UG d
 case sw old l=>simp only[mv]at h;split at h<;>(rw[lb,zH]at h;obtain⟨rfl,rfl⟩:=h;rfl)
 case kB old l=>
  simp only[mv]at h;split at h
  . simp_all
  split at h
  . rw[lb,zH]at h;obtain⟨rfl,rfl⟩:=h;split<;>rfl
  . rw[lb,zH]at h;obtain⟨rfl,rfl⟩:=h;rfl
 case gE sv=>
  simp only[mv]at h;split at h
  . cases h
  . rw[lb,zH]at h;obtain⟨rfl,rfl⟩:=h;split<;>rfl
 case tq=>
  simp only[mv,aaD,zH,abD,or_false]at h;rcases h with⟨rfl,rfl⟩|⟨rfl,rfl⟩<;>rfl
 case up sv=>
  simp only[mv]at h;split at h
  . split at h
    . simp_all
    . rw[lb,zH]at h;obtain⟨rfl,rfl⟩:=h;rfl
  . rw[lb,zH]at h;obtain⟨rfl,rfl⟩:=h;exact QX _ _
 case add old sv=>simp only[mv,lb,zH]at h;obtain⟨rfl,rfl⟩:=h;rfl
 simp_all
def UI{p q s s'}(a:p=.held\/(FJ p=true/\p≠.out))(h:(q,s')∈mv p s)(c:q≠.bad):FJ q=true:=by
 rcases a with rfl|⟨a,b⟩
 . simp only[mv]at h
   split at h
   . simp_all
   . rw[lb,zH]at h
     obtain⟨rfl,rfl⟩:=h;split
     . rfl
     split
     . rfl
     split<;>rfl
 cases p<;>simp only[FJ,LK]at a
 case out=>simp_all
 case jh old=>simp only[mv]at h;split at h<;>(rw[lb,zH]at h;obtain⟨rfl,rfl⟩:=h;rfl)
 case vX=>simp only[mv,lb,zH]at h;obtain⟨rfl,rfl⟩:=h;split<;>rfl
 case give=>simp only[mv,lb,zH]at h;obtain⟨rfl,rfl⟩:=h;rfl
def QY{p q s s'}(b:p≠.give)(h:(q,s')∈mv p s)(a:s.ms=0):s'.ms=0:=by
 cases p<;>simp only[mv]at h
 case out=>cases h
 case bad=>cases h
 case give=>simp_all
 case sq=>grind
 case tq=>grind
 all_goals repeat' split at h
 all_goals first
  |(cases h;done)
  |(rw[lb,zH]at h;obtain⟨_,rfl⟩:=h;first|exact a|(show s.ms-1=0;omega))
end Mu
def uL:BA->Bool
 |.ir=>true|.rd _=>true|.sq ..=>true|.sw ..=>true|.kB ..=>true|.gE _=>true|.tq=>true|.up _=>true|.add ..=>true|.held=>true|.jh _=>true|.vX=>true|.give=>true
 |_=>false
def LN{q p}(h:To q p):p.abs=q:=by cases h<;>rfl
def UJ{q p}(h:To q p)(a:Mu.BO q=true):Dc p=true/\p≠.ld/\p≠.la:=by cases h<;>simp_all [Mu.BO,Dc]
def UK{q p}(h:To q p)(a:Mu.FJ q=true):zp p=true/\p≠.Hj/\p≠.ur/\p≠.ud:=by cases h<;>simp_all [Mu.FJ,zp]
def LO{q p}(h:To q p):q≠.bad:=by cases h<;>simp
section
variable{P:adh}{nm:C7}(C:gq P nm)(X:gu P nm){n:Nat}{pcs:Nat->Mu.Pc}{s:Mu.Sh}{i:Nat}{p:BA}{b o:Nat}{kind:adb}{Wd:acM}{cs:acR}{g:acW}{w:World}{main:Bool}
include C X in
def Dj(I:Mu.Inv n pcs s)(hi:i<n)(v:n<=900)(c:pcs i=p.abs)(f:uL p=true)(a:ShM b o w s)(h:oi P nm b o kind p cs g):
 lQ P nm b o kind Wd cs g w main p.abs s\/((∃sv,p=.gE sv)/\s.ms=0/\stepG P main g w=.go {g with status:=.blocked} w #[]):=by
 obtain⟨x,k⟩:=I.Xa;have hb:s.w.N<=1000:=by omega
 have j:∀{q s'},(q,s')∈Mu.mv (pcs i) s->Mu.loc q:=λ{q s'} f=>by
  have:=(I.step hi f).j0 i hi
  rwa [Mu.aj]at this
 have d:Mu.loc (pcs i):=I.j0 i hi;rw[c]at j d;cases p<;>simp only[uL,LK]at f
 case ir=>exact .inl (Iv C X a h)
 case rd l=>exact .inl (Pg C X a hb (j (q:=Mu.nx s.w l) (s':=s) (by simp[BA.abs,Mu.mv])) h)
 case sq old l=>exact .inl (Ph C X a d h)
 case sw old l=>exact .inl (Pj C X a d h)
 case kB old l=>exact .inl (Lr C X a d h)
 case gE sv=>
  by_cases e:s.ms=0
  . exact .inr ⟨⟨sv,rfl⟩,e,Db C X a e h⟩
  . exact .inl (Iw C X a e h)
 case tq=>exact .inl (Pk C X a h)
 case up sv=>exact .inl (Pl C X a hb (λq s' m=>j m) h)
 case add old sv=>obtain⟨r,t,u⟩:=I.RR hi c;exact .inl (Ls C X a hb r t u h)
 case held=>exact .inl (Ix C X a hb (I.Pv hi c) h)
 case jh old=>exact .inl (Iy C X a h)
 case vX=>exact .inl (Lt C X a hb h)
 case give=>exact .inl (Iz C X a (by omega) h)
end
section
variable{P:adh}{A:bN}{Fin:acy}{Z:Base}{s:MS P}{f:Nat->Node P}{q:acZ}{kk:adg}{OO:adf}{J M:acT}{gs:acC}{w:World}{t:Trace}{j:Nat}{g:acW}
def Goes  P  (A:bN) (Fin:acy) (Z:Base) (f:A.b+A.n+1<=Z.lk) (s:MS P) (gs:acC) (w:World) (t:Trace) (sl:acA) (i:Nat):Prop:=∃ops e,runT P (crowd gs w sl) i=(.next e,ops)/\∃s' f' q' kk' OO' J' M' a c d,e=crowd a c d/\MS.gh A.n s' s/\bG (cd P A Fin Z f) Z s' f' q' kk' OO' J' M' a c (t++ops)
def FK  P  (A:bN) (s:MS P) (gs:acC) (w:World) (sl:acA) (i:Nat) (g:acW):Prop:=RO P A s i/\runT P (crowd gs w sl) i=(.next (crowd (gs.setIfInBounds i (blk g)) w sl),#[])
def Dk(e:gs[A.b+j]?=some g)(a:stepG P false g w=.go {g with status:=.blocked} w #[])  sl :runT P (crowd gs w sl) (A.b+j)=(.next (crowd (gs.setIfInBounds (A.b+j) (blk g)) w sl),#[]):=by
 have hb:=A.hb;have c:(A.b+j==0)=false:=by simp;omega
 have h:=runT_crowd_go (P:=P) (sl:=sl) (i:=A.b+j) e (by rw[c];exact a)
 have d:woken P g {g with status:=.blocked} w=id:=funext λo=>by unfold Go.Conc.woken;simp
 rw[d,Array.map_id]at h;exact h
variable(C:gq P A.nm)(X:gu P A.nm)
include C X in
def Pw  G  (H:bG (cd P A Fin Z G) Z s f q kk OO J M gs w t) (hj:j<A.n){p Y}(a:s.w j=.lk p Y) (K:gs[A.b+j]?=some g) (V:Hz P A j (.lk p Y) (kk (A.b+j)) (OO (A.b+j)) g) (W:p≠.la)  sl :
 Goes P A Fin Z G s gs w t sl (A.b+j)\/FK P A s gs w sl (A.b+j) g:=by
 have m:cZ P A Z s kk OO J M gs.size w t:=H.ex;have a7:Dc p=true:=by have:=m.I.ok j hj;rw[a]at this;exact this
 have L:(s.w j).ki=true:=by rw[a];rfl
 have v:=iT L;have l:(s.w j).pc=p.abs:=by rw[a];rfl
 have hn:=A.hn;have hb:=A.hb;have ay:(A.b+j==0)=false:=by simp;omega
 obtain⟨kind,c,rest,e,Q,R,S,T,o,r,U⟩:=V
 by_cases N:uL p=true
 . rcases Dj (Wd:=kW A) (main:=false) C X m.I.mu hj hn l N m.mu R with⟨g1,w',es,qq,s',z,i,B,D,⟨hr,E,⟨k,d⟩,F⟩,a8,a9,ab,ad⟩|⟨⟨sv,rfl⟩,u,i⟩
   . left
     have al:Mu.BO qq=true:=Mu.UH (by cases p<;>simp_all [Dc,uL,BA.abs,Mu.BO]) B (LO D)
     obtain⟨k1,k2,k3⟩:=UJ D al;have y:((bp.lk z Y).pc,s')∈Mu.mv (s.w j).pc s.sh:=by rw[l,show(bp.lk z Y).pc=z.abs from rfl,LN D];exact B
     have av:(s.w j).deaf=1:=by rw[a];cases p<;>simp_all [bp.deaf,uL,Dc]
     have ax:(bp.lk z Y).deaf=1:=by cases z<;>simp_all [bp.deaf]
     refine xQ (x:=.lk z Y) G H hj L rfl (by rw[a];rfl) (λ_=>by rw[a];rfl) (m.I.mv hj v rfl k1 y) (HB m.I hj v rfl (by rw[a];rfl) y ?_) K i a8 a9 ab (by rw[ad,av,ax]) ⟨k,E,d,kind,c,rest,e,Q,F,S,T,o,r,U⟩ (.inl λu=>Mu.QY ?_ B u) sl
     . cases z<;>simp_all [bp.ex]
     . cases p<;>simp_all [uL,Dc,BA.abs]
   . right
     exact⟨.inl ⟨j,sv,Y,hj,rfl,a,u⟩,Dk K i sl⟩
 . cases p<;>simp only[uL,Dc,not_true_eq_false,LK]at N a7
   case ld=>obtain⟨g1,i,hr,E,⟨k,d⟩,F⟩:=BB (Wd:=kW A) (main:=false) (w:=w) C X R;left;exact xQ (x:=.lk .ir Y) (sh:=s.sh) G H hj L rfl (by rw[a];rfl) (λ_=>by rw[a];rfl) (m.I.Yf hj v rfl rfl l rfl) (LJ hj v rfl (by rw[a];rfl) l rfl (by rw[a];rfl) rfl) K i (bj rfl) m.mu (λe O=>by simp at O;subst O;exact .inl (.inl rfl)) (by rw[a];rfl) ⟨k,E,d,kind,c,rest,e,Q,F,S,T,o,r,U⟩ (.inl λu=>u) sl
   case t1 sv=>obtain⟨g1,i,hr,E,⟨k,d⟩,F⟩:=Pe (Wd:=kW A) (main:=false) (w:=w) C X R;left;exact xQ (x:=.lk (.gE sv) Y) (sh:=s.sh) G H hj L rfl (by rw[a];rfl) (λ_=>by rw[a];rfl) (m.I.still hj v rfl rfl (by rw[l];rfl)) (lS hj v rfl (by rw[a];rfl) (by rw[l];rfl) (by rw[a];simp[bp.ex])) K i (bj rfl ⟨⟨w.tick,rfl⟩,rfl⟩) (m.mu.heap rfl) fJ (by rw[a];rfl) ⟨k,E,d,kind,c,rest,e,Q,F,S,T,o,r,U⟩ (.inl λu=>u) sl
   case le=>
    obtain⟨g1,i,hr,E,⟨k,d⟩,F⟩:=Ho (Wd:=kW A) (main:=false) (w:=w) C X (λw h=>h.2.2) R
    left;exact xQ (x:=.lk .la Y) (sh:=s.sh) G H hj L rfl (by rw[a];rfl) (λ_=>by rw[a];rfl) (m.I.still hj v rfl rfl (by rw[l];rfl)) (lS hj v rfl (by rw[a];rfl) (by rw[l];rfl) (by rw[a];simp[bp.ex])) K i (bj rfl) m.mu (λe O=>by simp at O;subst O;exact .inl (.inr rfl)) (by rw[a];rfl) ⟨k,E,d,kind,c,rest,e,Q,F,S,T,o,r,U⟩ (.inl λu=>u) sl
   case la=>exact absurd rfl W
end
section
variable{P:adh}{A:bN}{Fin:acy}{Z:Base}{s:MS P}{f:Nat->Node P}{q:acZ}{kk:adg}{OO:adf}{J M:acT}{gs:acC}{w:World}{t:Trace}{j:Nat}{g:acW}
variable(C:gq P A.nm)(X:gu P A.nm)
include C X in
def Px  B  (L:bG (cd P A Fin Z B) Z s f q kk OO J M gs w t) (hj:j<A.n){p Y}(a:s.w j=.un p Y) (Q:gs[A.b+j]?=some g) (R:Hz P A j (.un p Y) (kk (A.b+j)) (OO (A.b+j)) g) (S:p≠.ur) (T:p≠.ue)  sl :
 Goes P A Fin Z B s gs w t sl (A.b+j):=by
 have m:cZ P A Z s kk OO J M gs.size w t:=L.ex;have F:zp p=true:=by have:=m.I.ok j hj;rw[a]at this;exact this
 have N:(s.w j).ki=true:=by rw[a];rfl
 have D:=iT N;have i:(s.w j).pc=p.abs:=by rw[a];rfl
 have hn:=A.hn;have hb:=A.hb;obtain⟨kind,c,rest,U,O,V,W,G⟩:=R
 by_cases u:uL p=true
 . have a7:¬(p=.Hj\/p=.ur):=by rintro(rfl|rfl)<;>cases u
   have hN:=G a7
   rcases Dj (Wd:=kW A) (main:=false) C X m.I.mu hj hn i u m.mu O with⟨g1,w',es,qq,s',o,l,y,z,⟨hr,H,⟨k,d⟩,K⟩,a8,a9,ab,ad⟩|⟨⟨sv,rfl⟩,E,l⟩
   . have al:Mu.FJ qq=true:=Mu.UI (by cases p<;>simp_all [zp,uL,BA.abs,Mu.FJ]) y (LO z)
     obtain⟨k1,k2,k3,k4⟩:=UK z al;have r:((bp.un o Y).pc,s')∈Mu.mv (s.w j).pc s.sh:=by rw[i,show(bp.un o Y).pc=o.abs from rfl,LN z];exact y
     have av:(s.w j).deaf=1:=by rw[a];cases p<;>simp_all [bp.deaf,uL,zp]
     have ax:(bp.un o Y).deaf=1:=by cases o<;>simp_all [bp.deaf]
     have ay:(s.w j).owns=false:=by rw[a];cases p<;>simp_all [bp.owns,uL,zp]
     have aC:(bp.un o Y).owns=false:=by cases o<;>simp_all [bp.owns]
     refine xQ (x:=.un o Y) B L hj N rfl (by rw[ay,aC]) (λ_=>by rw[a];rfl) (m.I.mv hj D rfl k1 r) (HB m.I hj D rfl (by rw[a];rfl) r ?_) Q l a8 a9 ab (by rw[ad,av,ax]) ⟨k,H,d,kind,c,rest,U,K,V,λh=>absurd h (λh=>h.elim k2 k3),λ_=>hN⟩ ?_ sl
     . cases o<;>simp_all [bp.ex]
     . by_cases aE:p=.give
       . subst aE;exact .inr ⟨IF C X O,hr⟩
       . refine .inl λE=>Mu.QY ?_ y E
         cases p<;>simp_all [uL,zp,BA.abs]
   . exact absurd F (by simp[zp])
 . cases p<;>simp only[uL,zp,not_true_eq_false,LK]at u F
   case Hj=>
    obtain⟨v,hv⟩:=((bh (P:=P) (A:=A) (Fin:=Fin) (Z:=Z) B).wd m).2.2;obtain⟨g1,l,hr,H,⟨k,d⟩,K⟩:=xD (Wd:=kW A) (main:=false) (w:=w) C X (λw h=>h.2.2) hv O
    exact xQ (x:=.un .ur Y) (sh:=s.sh) B L hj N rfl (by rw[a];rfl) (λ_=>by rw[a];rfl) (m.I.still hj D rfl rfl (by rw[i];rfl)) (lS hj D rfl (by rw[a];rfl) (by rw[i];rfl) (by rw[a];simp[bp.ex])) Q l (bj rfl) m.mu fJ (by rw[a];rfl) ⟨k,H,d,kind,c,rest,U,K,V,λ_=>W (.inl rfl),λh=>absurd (.inr rfl) h⟩ (.inl λE=>E) sl
   case ud=>
    have hN:=G (by rintro(h|h)<;>cases h)
    obtain⟨g1,l,hr,H,⟨k,d⟩,K⟩:=Hl (Wd:=kW A) (main:=false) (w:=w) C X O;exact xQ (x:=.un .held Y) (sh:=s.sh) B L hj N rfl (by rw[a];rfl) (λ_=>by rw[a];rfl) (m.I.still hj D rfl rfl (by rw[i];rfl)) (lS hj D rfl (by rw[a];rfl) (by rw[i];rfl) (by rw[a];simp[bp.ex])) Q l (bj rfl) m.mu (λe he=>by simp at he;subst he;exact .inl (.inl rfl)) (by rw[a];rfl) ⟨k,H,d,kind,c,rest,U,K,V,λh=>absurd h (by simp),λ_=>hN⟩ (.inl λE=>E) sl
   case ur=>exact absurd rfl S
   case ue=>exact absurd rfl T
end
def TT.RS{P m K O g1 a}(h:sT P (λ_=>True) g1 a)(e:TT P m K O a):TT P m K O g1:=.step (λb c d=>b=K/\c=O/\d=a) h.1 (λb c d f=>by obtain⟨rfl,rfl,rfl⟩:=f;exact e) (λw g=>⟨a,w,#[],K,O,h.2 _ w trivial,Eff.refl _ _ _,g,rfl,rfl,rfl⟩)
def TT.Dl{P m K O g1 c}  h   a  {z:Node P}(b:pG z ⟨m,K,O,g1,TT.RS h a⟩):z=⟨m,K,O,c,a⟩:=by
 unfold TT.RS at b;cases b with
 |step _ _ _ _ d=>obtain⟨rfl,rfl,rfl⟩:=d;rfl
def TT.pre{P m K O}:∀{k g1 a},ji P (λ_=>True) k g1 a->(X:TT P m K O a)->∃T ,vE ⟨m,K,O,g1,T⟩ ⟨m,K,O,a,X⟩
 |0,g1,a,h,X=>by obtain rfl:g1=a:=h;exact⟨X,.refl _⟩
 | k + 1,g1,a,⟨d,c,h⟩,X=>by
   obtain⟨b,g⟩:=TT.pre h X;refine⟨TT.RS c b,λy hy f=>?_⟩;rcases hy with rfl|hy
   . exact f.elim
   . have:y=⟨m,K,O,d,b⟩\/Relation.TransGen pG y ⟨m,K,O,d,b⟩:=by
      cases hy with
      |single h=>exact .inl (TT.Dl c b h)
      | tail i j=>
        have e:=TT.Dl c b j
        simp_all
     exact g y this f
section
variable{P:adh}{A:bN}{Fin:acy}{Z:Base}{s:MS P}{f:Nat->Node P}{q:acZ}{kk:adg}{OO:adf}{J M:acT}{gs:acC}{w:World}{t:Trace}{j:Nat}{g:acW}
def kj(hj:j<A.n){h X}(e:s.w j=.run h X):dD P A s (A.b+j):=.inr (.inl ⟨j,hj,rfl,by simp_all⟩)
def uM(hj:j<A.n){h X}(e:s.w j=.run h X):¬gy P A s (A.b+j):=by
 have:=A.hb;rintro(⟨e,_⟩|⟨l,a,c,d⟩|⟨e,_⟩)
 . omega
 . simp_all
 . omega
def jS(hj:j<A.n){h X}(e:s.w j=.run h X):¬fq P A s (A.b+j):=by
 have:=A.hb;rintro(⟨e,_⟩|⟨l,a,c,d⟩)
 . omega
 simp_all
def nN(hj:j<A.n){h X}(e:s.w j=.run h X):cD P A Fin s (A.b+j)=iv P A j:=by
 have:=A.hb;unfold cD
 grind
variable(C:gq P A.nm)(X:gu P A.nm)(F:mC P A.nm)
include C X F in
def Py  z  (D:bG (cd P A Fin Z z) Z s f q kk OO J M gs w t) (hj:j<A.n){Y}(E:s.w j=.un .ue Y) (hg:gs[A.b+j]?=some g) (W:Hz P A j (.un .ue Y) (kk (A.b+j)) (OO (A.b+j)) g) (d:A.dir=false)  sl :
 Goes P A Fin Z z s gs w t sl (A.b+j):=by
 have p:cZ P A Z s kk OO J M gs.size w t:=D.ex;have B:=bh (P:=P) (A:=A) (Fin:=Fin) (Z:=Z) z;have h1:(s.w j).ki=true:=by rw[E];rfl
 have u:=iT h1;have hb:=A.hb;have a7:(A.b+j==0)=false:=by simp;omega
 obtain⟨kind,c,rest,hk,hM,hm,ax,a8⟩:=W;have G:=a8 (by simp)
 rw[show E5 P A Y.N=Y.N by simp[E5,d]]at G
 obtain⟨g1,a9,hr,g2,H,K⟩:=BC (Wd:=λ_=>True) (main:=false) (w:=w) C X hM
 obtain⟨k,ab⟩:=H.trans (lR F K hk);obtain⟨T,hU⟩:=TT.pre ab (Y.c _ _ _ G);obtain⟨x,v⟩:∃x:bp P,x=.run false ⟨Y.m,kk (A.b+j),OO (A.b+j),_,Y.c _ _ _ G⟩:=⟨_,rfl⟩;have V:x.work=true:=by rw[v];rfl
 have a:∀sh,((s.aW j x sh).w j)=.run false ⟨Y.m,kk (A.b+j),OO (A.b+j),_,Y.c _ _ _ G⟩:=λsh=>by rw[aX,v]
 have ad:EvM A.fb A.fo #[⟨.mark .enable,false,true⟩]:=λe he=>by simp at he;subst he;exact .inl (.inr rfl)
 have L:=runT_crowd_go (P:=P) (sl:=sl) (i:=A.b+j) hg (by rw[a7];exact a9)
 have Q:bU P A s (A.b+j):=iI p.I hj (bF u).2.2.2.2.1;obtain⟨y1,y2,y3⟩:=p.LM ad Q g.frame.fn g.frame.place;have o:∀op∈MemOp.ofEvents (A.b+j) g.frame.fn g.frame.place #[⟨.mark .enable,false,true⟩],op.g=A.b+j:=λop al=>by obtain⟨e,_,rfl⟩:=zU al;rfl
 have hJ:J (A.b+j):=(p.hJ _).2 (wE hj (bF u).2.2.2.2.2.1);have hP:=D.cO.sync (i:=A.b+j) (.inr hJ) o rfl ⟨⟨.refl _,rfl⟩,λ_ _=>rfl⟩ (λb=>.inl rfl) y2 y1
 have hI:bR A.n (s.aW j x s.sh):=p.I.still hj u V (by rw[v];rfl) (by rw[v,E];rfl)
 have hL:MS.gh A.n (s.aW j x s.sh) s:=BL hj u V ⟨_,_,by rw[v];rfl,by rw[E];rfl,.single (pG.di Y.N Y.h0 Y.ht Y.c G)⟩
 have R:cZ P A Z (s.aW j x s.sh) kk OO J M gs.size w (t++MemOp.ofEvents (A.b+j) g.frame.fn g.frame.place #[⟨.mark .enable,false,true⟩]):=p.work hj u V (by rw[v,E];rfl) (λh=>by rw[d]at h;cases h) hI p.mu (λ_ _=>rfl) p.vD y3
 have r:Beside (cd P A Fin Z z) s (s.aW j x s.sh) f (bT f (A.b+j) ⟨Y.m,kk (A.b+j),OO (A.b+j),g1,T⟩) q q kk kk OO OO J J w (A.b+j) g g1:=mL z hj u V (λi hi=>az _ _ hi) (λi hi=>rfl) (λ_ _ _=>rfl) (λ_ _ _=>rfl) (λ_ h=>h) (.inl λh=>h) (λ{i k O y} K=>B.kO (s:=s) (i:=i) (k:=k) (O:=O) (g:=y) K)
 have S:=iU (P:=P) (A:=A) (s:=s) hj h1;refine⟨_,_,L,s.aW j x s.sh,bT f (A.b+j) ⟨Y.m,kk (A.b+j),OO (A.b+j),g1,T⟩,q,kk,OO,J,M,_,_,_,rfl,hL,?_⟩;refine bG.step B D hg o hP R (λl y hl K=>?_) r ⟨λ_=>?_,λh=>absurd h (uM hj (a _)),λh=>absurd h (jS hj (a _)),λh=>absurd (kj hj (a _)) h⟩
 . have U:l≠A.b+j:=λe=>(D.held l hl).2.1 (by rw[e];exact S)
   exact B.sV R ((r.held l U).2 hl) _ _ (r.Ts l _ _ _ U hl K)
 . rw[ar]
   refine⟨by show A.b+j<A.b+A.n+1;omega,rfl,?_,rfl,rfl,hr,?_,.inr hJ,λl b X' h3 h4 h5=>?_⟩
   . show Y.m=cD P A Fin (s.aW j x s.sh) (A.b+j)
     rw[nN hj (a _)];exact hm
   . obtain⟨_,_,av,_⟩:=D.walk _ S
     rw[Deaf_own,av];show deafBehind (dM P A s (A.b+j)) _=0;rw[eI hj,E];rfl
   . obtain rfl:l=j:=by omega
     rw[a]at h5;cases h5;exact hU
end
section
variable{Z:Base}{kk:adg}{OO:adf}{J M:acT}{w:World}{t:Trace}
def iV(kk:adg)(lk i:Nat):adg:=bT kk i ((kk i).join (kk lk))
def iy(OO:adf)(lk i mb:Nat)(x:Own):adf:=bT (bT OO i ((OO i).set mb x)) lk ak.bot
def cA.UL(h:cA Z kk OO J M w t){i mb x}(hi:i≠Z.lk)(L:OO Z.lk mb=some x)(ho:∀c,OO Z.lk c≠none->c=mb)(N:Z.la.block<w.heap.size)(hd:Deaf t i=0)(hold:∀m a,m<Z.N0->touchAt t m=some a->a.loc.isMemory=true -> ¬Z.Shun a.loc->Knows t i m)(V:∀m a,Z.N0<=m->t.act? m≠some (.mark (.release a)))  fn   pos :
 cA Z (iV kk Z.lk i) (iy OO Z.lk i mb x) J M w (t++MemOp.ofEvents i fn pos #[⟨.mark (.acquire Z.la),false,true⟩]):=by
 obtain⟨u,S⟩:∃u,u=MemOp.ofEvents i fn pos #[⟨.mark (.acquire Z.la),false,true⟩]:=⟨_,rfl⟩;have G:u=#[⟨i,fn,pos,.mark (.acquire Z.la)⟩]:=by rw[S,ofEvents_eq];simp[MemAct.ofEvent]
 rw[<-S];have A:kF u:=λop d=>by grind
 have W:∀op∈u,op.act.touch?=none:=λop d=>by rw[G]at d;simp at d;subst d;rfl
 have H:∀op∈u,op.g=i:=λop d=>by grind
 have I:∀m a,Z.N0<=m->(t++u).act? m≠some (.mark (.release a)):=λm a O e=>by
  rcases qP e with⟨o,_⟩|⟨op,d,o⟩
  . grind
  grind
 have X:OO i mb=none:=h.jv Z.lk i mb x (za hi) L;have eK:∀l,l≠i->iV kk Z.lk i l=kk l:=λl Y=>az _ _ Y
 have q:iV kk Z.lk i i=(kk i).join (kk Z.lk):=ar _ _ _;have eO:∀l,l≠i->l≠Z.lk->iy OO Z.lk i mb x l=OO l:=λl o B=>by unfold iy;rw[az _ _ B,az _ _ o]
 have C:iy OO Z.lk i mb x i=(OO i).set mb x:=by unfold iy;rw[az _ _ hi,ar]
 have D:iy OO Z.lk i mb x Z.lk=ak.bot:=by unfold iy;rw[ar]
 refine h.uA (λa b=>a=b\/(a=Z.lk/\b=i)) rfl ⟨⟨.refl _,rfl⟩,λ_ _=>rfl⟩ (λb=>.inl rfl) (λop d=>by rw[G]at d;simp at d;subst d;simpa[MemAct.low]using N) (λa b e n y P O hz E=>?_) (λl b n v K=>?_) (λl b sv K=>?_) (λl b y f=>?_) (λa l b y r f=>?_)
  (λsaid=>noRace_append (h.clean said) H λn a Q op d b hb _=>by grind) (λop d a Q=>by grind) (λm op a d Q=>by grind)
  (λn a Q O h=>h.elim (λ⟨j,o,B⟩=>.inr (.inl ⟨j,o,B.app _⟩)) (λ⟨p,o,B⟩=>.inr (.inr (.inl ⟨p,o,B.app _⟩))))
 . rcases e with rfl|⟨rfl,rfl⟩
   . exact E.app u
   . refine(oz hi).2 ?_
     unfold Ip at E;rw[aal rfl]at E
     rcases E with E|⟨p,h0,o,B,h3⟩
     . exact(hold n y E P O hz).app u
     . exact m9 (y:=⟨b,fn,pos,.mark (.acquire Z.la)⟩) (m:=0) A (by grind) rfl hd o B (λk E=>I k _ (by omega)) h3
 . by_cases e:l=i
   . subst e;rw[q]at K
     exact(au.nI K).elim (λh=>⟨l,.inl rfl,h⟩) (λh=>⟨Z.lk,.inr ⟨rfl,rfl⟩,h⟩)
   grind
 . by_cases e:l=i
   . subst e;rw[q]at K
     exact(au.Hc K).elim (λh=>⟨l,.inl rfl,h⟩) (λh=>⟨Z.lk,.inr ⟨rfl,rfl⟩,h⟩)
   grind
 . by_cases e:l=i
   . subst e;rw[C]at f
     by_cases z:b=mb
     . subst z
       simp only[ak.set,aan,kn]at f;subst f;exact⟨Z.lk,.inr ⟨rfl,rfl⟩,L,λsv R=>by rw[q];exact(au.xv (h.sat l) (h.sat Z.lk)).2 b sv R⟩
     . simp only[ak.set,z,Rp]at f
       exact⟨l,.inl rfl,f,λsv R=>by rw[q];exact(au.sQ _ _).2 b sv R⟩
   . by_cases T:l=Z.lk
     . subst T;rw[D]at f;cases f
     . rw[eO l e T]at f;grind
 . by_cases F:a=Z.lk
   . subst F;rw[D]at f;cases f
   by_cases s:l=Z.lk
   . subst s;rw[D];rfl
   by_cases U:a=i
   . subst U
     rw[C]at f;rw[eO l (za r) s]
     by_cases z:b=mb
     . subst z;exact h.jv Z.lk l b x (za s) L
     . simp only[ak.set,z,Rp]at f;exact h.jv a l b y r f
   . rw [eO a U F]at f
     by_cases el:l=i
     . subst el
       rw[C]
       by_cases z:b=mb
       . subst z
         have:=h.jv Z.lk a b x (za F) L
         simp_all
       . simp only[ak.set,z,Rp];exact h.jv a l b y r f
     . rw[eO l el s];exact h.jv a l b y r f
end
section
variable{Z:Base}{kk:adg}{OO:adf}{J M:acT}{w:World}{t:Trace}
def oJ(kk:adg)(lk i:Nat):adg:=bT kk lk (kk i)
def fK(OO:adf)(lk i mb fb:Nat)(x:Own):adf:=bT (bT OO i (((OO i).del mb).del fb)) lk (ak.bot.set mb x)
def cA.UM(h:cA Z kk OO J M w t){i mb fb x}(hi:i≠Z.lk)(T:OO i mb=some x)(ho:∀c,OO Z.lk c=none)(N:Z.la.block<w.heap.size)(hd:Deaf t i=0)  fn   pos :
 cA Z (oJ kk Z.lk i) (fK OO Z.lk i mb fb x) J M w (t++MemOp.ofEvents i fn pos #[⟨.mark (.releaseMerge Z.la),false,true⟩]):=by
 obtain⟨u,R⟩:∃u,u=MemOp.ofEvents i fn pos #[⟨.mark (.releaseMerge Z.la),false,true⟩]:=⟨_,rfl⟩;have F:u=#[⟨i,fn,pos,.mark (.releaseMerge Z.la)⟩]:=by rw[R,ofEvents_eq];simp[MemAct.ofEvent]
 rw[<-R];have s:kF u:=λop d=>by grind
 have U:∀op∈u,op.act.touch?=none:=λop d=>by rw[F]at d;simp at d;subst d;rfl
 have G:∀op∈u,op.g=i:=λop d=>by grind
 have z:u[0]?=some ⟨i,fn,pos,.mark (.releaseMerge Z.la)⟩:=by grind
 have eK:∀l,l≠Z.lk->oJ kk Z.lk i l=kk l:=λl V=>az _ _ V
 have W:oJ kk Z.lk i Z.lk=kk i:=ar _ _ _;have eO:∀l,l≠i->l≠Z.lk->fK OO Z.lk i mb fb x l=OO l:=λl H I=>by unfold fK;rw[az _ _ I,az _ _ H]
 have k:fK OO Z.lk i mb fb x i=((OO i).del mb).del fb:=by unfold fK;rw[az _ _ hi,ar]
 have A:fK OO Z.lk i mb fb x Z.lk=ak.bot.set mb x:=by unfold fK;rw[ar]
 have K:∀b y,(((OO i).del mb).del fb) b=some y->b≠mb/\OO i b=some y:=λb y f=>by
  by_cases q:b=fb
  . simp[ak.del,q]at f
  by_cases r:b=mb
  . simp[ak.del,r]at f
  . exact⟨r,by simpa[ak.del,q,r]using f⟩
 have L:∀b y,(ak.bot.set mb x) b=some y->b=mb/\y=x:=λb y f=>by
  by_cases e:b=mb
  . subst e;simp only[ak.set,aan,kn]at f;simp_all
  . simp only[ak.set,e,Rp]at f;cases f
 have B:∀b,OO i b=none->(((OO i).del mb).del fb) b=none:=λb X=>by
  by_cases q:b=fb
  . simp[ak.del,q]
  by_cases r:b=mb
  . grind
  . simpa[ak.del,q,r]using X
 refine h.uA (λa b=>a=b\/(a=i/\b=Z.lk)) rfl ⟨⟨.refl _,rfl⟩,λ_ _=>rfl⟩ (λb=>.inl rfl) (λop d=>by rw[F]at d;simp at d;subst d;simpa[MemAct.low]using N) (λa b e n y Y hm hz S=>?_) (λl b n v hv=>?_) (λl b sv hv=>?_) (λl b y f=>?_) (λa l b y o f=>?_)
  (λsaid=>noRace_append (h.clean said) G λn a O op d b hb _=>by grind) (λop d a O=>by grind) (λm op a d O=>by grind)
  (λn a O hm h=>h.elim (λ⟨j,H,I⟩=>.inr (.inl ⟨j,H,I.app _⟩)) (λ⟨p,H,I⟩=>.inr (.inr (.inl ⟨p,H,I.app _⟩))))
 . rcases e with rfl|⟨rfl,rfl⟩
   . exact S.app u
   . have P:Knows t a n:=(oz hi).1 S
     unfold Ip;rw[aal rfl];exact .inr ⟨t.size+0,by have:=h.n0;omega,by rw[act?_of (dv z)],heard_new s z hd,lM P z rfl⟩
 . grind
 . grind
 . by_cases r:l=Z.lk
   . subst r;rw[A]at f
     grind
   by_cases e:l=i
   . subst e;rw[k]at f
     grind
   . rw[eO l e r]at f;grind
 . by_cases C:a=Z.lk
   . subst C;rw[A]at f
     obtain⟨rfl,rfl⟩:=L b y f
     by_cases el:l=i
     . subst el;rw[k]
       by_cases q:b=fb
       . simp[ak.del,q]
       . simp[ak.del,q]
     . rw[eO l el (za o)];exact h.jv i l b y (za el) T
   by_cases D:l=Z.lk
   . subst D;rw[A]
     have Q:b≠mb:=by
      by_cases E:a=i
      . subst E;rw[k]at f;grind
      . rw[eO a E C]at f
        intro e;subst e;have:=h.jv a i b y E f
        grind
     simp only[ak.set,Q,Rp];rfl
   by_cases E:a=i
   . subst E
     rw[k]at f;rw[eO l (za o) D];exact h.jv a l b y o (K b y f).2
   . rw[eO a E C]at f
     by_cases el:l=i
     . subst el;rw[k];exact B b (h.jv a l b y o f)
     . rw[eO l el D];exact h.jv a l b y o f
end
section
variable{P:adh}{A:bN}{Fin:acy}{Z:Base}{s:MS P}{f:Nat->Node P}{q:acZ}{kk:adg}{OO:adf}{J M:acT}{gs:acC}{gsz:Nat}{w:World}{t u:Trace}{j:Nat}{g:acW}{x:bp P}{xo:Own}
def IG{x:bp P}(h:x.owns=true):x.pc=.held:=by
 cases x with
 |run b X=>cases b<;>simp_all [bp.owns,bp.pc]
 |un p Y=>cases p<;>simp_all [bp.owns,bp.pc,BA.abs]
 |_=>simp_all [bp.owns]
def Dm(I:bR A.n s)(hj:j<A.n)(a:(s.w j).pc=.held){l}(b:l<A.n)(c:(s.w l).owns=true):l=j:=by
 by_cases e:l=j
 . exact e
 . have g:=I.mu.j1
   have d:=Mu.gn Mu.cj (λi=>(s.w i).pc) j .out hj
   have f:Mu.cj (Mu.set (λi=>(s.w i).pc) j .out l)<=Mu.fB A.n (λi=>Mu.cj (Mu.set (λi=>(s.w i).pc) j .out i)):=Mu.iS (λi=>Mu.cj (Mu.set (λi=>(s.w i).pc) j .out i)) b
   rw[Mu.ai _ _ e,IG c]at f;have h:Mu.cj .held=1:=rfl;have k:Mu.cj .out=0:=rfl;rw[a]at d;have:s.sh.w.L.toNat<=1:=by cases s.sh.w.L<;>simp
   omega
def kP(A:bN)(Z:Base)(OO:adf)(i:Nat)(x:Own)(a:Nat->acK):adf:=bT (iy OO Z.lk i A.mb x) i ((iy OO Z.lk i A.mb x i).set A.fb (.part a))
def bN.Tk.OP{f}(h:A.Tk j f){l}(a:f l≠none):A.dir=true/\l=A.cell j:=by
 unfold bN.Tk at h;split at h
 . grind
 . subst h;exact absurd rfl a
def cZ.take{p}(H:A.Tk j p)(hZ:A.b+A.n+1<=Z.lk)(h:cZ P A Z s kk OO J M gsz w t)(hj:j<A.n)(f:(s.w j).work=true)(K:x.work=true)(L:∀l,l<A.n->(s.w l).owns=false)(F:x.owns=true)(V:bR A.n (s.aW j x s.sh))(W:∀op∈u,op.act.touch?=none/\∀a,op.act≠.mark (.release a)):
 cZ P A Z (s.aW j x s.sh) (iV kk Z.lk (A.b+j)) (kP A Z OO (A.b+j) xo p) J M gsz w (t++u):=by
 have S:A.b+j≠Z.lk:=by omega
 have r:x.busy=(s.w j).busy:=by rw[(bF f).2.2.2.2.2.1,(bF K).2.2.2.2.2.1]
 have N:∀l,l≠A.b+j->iV kk Z.lk (A.b+j) l=kk l:=λl d=>az _ _ d
 have O:iV kk Z.lk (A.b+j) (A.b+j)=(kk (A.b+j)).join (kk Z.lk):=ar _ _ _;have eO:∀l,l≠A.b+j->l≠Z.lk->kP A Z OO (A.b+j) xo p l=OO l:=λl f K=>by unfold kP iy;rw[az _ _ f,az _ _ K,az _ _ f]
 have z:kP A Z OO (A.b+j) xo p (A.b+j)=((OO (A.b+j)).set A.mb xo).set A.fb (.part p):=by unfold kP iy;rw[ar,az _ _ S,ar]
 have B:kP A Z OO (A.b+j) xo p Z.lk=ak.bot:=by unfold kP iy;rw[az _ _ (za S),ar]
 have C:bU P A s (A.b+j):=iI h.I hj (bF f).2.2.2.2.1
 have T:∀i,OO i A.fb=none:=λi=>by
  cases e:OO i A.fb with
  |none=>rfl
  | some y=>
    obtain⟨l,_,d,_,ho,_⟩:=h.tok i y e
    grind
 have g:∀{c n:Nat},(∀i,(kk i).cell c n=none)->(iV kk Z.lk (A.b+j) (A.b+j)).cell c n=none:=λ{c n} X=>by
  rw[O];cases e:((kk (A.b+j)).join (kk Z.lk)).cell c n with
  |none=>rfl
  |some v=>rcases au.nI e with h|h<;>rw[X]at h<;>cases h
 refine⟨V,h.size,h.dd,h.off,λhd l d=>?_,h.Ac,h.mu,h.gr,h.vD,h.zq,λi=>?_,λi=>?_,λi y D=>?_,λl d k=>?_,λk=>?_,λc U=>?_,
  λi=>by rw[h.hJ i];exact(oH hj r i).symm,h.vF u,h.mK u,h.kh u (λop o a Q=>by simp_all),h.oE u (λop o a Q=>by simp_all),h.p9 u,h.jy u (λop o=>(W op o).2),λi d hb=>?_,h.sS,h.jR,h.fa,h.la,by simp;exact aar h.n0 (abf _ _)⟩
 . by_cases e:l=j
   . subst e
     rw[aX];exact⟨λE=>by(rw[Ad F]at E;cases E),λR=>by simp[bp.rel,F]at R⟩
   . rw[cx e]
     refine⟨λE=>⟨λi=>?_,λm a Y Q q q'=>(dU Q).elim (λf=>((h.yZ hd l d).1 E).2 m a Y f.1 q q') (λ⟨op,o,f⟩=>by simp_all)⟩,λR=>?_⟩
     . have f:=((h.yZ hd l d).1 E).1
       grind
     . rw[N _ (by omega)];exact(h.yZ hd l d).2 R
 . by_cases e:i=A.b+j
   . subst e;rw[z]
     have:=h.gz (A.b+j);simp only[ak.set,A.d1,A.d3,za A.d4,A.d6,Rp];exact this
   by_cases G:i=Z.lk
   . subst G;rw[B];exact⟨λ_=>rfl,rfl⟩
   . rw[eO i e G];exact h.gz i
 . by_cases e:i=A.b+j
   . subst e
     exact⟨g λi=>(h.eD i).1,g λi=>(h.eD i).2.1,g λi=>(h.eD i).2.2.1,g λi=>(h.eD i).2.2.2⟩
   . rw[N i e];exact h.eD i
 . by_cases e:i=A.b+j
   . subst e;rw[z]at D
     simp only[ak.set,aan,kn]at D;exact⟨j,p,hj,rfl,by rw[aX];exact F,D.symm,λ_=>H.OP⟩
   by_cases G:i=Z.lk
   . subst G;rw[B]at D;cases D
   simp_all
 . by_cases e:l=j
   . subst e;rw[z];simp[ak.set]
   . rw[cx e,L l d]at k;cases k
 . have:=k j hj
   rw[aX,F]at this;cases this
 . rw[B]at U;exact absurd rfl U
 . have e:i≠A.b+j:=λe=>hb (e ▸ C)
   rw[N i e,eO i e d];exact h.De i d hb
end
section
variable{P:adh}{A:bN}{Fin:acy}{Z:Base}{s:MS P}{f:Nat->Node P}{q:acZ}{kk:adg}{OO:adf}{J M:acT}{gs:acC}{w:World}{t:Trace}{j:Nat}{g:acW}
variable(C:gq P A.nm)(X:gu P A.nm)(F:mC P A.nm)
include C X F in
def Pz  hZ  (H:bG (cd P A Fin Z hZ) Z s f q kk OO J M gs w t) (hj:j<A.n){Y}(S:s.w j=.lk .la Y) (hg:gs[A.b+j]?=some g) (b5:Hz P A j (.lk .la Y) (kk (A.b+j)) (OO (A.b+j)) g)  sl :
 Goes P A Fin Z hZ s gs w t sl (A.b+j):=by
 have d:cZ P A Z s kk OO J M gs.size w t:=H.ex;have B:=bh (P:=P) (A:=A) (Fin:=Fin) (Z:=Z) hZ;have r:(s.w j).ki=true:=by rw[S];rfl
 have w1:=iT r;have b6:(s.w j).pc=.held:=by rw[S];rfl
 have hb:=A.hb;have o:A.b+j≠Z.lk:=by omega
 have b7:(A.b+j==0)=false:=by simp;omega
 have U:∀l,l<A.n->(s.w l).owns=false:=λl E=>by
  cases e:(s.w l).owns with
  |false=>rfl
  |true=>obtain rfl:=Dm d.I hj b6 E e;rw[S]at e;cases e
 have L:∀i,OO i A.fb=none:=λi=>by
  cases e:OO i A.fb with
  |none=>rfl
  |some y=>obtain⟨l,_,E,_,ho,_⟩:=d.tok i y e;rw[U l E]at ho;cases ho
 obtain⟨xo,a,a9,b8,b9⟩:=d.OM U;obtain⟨kind,c,rest,e,hk,hM,hm,hO,ab,bm,hN⟩:=b5;obtain⟨cc,ee,al⟩:=d.vD
 have av:e=(ee,cc.size):=by have hs:=(H.cO.sat (A.b+j)).sh _ _ ab;simp only[World.shape?,al]at hs;exact(aaF hs).symm
 obtain⟨p,V,ax⟩:∃p,A.Tk j p/\∀n v,p n=some v->A.dir=true/\n=A.cell j/\cc[n]?=some v:=by
  unfold bN.Tk
  by_cases hd:A.dir=true
  . have:=bm hd
    rw[av]at this;refine⟨λi=>if i=A.cell j then some cc[A.cell j]else none,by rw[aal hd];exact⟨_,rfl⟩,λn v G=>?_⟩
    simp only at G;split at G
    . next e=>subst e;exact⟨hd,rfl,by rw[<-G];exact aay this⟩
    . cases G
  . exact⟨LB,by rw[aaj hd],λn v G=>by cases G⟩
 have ay:(kk Z.lk).Le ((kk (A.b+j)).join (kk Z.lk)):=au.xv (H.cO.sat (A.b+j)) (H.cO.sat Z.lk);have u:=hN ((kk (A.b+j)).join (kk Z.lk)) xo a p (au.sQ _ _) (b8.mono ay) b9 (H.cO.jv Z.lk (A.b+j) _ _ (za o) a9) V;obtain⟨g1,aC,hr,g2,aE,hA⟩:=Hn (Wd:=λ_=>True) (main:=false) (w:=w) C X hM
 obtain⟨k,bw⟩:=aE.trans (s8 F hA hk);rw[<-d.la]at aC;have W:iV kk Z.lk (A.b+j) (A.b+j)=(kk (A.b+j)).join (kk Z.lk):=ar _ _ _;have bA:kP A Z OO (A.b+j) xo p (A.b+j)=((OO (A.b+j)).set A.mb xo).set A.fb (.part p):=by unfold kP iy;rw[ar,az _ _ o,ar]
 rw[<-W,<-bA]at u;obtain⟨T,hU⟩:=TT.pre bw (Y.c _ _ _ u);obtain⟨x,hx⟩:∃x:bp P,x=.run true ⟨Y.m,iV kk Z.lk (A.b+j) (A.b+j),kP A Z OO (A.b+j) xo p (A.b+j),_,Y.c _ _ _ u⟩:=⟨_,rfl⟩;have w2:x.work=true:=by rw[hx];rfl
 have z:∀sh,((s.aW j x sh).w j)=.run true ⟨Y.m,iV kk Z.lk (A.b+j) (A.b+j),kP A Z OO (A.b+j) xo p (A.b+j),_,Y.c _ _ _ u⟩:=λsh=>by rw[aX,hx]
 have aL:=runT_crowd_go (P:=P) (sl:=sl) (i:=A.b+j) hg (by rw[b7];exact aC)
 have aO:=iU (P:=P) (A:=A) (s:=s) hj r
 have K:Deaf t (A.b+j)=0:=by obtain⟨_,_,K,_⟩:=H.walk _ aO;rw[K];show dM P A s (A.b+j)=0;rw[eI hj,S];rfl
 have Q:bU P A s (A.b+j):=iI d.I hj (bF w1).2.2.2.2.1;have hJ:J (A.b+j):=(d.hJ _).2 (wE hj (bF w1).2.2.2.2.2.1);have b0:∀op∈MemOp.ofEvents (A.b+j) g.frame.fn g.frame.place #[⟨.mark (.acquire Z.la),false,true⟩],op.g=A.b+j:=λop D=>by obtain⟨e,_,rfl⟩:=zU D;rfl
 have b1:∀op∈MemOp.ofEvents (A.b+j) g.frame.fn g.frame.place #[⟨.mark (.acquire Z.la),false,true⟩],op.act.touch?=none/\∀a,op.act≠.mark (.release a):=λop D=>by obtain⟨e,he,rfl⟩:=zU D;simp at he;subst he;exact⟨rfl,λa h=>by simp[MemAct.ofEvent]at h⟩
 have b2:A.fb<w.heap.size:=by obtain⟨c,e,r⟩:=d.vD;exact(zA.1 r).1
 have bB:=H.cO.UL o a9 (λc hc=>(d.ON c hc).1) (by rw[d.la];exact b2) K (λm a hm ha b3 hz=>d.old _ Q m a hm ha b3 hz) d.norel g.frame.fn g.frame.place
 have a7:∀l,iy OO Z.lk (A.b+j) A.mb xo l A.fb=none:=λl=>by
  unfold iy
  by_cases e1:l=Z.lk
  . subst e1;rw[ar];rfl
  by_cases e2:l=A.b+j
  . subst e2;rw[az _ _ e1,ar];simp only[ak.set,A.d5,Rp];exact L _
  . rw[az _ _ e1,az _ _ e2];exact L _
 have b4:A.dir=true->(∀i,(kk i).cell A.fb (A.cell j)=none)/\∀m a R,touchAt t m=some a->a.loc=.cell R->R.block=A.fb/\R.off=A.cell j->m<Z.N0:=λhd=>(d.yZ hd j hj).1 (by rw[S];rfl)
 have a8:∀n,p n≠none->A.dir=true/\n=A.cell j:=λn hn=>V.OP hn
 have hP:=bB.T7 (f:=p) o a7 (λn v G i=>by
  obtain⟨hd,rfl,_⟩:=ax n v G;have r:=(b4 hd).1
  by_cases ei:i=A.b+j
  . subst ei
    rw[W];cases q:((kk (A.b+j)).join (kk Z.lk)).cell A.fb (A.cell j)with
    |none=>rfl
    |some v=>rcases au.nI q with h|h<;>rw[r]at h<;>cases h
  . unfold iV;rw[az _ _ ei];exact r i) (λR r h2=>d.jR R ⟨r,.inr (.inr ⟨(a8 _ h2).1,j,hj,(a8 _ h2).2⟩)⟩) (by
  refine⟨cc,ee,al,?_,λn v G=>(ax n v G).2.2⟩
  rw[W];refine(au.sQ _ _).2 _ _ ?_;rw[ab,av]) (λm a R ha E r h2=>by
  obtain⟨hd,h3⟩:=a8 _ h2
  rcases dU ha with⟨h4,_⟩|⟨op,D,h4⟩
  . exact(d.old _ Q m a ((b4 hd).2 m a R h4 E ⟨r,h3⟩) h4 (by rw[E];rfl) (by rw[E];exact d.jR R ⟨r,.inr (.inr ⟨hd,j,hj,h3⟩)⟩)).app _
  . rw[(b1 op D).1]at h4;cases h4) d.fa.2.1
 have hI:bR A.n (s.aW j x s.sh):=d.I.still hj w1 w2 (by rw[hx];rfl) (by rw[hx,S];rfl)
 have hL:MS.gh A.n (s.aW j x s.sh) s:=BL hj w1 w2 ⟨_,_,by rw[hx];rfl,by rw[S];rfl,.single (pG.di Y.N Y.h0 Y.ht Y.c u)⟩
 have c5:=d.take (xo:=xo) V hZ hj w1 w2 U (by rw[hx];rfl) hI b1
 have c6:Beside (cd P A Fin Z hZ) s (s.aW j x s.sh) f (bT f (A.b+j) ⟨Y.m,iV kk Z.lk (A.b+j) (A.b+j),kP A Z OO (A.b+j) xo p (A.b+j),g1,T⟩) q q kk (iV kk Z.lk (A.b+j)) OO (kP A Z OO (A.b+j) xo p) J J w (A.b+j) g g1:=mL hZ hj w1 w2 (λi hi=>az _ _ hi) (λi hi=>rfl) (λi hi _=>az _ _ hi) (λi hi ht=>by unfold kP iy;rw[az _ _ hi,az _ _ (show i≠Z.lk by omega),az _ _ hi]) (λ_ h=>h) (.inl λh=>h) (λ{i k O y} hA=>B.kO (s:=s) (i:=i) (k:=k) (O:=O) (g:=y) hA)
 refine⟨_,_,aL,s.aW j x s.sh,bT f (A.b+j) ⟨Y.m,iV kk Z.lk (A.b+j) (A.b+j),kP A Z OO (A.b+j) xo p (A.b+j),g1,T⟩,q,iV kk Z.lk (A.b+j),kP A Z OO (A.b+j) xo p,J,M,_,_,_,rfl,hL,?_⟩;refine bG.step B H hg b0 hP c5 (λl y E hA=>?_) c6 ⟨λ_=>?_,λh=>absurd h (uM hj (z _)),λh=>absurd h (jS hj (z _)),λh=>absurd (kj hj (z _)) h⟩
 . have c7:l≠A.b+j:=λe=>(H.held l E).2.1 (by rw[e];exact aO)
   exact B.sV d E _ _ hA
 . rw[ar]
   refine⟨by show A.b+j<A.b+A.n+1;omega,rfl,?_,rfl,rfl,hr,?_,.inr hJ,λl b X' h3 h4 h5=>?_⟩
   . show Y.m=cD P A Fin (s.aW j x s.sh) (A.b+j)
     rw[nN hj (z _)];exact hm
   . rw[Deaf_own,K];rfl
   . obtain rfl:l=j:=by omega
     rw[z]at h5;cases h5;exact hU
end

import Derived.Conc.CrowdComm
import Derived.Test.YtkcceaplmgdnfaaGreatDoorC9
set_option linter.all false
namespace Go.cz
section
open Go.Conc
open Go.ConcN (sumTo upd sumTo_upd upd_ne upd_same)
structure bN where
 b:Nat
 n:Nat
 cl:Nat
 cF:Nat
 fb:Nat
 fo:Nat
 gb:Nat
 mb:Nat
 GI:sn->Prop
 res:Nat->AV
 val:Nat->Value
 nm:Di
 ng:Py
 hb:0<b/\(cl=0\/cl=b+n)
 hn:n<=900
 d1:cF≠fb
 d2:cF≠gb
 d3:cF≠mb
 d4:fb≠gb
 d5:fb≠mb
 d6:gb≠mb
def bN.dir(A:bN):Bool:=A.cl==0
def bN.cell(A:bN)(j:Nat):Nat:=A.fo+2+j
def LS{A:bN}(h:A.dir=true):A.cl=0:=by simpa[bN.dir]using h
def vl{A:bN}(h:A.dir=false):A.cl=A.b+A.n:=by have:=A.hb;simp[bN.dir]at h;omega
def gW:acZ:=λ_ _ _=>False
def LU:Nat->adn:=λ_=>none
def bN.Tk(A:bN)(j:Nat)(f:Nat->adn):Prop:=if A.dir then ∃v,f=λi=>if i=A.cell j then some v else none else f=LU
def bG(fo:Nat):Nat->adn:=λi=>if i=fo then some (.int .i32 0)else if i=fo+1 then some (.int .u32 0)else none
section
variable(P:adI)(A:bN)(Fin:acZ)
def Q9(j:Nat)(k:ar)(O:aj)(g:adz)(N:acZ):Prop:=
 ∃ kind c rest e,kind≠.early/\g=G (Frame.enter P A.nm.lock #[.pointer (some ⟨A.fb,A.fo,none⟩)] kind) (c::rest)/\O A.fb=none/\k.sh A.fb=some e/\(A.dir=true->A.cell j<e.2)/\
   ∀b x a f,k.Le b->kJ b x a->A.GI a->O A.mb=none->A.Tk j f->N b ((O.set A.mb x).set A.fb (.part f)) (kg kind c rest (.tuple #[]))
def HG(j:Nat)(k:ar)(O:aj)(g:adz)(N:acZ):Prop:=
 ∃ kind c rest f x a,kind≠.early/\g=G (Frame.enter P A.nm.unlock #[.pointer (some ⟨A.fb,A.fo,none⟩)] kind) (c::rest)/\O A.fb=some (.part f)/\O A.mb=some x/\kJ k x a/\A.GI a/\(A.dir=true->k.cell A.fb (A.cell j)=some (A.val j))/\
   N k ((O.del A.mb).del A.fb) (kg kind c rest (.tuple #[]))
def lf:Mo:=⟨false,false,λk O g N=>N=gW/\∃a fn tmps todo,P.funcs[a]?=some fn/\fn.results=#[]/\g=G (Frame.enter P A.ng.done #[.pointer (some ⟨A.gb,0,none⟩)] .deferred) [kO P a tmps todo,cM P]⟩
def Fc(N:acZ):acZ:=if A.dir then T P (lf P A) gW else N
def iC(j:Nat):Mo:=⟨false,false,λk O g N=>Q9 P A j k O g N\/HG P A j k O g (Fc P A N)\/(A.dir=false/\N=gW/\O A.fb=none/\∃a z v,(∀w,Sat k O w->stepG P false g w=.comm a #[scase A.cF v z] true .send w #[])/\V k v (A.res j)/\T P (lf P A) gW k O (Go.Conc.served a undef))⟩
def r8:Mo:=⟨false,false,λk O g N=>N=gW/\∃a n,mayWake P g=true/\(∀w s r b,Sat k O w->w.heap[A.cF]?=some (.chan 0 #[] false s r b)->stepG P false g w=.go a {w with heap:=w.heap.setIfInBounds A.cF (.chan 0 #[] true s r b)} #[⟨.obj A.cF,false,true⟩,⟨.obj A.cF,true,true⟩])/\QuitsD P n 0 a⟩
def xE:Mo:=⟨false,false,λk O g N=>N=gW/\∃c rest,g=G (Frame.enter P A.ng.wait #[.pointer (some ⟨A.gb,0,none⟩)] .normal) (c::rest)/\∀a,k.Le a->T P (r8 P A) gW a O (kg .normal c rest (.tuple #[]))⟩
def UT(k:ar)(O:aj)(c:Frame)(rest:adu):Prop:=(∃e,k.sh A.fb=some e)/\∀b x a,k.Le b->(∀j,j<A.n->b.cell A.fb (A.cell j)=some (A.val j))->kJ b x a->A.GI a->Fin b ((O.set A.mb x).set A.fb (.part (bG A.fo))) (kg .normal c rest (.tuple #[]))
def dN(k:ar)(O:aj)(g a:adz)(z:Value):Prop:=∀w,Sat k O w->stepG P true g w=.comm a #[rcase A.cF z] true (.recv true) w #[]
def rD:Nat->adB->Mo
 | 0,R=>⟨true,false,λk O g N=>N=gW/\∃b z,dN P A k O g b z/\dN P A k O b b z/\b.status=.running/\(∃e,k.sh A.fb=some e)/\
    ∀c x a,k.Le c->kJ c x a->A.GI a->Fin c ((O.set A.mb x).set A.fb (.part (bG A.fo))) (Go.Conc.served b (.tuple #[z,.bool false]))⟩
 | m + 1,R=>⟨true,false,λk O g N=>N=gW/\∃b z,dN P A k O g b z/\dN P A k O b b z/\b.status=.running/\
     ∀j∈R,∀c v,k.Le c->V c v (A.res j)->T P (rD m (R.erase j)) gW c O (Go.Conc.served b (.tuple #[v,.bool true]))⟩
def pv:Nat->Mo
 |0=>if A.dir then⟨true,false,λk O g N=>N=gW/\∃c rest,g=G (Frame.enter P A.ng.wait #[.pointer (some ⟨A.gb,0,none⟩)] .normal) (c::rest)/\UT A Fin k O c rest⟩else⟨true,false,λk O g N=>N=gW/\∃a child,(∀w,Sat k O w->stepG P true g w=.spawn a child w #[])/\T P (xE P A) gW k aj.bot child/\T P (rD P A Fin A.n (List.range A.n)) gW k O a⟩
 | m + 1=>⟨true,false,λk O g N=>N=gW/\∃c rest,g=G (Frame.enter P A.ng.add #[.pointer (some ⟨A.gb,0,none⟩),.int .i64 1] .normal) (c::rest)/\
     T P ⟨true,false,λk O g N=>N=gW/\∃a child,(∀w,Sat k O w->stepG P true g w=.spawn a child w #[])/\T P (iC P A (A.n-(m+1))) gW k aj.bot child/\T P (pv m) gW k O a⟩ gW k O (kg .normal c rest (.tuple #[]))⟩
def FL(m:Nat):Mo:=⟨true,false,λk O g N=>N=gW/\∃a child,(∀w,Sat k O w->stepG P true g w=.spawn a child w #[])/\T P (iC P A (A.n-(m+1))) gW k aj.bot child/\T P (pv P A Fin m) gW k O a⟩
structure IQ where
 m:Mo
 k:ar
 O:aj
 g:adz
 N:acZ
 h0:g.status=.running
 ht:m.dh k O g N
 c:∀k' O' g',N k' O' g'->TT P m k' O' g'
variable {P} in
def IQ.node(y:IQ P):Node P:=⟨y.m,y.k,y.O,y.g,.dh y.N y.h0 y.ht y.c⟩
inductive bp where
 |idle
 |run (h:Bool) (X:Node P)
 |lk (p:BJ) (Y:IQ P)
 |un (p:BJ) (Y:IQ P)
 |wait
 |zd
 |dn (p:HE)
 |gone
inductive jU where
 |none|eF|wt (p:HE)|jz|gone
inductive pH where
 |add (j:Nat)|bC (j:Nat) (p:HE)|spawn (j:Nat)|recv|parked|off
structure MS where
 d:Bool
 ms:pH
 sp:Nat
 w:Nat->bp P
 c:jU
 sh:Mu.Sh
 gc:Nat
 gv:Nat
 gm:Nat
def BJ.abs:BJ->Mu.Pc
 |.ld=>.out|.iA=>.iA|.rd l=>.rd l|.sq o l=>.sq o l|.sw o l=>.sw o l|.kI o l=>.kI o l|.t1 sv=>.gM sv|.gM sv=>.gM sv|.tq=>.tq|.up sv=>.up sv|.add o sv=>.add o sv
 |.le=>.held|.la=>.held|.back=>.held|.Hr=>.held|.ur=>.held|.ud=>.held|.held=>.held|.jl o=>.jl o|.vM=>.vM|.give=>.give|.ue=>.out|.Dm=>.out
variable{P}
def bp.pc:bp P->Mu.Pc
 |.run true _=>.held
 |.lk p _=>p.abs
 |.un p _=>p.abs
 |_=>.out
def bp.owns:bp P->Bool
 |.run h _=>h
 |.un .Hr _=>true
 |.un .ur _=>true
 |_=>false
def Dq:BJ->Bool
 |.ld=>true|.iA=>true|.rd _=>true|.sq ..=>true|.sw ..=>true|.kI ..=>true|.t1 _=>true|.gM _=>true|.tq=>true|.up _=>true|.add ..=>true|.le=>true|.la=>true
 |_=>false
def zw:BJ->Bool
 |.Hr=>true|.ur=>true|.ud=>true|.held=>true|.jl _=>true|.vM=>true|.give=>true|.ue=>true
 |_=>false
def bp.deaf:bp P->Nat
 |.lk .ld _=>0|.lk .la _=>0|.lk _ _=>1
 |.un .Hr _=>0|.un .ur _=>0|.un .ud _=>0|.un _ _=>1
 |.dn .d1=>0|.dn .d2=>0|.dn _=>1
 |_=>0
def sX:HE->Nat
 |.a0=>0|.a2=>1|.a4=>1|.ae=>1
 |.w0=>0|.w1=>1|.we=>1|.wa=>0|.w2 _=>1|.w3=>1|.w4=>1|.w5=>1
 |_=>0
def bp.cC:bp P->Nat
 |.idle=>0|.run ..=>20|.lk ..=>20|.un ..=>20|.wait=>19|.zd=>18
 |.dn .d1=>12|.dn .d2=>11|.dn .d4=>10|.dn .d5=>4|.dn .d6=>3|.dn _=>2|.gone=>0
def jU.cC(gc:Nat):jU->Nat
 |.none=>0|.eF=>14
 |.wt .w0=>13|.wt .w1=>10|.wt (.w2 k)=>if gc=k then 9 else 11|.wt .w3=>8|.wt .w4=>7|.wt .w5=>6|.wt .we=>5|.wt _=>4
 |.jz=>3|.gone=>0
def pH.cC:pH->Nat
 |.add j=>40*j+200|.bC j .a0=>40*j+199|.bC j .a2=>40*j+198|.bC j .a4=>40*j+197|.bC j _=>40*j+196
 |.spawn j=>40*j+225|.recv=>100|.parked=>99|.off=>0
def MS.cC(n:Nat)(s:MS P):Nat:=s.ms.cC+sumTo n (λj=>(s.w j).cC)+s.c.cC s.gc
def BS(n:Nat):Nat:=4*(6*(18*n+1)+16)+20
def bp.ex(n:Nat):bp P->Nat
 |.run ..=>2*BS n|.lk .ld _=>BS n|.lk (.t1 _) _=>1|.lk .le _=>2|.lk .la _=>1
 |.un .Hr _=>5|.un .ur _=>4|.un .ud _=>3|.un .ue _=>1|_=>0
def MS.inner(n:Nat)(s:MS P):Nat:=4*Mu.meas n (λj=>(s.w j).pc) s.sh+sumTo n (λj=>(s.w j).ex n)
def bp.nd:bp P->Option (Node P)
 |.run _ X=>some X|.lk _ Y=>some Y.node|.un _ Y=>some Y.node|_=>none
end
def IS{P}(a b:Option (Node P)):Prop:=∃x y,a=some x/\b=some y/\Relation.TransGen pF x y
def LV{P}:∀a:Option (Node P),Acc IS a:=by
 have key:∀x:Node P,Acc (Relation.TransGen pF) x->Acc IS (some x):=by
  intro x b;induction b with
  |intro x _ c=>exact⟨_,λy ⟨u,v,d,f,h⟩=>by simp_all⟩
 intro a;cases a with
 |none=>exact⟨_,λy ⟨u,v,_,e,_⟩=>by cases e⟩
 |some x=>exact key x ((WellFounded.intro Df).transGen.apply x)
def LW{α:Type}(R:α->α->Prop)(n:Nat)(f' f:Nat->α):Prop:=∃i,i<n/\(∀j,j≠i->f' j=f j)/\R (f' i) (f i)
def Dr{α R}(d:∀a,Acc R a):∀  n  (f:Nat->α),Acc (LW R n) f
 |0,f=>⟨_,λy ⟨i,e,_⟩=>by omega⟩
 | n + 1,f=>by
   have key:∀x:α,Acc R x->∀f:Nat->α,f n=x->Acc (LW R (n+1)) f:=by
    intro x g;induction g with
    | intro x _ h=>
      intro f m;have j:=Dr d n f;induction j with
      | intro f _ b=>
        refine⟨_,λf' ⟨i,e,c,k⟩=>?_⟩;by_cases l:i=n
        . grind
        . exact b f' ⟨i,by omega,c,k⟩ (by grind)
   simp_all
def MS.gu{P}(n:Nat)(s' s:MS P):Prop:=s'.cC n<s.cC n\/(s'.cC n=s.cC n/\(LW IS n (λj=>(s'.w j).nd) (λj=>(s.w j).nd)\/((λj=>(s'.w j).nd)=(λj=>(s.w j).nd)/\s'.inner n<s.inner n)))
def PC{P}  n :WellFounded (MS.gu (P:=P) n):=by
 have c:WellFounded (LW (IS (P:=P)) n):=⟨Dr LV n⟩;have d:=(Prod.lex ⟨Nat.lt,Nat.lt_wfRel.wf⟩ (Prod.lex ⟨LW (IS (P:=P)) n,c⟩ ⟨Nat.lt,Nat.lt_wfRel.wf⟩)).wf;refine Subrelation.wf (r:=InvImage _ (λs:MS P=>(s.cC n,(λj=>(s.w j).nd),s.inner n))) ?_ (InvImage.wf _ d);intro s' s h;rcases h with h|⟨h,b|⟨b,a⟩⟩
 . exact Prod.Lex.left _ _ h
 . show Prod.Lex _ _ (_,_) (_,_)
   grind
 . show Prod.Lex _ _ (_,_) (_,_)
   rw[h,b];exact Prod.Lex.right _ (Prod.Lex.right _ a)
section
variable{P:adI}
def bp.iM:bp P->Bool
 |.zd=>true|.dn _=>true|.gone=>true|_=>false
def bp.iD:bp P->Bool
 |.idle=>false|.run h _=>h|.lk ..=>false|_=>true
def bp.rel(x:bp P):Bool:=x.iD && !x.owns
def bp.cnt:bp P->Nat
 |.run ..=>1|.lk ..=>1|.un ..=>1|.wait=>1|.zd=>1|.dn .d1=>1|.dn .d2=>1|.dn .d4=>1|_=>0
def bp.busy:bp P->Bool
 |.run ..=>true|.lk ..=>true|.un ..=>true|.wait=>true|.zd=>true|.dn .d1=>true|_=>false
def bp.last:bp P->Bool
 |.dn .d5=>true|.dn .d6=>true|.dn .d7=>true|_=>false
def bp.jA:bp P->Bool
 |.idle=>true|_=>false
def bp.ok:bp P->Bool
 |.lk p _=>Dq p
 |.un p _=>zw p
 |.dn p=>(match p with|.d1=>true|.d2=>true|.d4=>true|.d5=>true|.d6=>true|.d7=>true|_=>false)
 |_=>true
def jU.busy:jU->Bool
 |.eF=>true|.wt _=>true|.jz=>true|_=>false
def jU.ok:jU->Bool
 |.wt p=>(match p with|.w0=>true|.w1=>true|.w2 _=>true|.w3=>true|.w4=>true|.w5=>true|.we=>true|.wa=>true|_=>false)
 |_=>true
def jU.waits:jU->Bool
 |.wt .w3=>true|.wt .w4=>true|_=>false
def jU.LX:jU->Bool
 |.wt .w5=>true|.wt .we=>true|.wt .wa=>true|.jz=>true|.gone=>true|_=>false
def jU.isNone:jU->Bool
 |.none=>true|_=>false
def jU.eI:jU->Bool
 |.gone=>true|_=>false
def pH.pend:pH->Nat
 |.bC _ .a4=>1|.bC _ .ae=>1|.spawn _=>1|_=>0
structure bQ(n:Nat)(s:MS P):Prop where
 g1:s.gc=sumTo n (λj=>(s.w j).cnt)+s.ms.pend
 g2:s.gv<=1
 BT:s.gv=1->s.c.waits=true/\s.gm=0
 g3:∀j,j<n->(s.w j=.dn .d5\/s.w j=.dn .d6)->s.gv=1/\s.gc=0
 HH:∀i j,i<n->j<n->(s.w i).last=true->(s.w j).last=true->i=j
 g4:∀j,j<n->s.w j=.dn .d7->s.gv=0/\s.gc=0/\s.gm=0/\s.c.waits=true
 g5:s.gm<=1/\(s.gm=1->s.c.waits=true/\s.gv=0/\s.gc=0/\∀j,j<n->(s.w j).last=false)
 g6:s.c.waits=true->s.gv=0->s.gm=0->∃j,j<n/\s.w j=.dn .d7
 g7:s.gv=1->s.gc=0->∃j,j<n/\(s.w j=.dn .d5\/s.w j=.dn .d6)
 g8:s.c.LX=true->s.gc=0/\s.gv=0/\s.gm=0/\∀j,j<n->s.w j=.gone
 g9:∀k,s.c=.wt (.w2 k)->k≠0
 ok:∀j,j<n->(s.w j).ok=true
 TF:s.c.ok=true
 sp:s.sp<=n
 idle:∀j,j<n->((s.w j).jA=true↔s.sp<=j)
 ms:match s.ms with
  |.add j=>s.sp+j=n/\s.c=.none
  |.bC j p=>s.sp+j=n/\s.c=.none/\1<=j/\(p=.a0\/p=.a2\/p=.a4\/p=.ae)
  |.spawn j=>s.sp+j+1=n/\s.c=.none
  |.recv=>s.sp=n/\s.c≠.none
  |.parked=>s.sp=n/\s.c≠.none/\s.c≠.gone/\∀j,j<n->s.w j≠.wait
  |.off=>s.sp=n/\s.c≠.none
 early:s.d=false->s.c=.none->∀j,j<n->(s.w j).iM=false
 mu:Mu.Inv n (λj=>(s.w j).pc) s.sh
end
variable(P:adI)(A:bN)(Fin:acZ)
def MS.rem(n:Nat)(s:MS P):adB:=(List.range n).filter λj=>!(s.w j).iM
def dE(s:MS P)(i:Nat):Prop:=(i=0/\(match s.ms with|.add _=>True|.spawn _=>True|.recv=>True|_=>False))\/(∃j,j<A.n/\i=A.b+j/\(match s.w j with|.run ..=>True|.zd=>True|_=>False))\/(i=A.cl/\(match s.c with|.eF=>True|.jz=>True|_=>False))
def gK(s:MS P)(i:Nat):Prop:=(i=0/\(match s.ms with|.bC ..=>True|_=>False))\/(∃j,j<A.n/\i=A.b+j/\(match s.w j with|.lk ..=>True|.un ..=>True|.dn _=>True|_=>False))\/(i=A.cl/\(match s.c with|.wt _=>True|_=>False))
def fF(s:MS P)(i:Nat):Prop:=(i=0/\s.ms=.parked)\/(∃j,j<A.n/\i=A.b+j/\s.w j=.wait)
def cK(s:MS P)(i:Nat):Mo:=
 if i=0 then(match s.ms with|.add j=>pv P A Fin j|.spawn j=>FL P A Fin j|_=>rD P A Fin (MS.rem P A.n s).length (MS.rem P A.n s))
 else if i<A.b+A.n then(match s.w (i-A.b)with|.run ..=>iC P A (i-A.b)|_=>lf P A)else(match s.c with|.eF=>xE P A|_=>r8 P A)
def FM(s:MS P)(i:Nat):(cK P A Fin s i).main=(i==0):=by
 have c:∀m R,(rD P A Fin m R).main=true:=λm R=>by cases m<;>rfl
 have b:∀m,(pv P A Fin m).main=true:=λm=>by
  cases m with
  |zero=>unfold pv;grind
  |succ m=>rfl
 unfold cK;by_cases a:i=0
 . subst a
   simp only[aaO,beq_self_eq_true];split
   . exact b _
   . rfl
   simp_all
 . have:(i==0)=false:=by simp_all
   rw[aaJ a,this];split
   . split<;>rfl
   . split<;>rfl
def HI(j:Nat)(x:bp P)(k:ar)(O:aj)(g:adz):Prop:=
 match x with
 |.lk p Y=>∃kind c rest e,kind≠.early/\oc P A.nm A.fb A.fo kind p (c::rest) g/\Y.m=iC P A j/\O A.fb=none/\k.sh A.fb=some e/\(A.dir=true->A.cell j<e.2)/\∀b x a f,k.Le b->kJ b x a->A.GI a->O A.mb=none->A.Tk j f->Y.N b ((O.set A.mb x).set A.fb (.part f)) (kg kind c rest (.tuple #[]))
 | .un p Y=>∃kind c rest,kind≠.early/\oc P A.nm A.fb A.fo kind p (c::rest) g/\Y.m=iC P A j/\
    ((p=.Hr\/p=.ur)->∃f x a,O A.fb=some (.part f)/\O A.mb=some x/\kJ k x a/\A.GI a/\(A.dir=true->k.cell A.fb (A.cell j)=some (A.val j))/\Fc P A Y.N k ((O.del A.mb).del A.fb) (kg kind c rest (.tuple #[])))/\
    (¬(p=.Hr\/p=.ur)->Fc P A Y.N k O (kg kind c rest (.tuple #[])))
 |.dn p=>∃d fn tmps todo,P.funcs[d]?=some fn/\fn.results=#[]/\rB P A.ng A.gb .deferred p [kO P d tmps todo,cM P] g
 |_=>False
def TG(x:jU)(k:ar)(O:aj)(g:adz):Prop:=
 match x with
 |.wt p=>∃c rest,rB P A.ng A.gb .normal p (c::rest) g/\if A.dir then UT A Fin k O c rest else ∀a,k.Le a->T P (r8 P A) gW a O (kg .normal c rest (.tuple #[]))
 |_=>False
def Wu(x:pH)(k:ar)(O:aj)(g:adz):Prop:=
 match x with
 |.bC j p=>∃c rest,rB P A.ng A.gb .normal p (c::rest) g/\T P (FL P A Fin (j-1)) gW k O (kg .normal c rest (.tuple #[]))
 |_=>False
def UU(s:MS P)(i:Nat)(k:ar)(O:aj)(g:adz):Prop:=(i=0/\Wu P A Fin s.ms k O g)\/(∃j,j<A.n/\i=A.b+j/\HI P A j (s.w j) k O g)\/(i=A.cl/\TG P A Fin s.c k O g)
def R5(s:MS P)(i:Nat):Prop:=(∃j sv Y,j<A.n/\i=A.b+j/\s.w j=.lk (.gM sv) Y/\s.sh.ms=0)\/(i=A.cl/\s.c=.wt .w4/\s.gm=0)
def Xr(s:MS P)(i:Nat)(k:ar)(O:aj)(g:adz):Prop:=
 (i=0/\∃a z,g=parked a #[rcase A.cF z] (.recv true)/\dN P A k O a a z/\a.status=.running/\(rD P A Fin (MS.rem P A.n s).length (MS.rem P A.n s)).dh k O a gW)\/
 (∃j,j<A.n/\i=A.b+j/\∃a z v,g=parked a #[scase A.cF v z] .send/\V k v (A.res j)/\O A.fb=none/\T P (lf P A) gW k O (Go.Conc.served a undef)/\A.dir=false)
def dO(s:MS P)(i:Nat):Nat:=
 if i=0 then(match s.ms with|.bC _ p=>sX p|.off=>(match s.c with|.wt p=>sX p|_=>0)|_=>0)
 else if i<A.b+A.n then(s.w (i-A.b)).deaf else(match s.c with|.wt p=>sX p|_=>0)
def lg(w:World):Prop:=(∃v,w.cell? ⟨A.gb,0,none⟩=some v)/\(∃v,w.cell? ⟨A.gb,1,none⟩=some v)/\∃v,w.cell? ⟨A.fb,A.fo,none⟩=some v
def ze(A:bN):Loc->Prop
 |.cell a=>a.spot=none/\((a.block=A.fb/\(a.off=A.fo\/a.off=A.fo+1))\/(a.block=A.gb/\(a.off=0\/a.off=1)))
 |.obj r=>r=A.cF/\A.dir=false
 |_=>False
def dY(s:MS P)(i:Nat):Prop:=(∃j,j<A.n/\i=A.b+j/\(s.w j).busy=true)\/(i=A.cl/\s.c.busy=true)
def bU(s:MS P)(i:Nat):Prop:=i=0\/(∃j,j<s.sp/\i=A.b+j)\/(i=A.cl/\s.c≠.none)
abbrev vR(s:MS P):Prop:=(A.dir=true->s.c≠.none->s.ms=.off)/\(A.dir=true->s.ms≠.recv/\s.ms≠.parked/\s.c≠.eF/\s.c≠.jz/\s.c≠.gone)/\(A.dir=false->s.ms≠.off)
structure dc(Z:Base)(s:MS P)(kk:adH)(OO:adG)(J M:adw)(gsz:Nat)(w:World)(t:Trace):Prop where
 I:bQ A.n s
 size:gsz=A.b+s.sp+(if s.c.isNone||A.dir then 0 else 1)
 dd:s.d=A.dir
 off:vR P A s
 zf:A.dir=true->∀j,j<A.n->((s.w j).iD=false->(∀i,(kk i).cell A.fb (A.cell j)=none)/\∀m a ad,touchAt t m=some a->a.loc=.cell ad->ad.block=A.fb/\ad.off=A.cell j->m<Z.N0)/\((s.w j).rel=true->(kk (A.b+j)).cell A.fb (A.cell j)=some (A.val j))
 Aj:A.dir=false->∃x tm,w.heap[A.cF]?=some (.chan 0 #[] s.c.eI x x tm)
 mu:ShM A.fb A.fo w s.sh
 gr:rA A.gb w s.gc s.gv s.gm
 vm:∃c e,w.heap[A.fb]?=some (.cells c e (0,0))
 zx:∃c e,w.heap[A.gb]?=some (.cells c e (0,0))
 gL:∀i,(A.dir=false->OO i A.cF=none)/\OO i A.gb=none
 eG:∀i,(kk i).cell A.fb A.fo=none/\(kk i).cell A.fb (A.fo+1)=none/\(kk i).cell A.gb 0=none/\(kk i).cell A.gb 1=none
 tok:∀i x,OO i A.fb=some x->∃j f,j<A.n/\i=A.b+j/\(s.w j).owns=true/\x=.part f/\∀l,f l≠none->A.dir=true/\l=A.cell j
 zy:∀j,j<A.n->(s.w j).owns=true->OO (A.b+j) A.fb≠none
 OY:(∀j,j<A.n->(s.w j).owns=false)->∃x a,OO Z.lk A.mb=some x/\kJ (kk Z.lk) x a/\A.GI a
 OZ:∀c,OO Z.lk c≠none->c=A.mb/\∀j,j<A.n->(s.w j).owns=false
 hJ:∀i,J i↔dY P A s i
 hM:∀p,M p->t.heard p/\Z.N0<=p/\((t.act? p=some (.mark (.releaseMerge ⟨A.gb,0,none⟩))/\(s.c=.none\/s.c=.eF\/∃q,s.c=.wt q))\/(s.c=.gone/\t.act? p=some (.close A.cF)))
 shut:s.c=.gone->∃p,M p/\t.act? p=some (.close A.cF)/\t.heard p
 quiet:∀m a,touchAt t m=some a->ze A a.loc->a.kind=.plain->∀i,bU P A s i->Knows t i m
 said:∀m a,touchAt t m=some a->ze A a.loc->a.kind=.said->Knows t (if s.c.isNone then 0 else A.cl) m
 old:∀i,bU P A s i->∀m a,m<Z.N0->touchAt t m=some a->a.loc.isMemory=true -> ¬Z.Shun a.loc->Knows t i m
 norel:∀m a,Z.N0<=m->t.act? m≠some (.mark (.release a))
 Ds:∀i,i≠Z.lk -> ¬bU P A s i->kk i=ar.bot/\OO i=aj.bot
 sO:∀a,ze A a->(∃c,a=.cell c/\c.block=A.gb)->Z.Shun a
 jV:∀c:Addr,c.block=A.fb/\(c.off=A.fo\/c.off=A.fo+1\/(A.dir=true/\∃j,j<A.n/\c.off=A.cell j)) -> ¬Z.Shun (.cell c)
 fy:(A.dir=false->Z.W0.heap.size<=A.cF)/\Z.W0.heap.size<=A.fb/\Z.W0.heap.size<=A.gb
 la:Z.la=⟨A.fb,A.fo,none⟩
 n0:Z.N0<=t.size
def Node.R6{P:adI}:Node P->Prop
 |⟨_,_,_,_,.dh ..⟩=>True
 |_=>False
def vn{P:adI}(x X:Node P):Prop:=∀y,(y=x\/Relation.TransGen pF y x)->y.R6->(y=X\/Relation.TransGen pF y X)
def vn.sub{P:adI}{x y X:Node P}(h:vn x X)(a:pF y x):vn y X:=λz b c=>h z (b.elim (λe=>.inr (by rw[e];exact .single a)) (λe=>.inr (e.tail a))) c
def vn.refl{P:adI}(X:Node P):vn X X:=λy a _=>a
def PD(s:MS P)(i:Nat)(x:Node P):Prop:=∀j h X,j<A.n->i=A.b+j->s.w j=.run h X->vn x X
def ck(Z:Base)(a:A.b+A.n+1<=Z.lk):ry P where
 S:=MS P
 r:=MS.gu A.n
 wf:=PC A.n
 mo:=cK P A Fin
 main:=FM P A Fin
 top:=A.b+A.n+1
 lk:=Z.lk
 Up:=a
 Live:=dE P A
 Walk:=gK P A
 At:=UU P A Fin
 Ac:=R5 P A
 ov:=fF P A
 FA:=Xr P A Fin
 deaf:=dO P A
 Wd:=lg A
 Ex:=dc P A Z
 Pn:=PD P A
 tie:=λs i x y hs h j b X c d e=>(h j b X c d e).sub hs
end
section
open Go.Conc
open Go.ConcN (sumTo upd sumTo_upd upd_ne upd_same)
def xH{t}(u:Trace){p x}(h:t.act? p=some x)(b:t.heard p):(t++u).act? p=some x/\(t++u).heard p:=by have a:=lt_of_act? h;exact⟨by rw[act?_old a];exact h,(heard_old a).2 b⟩
structure Dt  b o  (w w':World):Prop where
 cell:∀l,l=o\/l=o+1->w'.cell? ⟨b,l,none⟩=w.cell? ⟨b,l,none⟩
 fz:∀l,w'.frozen? ⟨b,l,none⟩=w.frozen? ⟨b,l,none⟩
def Dt.of_heap{b o w w'}(h:w'.heap[b]?=w.heap[b]?):Dt b o w w':=⟨λl _=>by simp only[World.cell?,h],λl=>by simp only[World.frozen?,h]⟩
def ShM.same{b o w w' s}(h:ShM b o w s)(e:Dt b o w w'):ShM b o w' s:=⟨by rw[e.cell _ (.inl rfl)];exact h.cw,by rw[e.cell _ (.inr rfl)];exact h.cs,λi=>by rw[e.fz];exact h.fz i⟩
def rA.same{b w w' c v m}(h:rA b w c v m)(e:Dt b 0 w w'):rA b w' c v m:=⟨by rw[e.cell _ (.inl rfl)];exact h.cw,by rw[e.cell _ (.inr rfl)];exact h.cs,λi=>by rw[e.fz];exact h.fz i⟩
def dV{t u m a}(h:touchAt (t++u) m=some a):(touchAt t m=some a/\m<t.size)\/∃op∈u,op.act.touch?=some a:=by
 obtain⟨x,d,b⟩:=touch_of h;rcases getElem?_append_cases d with⟨e,c⟩|⟨_,f⟩
 . exact .inl ⟨by rw[touchAt_of c];exact b,e⟩
 grind
def qQ{t u:Trace}{m x}(h:(t++u).act? m=some x):(t.act? m=some x/\m<t.size)\/∃op∈u,op.act=x:=by
 unfold Trace.act? at h;obtain⟨y,b,rfl⟩:=aaS.1 h;rcases getElem?_append_cases b with⟨c,a⟩|⟨_,d⟩
 . exact .inl ⟨by simp[Trace.act?,a],c⟩
 grind
section
variable{P:adI}{A:bN}{Fin:acZ}{Z:Base}{s:MS P}{kk kk':adH}{OO OO':adG}{J M:adw}{gsz:Nat}{w w':World}{t:Trace}
def dc.ko(h:dc P A Z s kk OO J M gsz w t)  u  (j:∀op∈u,∀a,op.act.touch?=some a->ze A a.loc->a.kind≠.plain):∀m a,touchAt (t++u) m=some a->ze A a.loc->a.kind=.plain->∀i,bU P A s i->Knows (t++u) i m:=λm a c d e i f=>by
 rcases dV c with⟨b,_⟩|⟨op,g,b⟩
 . exact(h.quiet m a b d e i f).app u
 grind
def dc.oB(h:dc P A Z s kk OO J M gsz w t)  u  (i:∀op∈u,∀a,op.act.touch?=some a->ze A a.loc->a.kind≠.said):∀m a,touchAt (t++u) m=some a->ze A a.loc->a.kind=.said->Knows (t++u) (if s.c.isNone then 0 else A.cl) m:=λm a d e f=>by
 rcases dV d with⟨b,_⟩|⟨op,g,b⟩
 . exact(h.said m a b e f).app u
 grind
def dc.pY(h:dc P A Z s kk OO J M gsz w t)  u :∀i,bU P A s i->∀m a,m<Z.N0->touchAt (t++u) m=some a->a.loc.isMemory=true -> ¬Z.Shun a.loc->Knows (t++u) i m:=λi g m a e j b k=>by
 have c:m<t.size:=abh e h.n0
 have l:touchAt t m=some a:=by obtain⟨x,f,d⟩:=touch_of j;rw[acH c]at f;rw[touchAt_of f];exact d
 exact(h.old i g m a e l b k).app u
def dc.jB(h:dc P A Z s kk OO J M gsz w t)  u  (f:∀op∈u,∀a,op.act≠.mark (.release a)):∀m a,Z.N0<=m->(t++u).act? m≠some (.mark (.release a)):=λm a c e=>by
 rcases qQ e with⟨b,_⟩|⟨op,d,b⟩
 . exact h.norel m a c b
 simp_all
def dc.vo(h:dc P A Z s kk OO J M gsz w t)  u :∀p,M p->(t++u).heard p/\Z.N0<=p/\(((t++u).act? p=some (.mark (.releaseMerge ⟨A.gb,0,none⟩))/\(s.c=.none\/s.c=.eF\/∃q,s.c=.wt q))\/(s.c=.gone/\(t++u).act? p=some (.close A.cF))):=λp e=>by
 obtain⟨b,i,a⟩:=h.hM p e;rcases a with⟨a,d⟩|⟨a,d⟩
 . obtain⟨f,g⟩:=xH u a b
   simp_all
 . obtain⟨f,g⟩:=xH u d b
   simp_all
def dc.mM(h:dc P A Z s kk OO J M gsz w t)  u :s.c=.gone->∃p,M p/\(t++u).act? p=some (.close A.cF)/\(t++u).heard p:=λa=>by
 obtain⟨p,e,b,d⟩:=h.shut a;obtain⟨f,g⟩:=xH u b d
 grind
def FN(I:bQ A.n s){i}(d:dE P A s i):bU P A s i:=by
 rcases d with⟨h,_⟩|⟨j,b,c,f⟩|⟨b,c⟩
 . exact .inl h
 . refine .inr (.inl ⟨j,?_,c⟩)
   have a:=I.idle j b;cases e:s.w j with
   |idle=>simp_all
   |_=>rw[e]at a;simp[bp.jA]at a;omega
 . refine .inr (.inr ⟨b,λe=>?_⟩)
   simp_all
def LY{i}(a:dE P A s i):i<A.b+A.n+1:=by
 have:=A.hb;rcases a with⟨h,_⟩|⟨j,c,d,e⟩|⟨c,d⟩<;>omega
def dc.PE(h:dc P A Z s kk OO J M gsz w t){i l}(a:aU (OO i) A.fb l):A.dir=true/\∃j,j<A.n/\(i=A.b+j/\(s.w j).owns=true)/\l=A.cell j:=by
 obtain⟨x,c⟩:=a.own;obtain⟨j,f,d,e,k,rfl,p⟩:=h.tok i x c;rcases a with⟨o,q⟩|⟨m,q,_⟩|⟨g,q,r⟩
 . simp_all
 . simp_all
 . rw[c]at q;cases q;grind
def Ak{x:bp P}(h:x.owns=true):x.iD=true:=by cases x<;>simp_all [bp.owns,bp.iD]
def zz(h:dc P A Z s kk OO J M gsz w t){i e}(n:jj (kk i) (OO i) w.heap.size e){a}(p:(MemAct.ofEvent e).touch?=some a):¬ze A a.loc:=λb=>by
 have q:A.fb<w.heap.size:=by obtain⟨c,e,k⟩:=h.vm;grind
 have u:A.gb<w.heap.size:=by obtain⟨c,e,k⟩:=h.zx;grind
 have g:∀l,(l=A.fo\/l=A.fo+1) -> ¬aU (OO i) A.fb l:=λl f m=>by obtain⟨_,_,_,_,e⟩:=h.PE m;unfold bN.cell at e;omega
 have j:∀l,¬aU (OO i) A.gb l:=λl=>dX (h.gL i).2
 obtain⟨v,y,z,B⟩:=h.eG i
 rcases j8 n p with⟨C,f,m⟩|⟨r,f,d⟩
 . rw[f]at b
   obtain⟨_,b⟩:=b
   grind
 . rw[f]at b
   obtain⟨b,hd⟩:r=A.cF/\A.dir=false:=b;subst b
   rcases d with⟨o,d⟩|d
   . rw[(h.gL i).1 hd]at d;cases d
   . obtain⟨x,D,k⟩:=h.Aj hd
     simp_all
def zB{k O B e}(b:jj k O B e)  a :MemAct.ofEvent e≠.mark (.release a):=by
 obtain⟨loc,wr,c⟩:=e;cases loc with
 |mark m=>simp only[jj]at b;cases m<;>simp_all [j7,mZ,MemAct.ofEvent]
 |cell d=>simp[MemAct.ofEvent]
 |obj r=>cases wr<;>cases c<;>simp[MemAct.ofEvent]
 |_=>simp[jj]at b
def dc.own(h:dc P A Z s kk OO J M gsz w t)(hZ:A.b+A.n+1<=Z.lk){i}(V:dE P A s i){k' O' es}(D:Eff (kk i) (OO i) w k' O' w' es)  u
 (H:∀op∈u,∃e,jj (kk i) (OO i) w.heap.size e/\op.act=.ofEvent e):dc P A Z s (bT kk i k') (bT OO i O') J M gsz w' (t++u):=by
 have K:i≠Z.lk:=by have:=LY V;omega
 have Q:=FN h.I V;have W:A.fb<w.heap.size:=by obtain⟨c,e,d⟩:=h.vm;grind
 have X:A.gb<w.heap.size:=by obtain⟨c,e,d⟩:=h.zx;grind
 have hC:A.dir=false->A.cF<w.heap.size:=λhd=>by obtain⟨x,tm,d⟩:=h.Aj hd;grind
 have R:=D.keep A.gb X (h.gL i).2
 have S:Dt A.fb A.fo w w'/\∃c e,w'.heap[A.fb]?=some (.cells c e (0,0)):=by
  cases q:OO i A.fb with
  |none=>have:=D.keep A.fb W q;exact⟨.of_heap this,by rw[this];exact h.vm⟩
  | some x=>
    obtain⟨j,f,_,_,_,rfl,hf⟩:=h.tok i x q;obtain⟨c,e,d⟩:=h.vm;obtain⟨c',N,h3,h4⟩:=D.part A.fb f W q c e d;refine⟨⟨λl V=>?_,λl=>?_⟩,c',e,N⟩
    . simp only[World.cell?,d,N];rw[h4 l (abt λhh=>by have:=(hf l hh).2;unfold bN.cell at this;omega)]
    . simp only[World.frozen?,d,N]
 have p:∀c,c<w.heap.size->OO i c=none->O' c=none:=λc hc hn=>by
  cases q:O' c with
  |none=>rfl
  | some x=>
    rcases D.own c x q with⟨y,hy,_⟩|hy
    . simp_all
    . omega
 have z:∀l,(l=A.fo\/l=A.fo+1) -> ¬aU (OO i) A.fb l:=λl V hc=>by obtain⟨_,_,_,_,e⟩:=h.PE hc;unfold bN.cell at e;omega
 have a7:∀l,l<A.n->(s.w l).iD=false -> ¬aU (OO i) A.fb (A.cell l):=λl _ O hc=>by
  obtain⟨_,j,_,⟨_,T⟩,e⟩:=h.PE hc;obtain rfl:l=j:=by unfold bN.cell at e;omega
  rw[Ak T]at O;cases O
 have E:∀c l,c<w.heap.size -> ¬aU (OO i) c l->(kk i).cell c l=none->k'.cell c l=none:=λc l hc ax hn=>by
  cases q:k'.cell c l with
  |none=>rfl
  | some v=>
    rcases D.cell c l v q with d|d|d
    . simp_all
    . simp_all
    . omega
 obtain⟨a8,a9,al,av⟩:=h.eG i
 have U:∀op∈u,∀a,op.act.touch?=some a -> ¬ze A a.loc:=λop k a G=>by obtain⟨e,B,C⟩:=H op k;rw[C]at G;exact zz h B G
 refine⟨h.I,h.size,h.dd,h.off,λhd l F=>⟨λO=>⟨λj=>?_,λm a ad G e e'=>?_⟩,λhr=>?_⟩,λhd=>by rw[D.keep A.cF (hC hd) ((h.gL i).1 hd)];exact h.Aj hd,h.mu.same S.1,h.gr.same (.of_heap R),S.2,by rw[R];exact h.zx,λj=>?_,λj=>?_,λj x Y=>?_,λj hj T=>?_,λT=>?_,λc hc=>?_,h.hJ,h.vo u,h.mM u,
  h.ko u (λop k a G hs=>absurd hs (U op k a G)),h.oB u (λop k a G hs=>absurd hs (U op k a G)),h.pY u,h.jB u (λop k a=>by obtain⟨e,B,C⟩:=H op k;rw[C];exact zB B a),λj hj hb=>?_,h.sO,h.jV,h.fy,h.la,by simp;exact aaR h.n0 (abE _ _)⟩
 . have d:=((h.zf hd l F).1 O).1 j
   by_cases e:j=i
   . subst e;rw[ao];simp_all
   . rw[au _ _ e];exact d
 . rcases dV G with⟨d,_⟩|⟨op,k,d⟩
   . exact((h.zf hd l F).1 O).2 m a ad d e e'
   . obtain⟨ev,B,C⟩:=H op k
     rw[C]at d
     rcases j8 B d with⟨ad,L,hc⟩|⟨r,L,_⟩
     . rw[e]at L
       cases L;rw[e'.1,e'.2]at hc
       rcases hc with hc|hc|⟨_,v,hc⟩
       . simp_all
       . omega
       . have:=((h.zf hd l F).1 O).1 i
         simp_all
     simp_all
 . have d:=(h.zf hd l F).2 hr
   by_cases e:A.b+l=i
   . rw[e,ao];rw[e]at d;exact D.le.1 _ _ _ d
   . rw[au _ _ e];exact d
 . by_cases e:j=i
   . subst e;rw[ao];exact⟨λhd=>p _ (hC hd) ((h.gL j).1 hd),p _ X (h.gL j).2⟩
   . rw[au _ _ e];exact h.gL j
 . by_cases e:j=i
   . subst e;rw[ao]
     exact⟨E _ _ W (z _ (.inl rfl)) a8,E _ _ W (z _ (.inr rfl)) a9,E _ _ X (dX (h.gL j).2) al,E _ _ X (dX (h.gL j).2) av⟩
   . rw[au _ _ e];exact h.eG j
 . by_cases e:j=i
   . subst e;rw[ao]at Y
     rcases D.own _ x Y with⟨y,hy,hb⟩|hy
     . obtain⟨l,f,d,N,h3,rfl,h4⟩:=h.tok j y hy
       cases x with
       |obj o=>exact hb.elim
       |tail m=>exact hb.elim
       |part g=>exact⟨l,g,d,N,h3,rfl,λa q=>h4 a (hb a q)⟩
     . omega
   . rw[au _ _ e]at Y;exact h.tok j x Y
 . have d:=h.zy j hj T
   by_cases e:A.b+j=i
   . rw[e,ao]
     rw[e]at d;cases q:OO i A.fb with
     |none=>simp_all
     | some x=>
       obtain⟨_,f,_,_,_,rfl,_⟩:=h.tok i x q;obtain⟨f',N⟩:=D.tok _ f q
       grind
   . rw[au _ _ e];exact d
 . rw[au _ _ (zj K),au _ _ (zj K)];exact h.OY T
 . rw[au _ _ (zj K)]at hc;exact h.OZ c hc
 . have e:j≠i:=λe=>hb (e ▸ Q)
   rw[au _ _ e,au _ _ e];exact h.Ds j hj hb
def dc.still(h:dc P A Z s kk OO J M gsz w t)  u  (i:∀op∈u,op.act.touch?=none/\∀a,op.act≠.mark (.release a)):dc P A Z s kk OO J M gsz w (t++u):=
 ⟨h.I,h.size,h.dd,h.off,λhd l c=>⟨λf=>⟨((h.zf hd l c).1 f).1,λm a j d e k=>(dV d).elim (λg=>((h.zf hd l c).1 f).2 m a j g.1 e k) (λ⟨op,b,g⟩=>by simp_all)⟩,(h.zf hd l c).2⟩,h.Aj,h.mu,h.gr,h.vm,h.zx,h.gL,h.eG,h.tok,h.zy,h.OY,h.OZ,h.hJ,h.vo u,h.mM u,h.ko u (λop b a d=>by simp_all),h.oB u (λop b a d=>by simp_all),
   h.pY u,h.jB u (λop b=>(i op b).2),h.Ds,h.sO,h.jV,h.fy,h.la,by simp;exact aaR h.n0 (abE _ _)⟩
def bh  y :Ad (ck P A Fin Z y) where
 own:=λa m _ he u _ _ o=>dc.own a y m he u o
 slip:=λa u _ hu=>dc.still a u hu
 draw:=λ{s kk OO J M n w t} a d=>by have a:dc P A Z s kk OO J M n w t:=a;exact⟨a.I,a.size,a.dd,a.off,a.zf,a.Aj,a.mu.heap rfl,a.gr.same (.of_heap rfl),a.vm,a.zx,a.gL,a.eG,a.tok,a.zy,a.OY,a.OZ,a.hJ,a.hM,a.shut,a.quiet,a.said,a.old,a.norel,a.Ds,a.sO,a.jV,a.fy,a.la,a.n0⟩
 sR := λ{s kk OO J M n w t j g} a B k O b=>by
  have a:dc P A Z s kk OO J M n w t:=a
  have q:s.c.eI=false:=by
   rcases B with⟨_,hm⟩|⟨l,m,_,hw⟩
   . have:=a.I.ms
     rw[hm]at this;have:=this.2.2.1;cases e:s.c<;>simp_all [jU.eI]
   . cases e:s.c with
     | gone=>
       have:=(a.I.g8 (by rw[e];rfl)).2.2.2 l m
       simp_all
     |_=>rfl
  have hd:A.dir=false:=by
   cases e:A.dir with
   |false=>rfl
   | true=>
     rcases b with⟨h0,_⟩|⟨l,_,_,h,z,v,_,_,_,_,hd⟩
     . have:=A.hb
       rcases B with⟨_,hm⟩|⟨l,m,f,hw⟩
       . exact absurd hm (a.off.2.1 e).2.1
       . omega
     simp_all
  obtain⟨x,C,r⟩:=a.Aj hd;rw[q]at r;rcases b with⟨_,h,z,rfl,_⟩|⟨l,_,_,h,z,v,rfl,_⟩
  . exact again_recv_open r
  . exact again_send_open r
 wd:=λ{s kk OO J M n w t} a=>by have a:dc P A Z s kk OO J M n w t:=a;exact⟨⟨_,a.gr.cw⟩,⟨_,a.gr.cs⟩,⟨_,a.mu.cw⟩⟩
 kT:=λ{s i k O g} b=>by
  rcases b with⟨_,b⟩|⟨j,_,_,b⟩|⟨_,b⟩
  . cases e:s.ms with
    |bC j p=>rw[e]at b;obtain⟨c,rest,f,_⟩:=b;exact f.running
    |_=>rw[e]at b;exact b.elim
  . cases e:s.w j with
    |lk p Y=>rw[e]at b;obtain⟨kind,c,rest,_,_,f,_⟩:=b;exact f.running
    |un p Y=>rw[e]at b;obtain⟨kind,c,rest,_,f,_⟩:=b;exact f.running
    |dn p=>rw[e]at b;obtain⟨D,fn,tmps,todo,_,_,f⟩:=b;exact f.running
    |_=>rw[e]at b;exact b.elim
  . cases e:s.c with
    |wt p=>rw[e]at b;obtain⟨c,rest,f,_⟩:=b;exact f.running
    |_=>rw[e]at b;exact b.elim
end
end
section
open Go.Conc
open Go.ConcN (sumTo upd sumTo_upd upd_ne upd_same)
variable{P:adI}
def MS.aV(s:MS P)(j:Nat)(x:bp P)(sh:Mu.Sh):MS P:={s with w:=λi=>if i=j then x else s.w i,sh:=sh}
section
variable{s:MS P}{j n:Nat}{x:bp P}{sh:Mu.Sh}
def aW:(s.aV j x sh).w j=x:=by simp[MS.aV]
def cD{i}(h:i≠j):(s.aV j x sh).w i=s.w i:=by simp[MS.aV,h]
def HJ:(λi=>((s.aV j x sh).w i).pc)=Mu.set (λi=>(s.w i).pc) j x.pc:=by
 funext i;by_cases h:i=j
 . subst h;rw[aW,Mu.ai]
 . rw[cD h,Mu.ah _ _ h]
def sY(F:bp P->Nat)(hj:j<n):sumTo n (λi=>F ((s.aV j x sh).w i))+F (s.w j)=sumTo n (λi=>F (s.w i))+F x:=by
 have e:(λi=>F ((s.aV j x sh).w i))=upd (λi=>F (s.w i)) j (F x):=by
  funext i;by_cases h:i=j
  . subst h;rw[aW,upd_same]
  . rw[cD h,upd_ne _ _ h]
 rw[e];have:=sumTo_upd (λi=>F (s.w i)) (F x) id hj
 simp_all
def bp.work:bp P->Bool
 |.run ..=>true|.lk ..=>true|.un ..=>true|_=>false
def bD{x:bp P}(h:x.work=true):x.cnt=1/\x.cC=20/\x.iM=false/\x.last=false/\x.jA=false/\x.busy=true/\x≠.gone/\x≠.wait/\∀p,x≠.dn p:=by cases x<;>simp_all [bp.work,bp.cnt,bp.cC,bp.iM,bp.last,bp.jA,bp.busy]
def bp.BU:bp P->Bool
 |.run ..=>true|.lk ..=>true|.un ..=>true|.zd=>true|.dn .d1=>true|.dn .d2=>true|.dn .d4=>true|_=>false
def xI{x:bp P}(h:x.BU=true):x.cnt=1/\x.last=false/\x.jA=false/\x≠.gone/\x≠.wait/\∀p,(p=.d5\/p=.d6\/p=.d7)->x≠.dn p:=by
 cases x with
 |dn p=>cases p<;>simp_all [bp.BU,bp.cnt,bp.last,bp.jA]
 |_=>simp_all [bp.BU,bp.cnt,bp.last,bp.jA]
def bQ.same(I:bQ n s)(hj:j<n)(o:(s.w j).BU=true)(q:x.BU=true)(r:x.iM=(s.w j).iM\/s.d=true)(G:x.ok=true)(t:Mu.Inv n (Mu.set (λi=>(s.w i).pc) j x.pc) sh):bQ n (s.aV j x sh):=by
 obtain⟨H,a4,u,J,K,L⟩:=xI o;obtain⟨M,N,v,O,Q,g⟩:=xI q;have m:=sY (s:=s) (x:=x) (sh:=sh) bp.cnt hj
 have look:∀{i:Nat}{y:bp P},(s.aV j x sh).w i=y->x≠y->i≠j/\s.w i=y:=λ{i y} h z=>by
  by_cases e:i=j
  . subst e;rw[aW]at h;simp_all
  . rw[cD e]at h;simp_all
 have back:∀{i:Nat}{y:bp P},s.w i=y->(s.w j)≠y->(s.aV j x sh).w i=y:=λ{i y} h z=>by
  by_cases e:i=j
  . simp_all
  . rw[cD e];exact h
 have b:∀{i:Nat},((s.aV j x sh).w i).last=(s.w i).last:=λ{i}=>by
  by_cases e:i=j
  . grind
  . rw[cD e]
 refine⟨?_,I.g2,I.BT,λi a h=>?_,λi l a A h f=>?_,λi a h=>?_,⟨I.g5.1,λh=>?_⟩,λh f k=>?_,λh f=>?_,λh=>?_,I.g9,λi a=>?_,I.TF,I.sp,λi a=>?_,?_,λhd h i a=>?_,by rw[HJ];exact t⟩
 . have:=I.g1
   show s.gc=sumTo n (λi=>((s.aV j x sh).w i).cnt)+s.ms.pend;omega
 . exact I.g3 i a (h.imp (λh=>(look h (g _ (by simp))).2) (λh=>(look h (g _ (by simp))).2))
 . rw[b]at h f;exact I.HH i l a A h f
 . exact I.g4 i a (look h (g _ (by simp))).2
 . obtain⟨B,C,D,E⟩:=I.g5.2 h
   exact⟨B,C,D,λi a=>by grind⟩
 . obtain⟨i,a,F⟩:=I.g6 h f k
   grind
 . obtain⟨i,a,F⟩:=I.g7 h f
   grind
 . obtain⟨_,_,_,E⟩:=I.g8 h
   simp_all
 . by_cases e:i=j
   . grind
   . rw[cD e];exact I.ok i a
 . by_cases e:i=j
   . subst e
     rw[aW,v];have:=I.idle i a;rw[u]at this;exact this
   . rw[cD e];exact I.idle i a
 . have:=I.ms
   show match s.ms with
   |.add l=>s.sp+l=n/\s.c=.none
   |.bC l p=>s.sp+l=n/\s.c=.none/\1<=l/\(p=.a0\/p=.a2\/p=.a4\/p=.ae)
   |.spawn l=>s.sp+l+1=n/\s.c=.none
   |.recv=>s.sp=n/\s.c≠.none
   |.parked=>s.sp=n/\s.c≠.none/\s.c≠.gone/\∀i,i<n->(s.aV j x sh).w i≠.wait
   |.off=>s.sp=n/\s.c≠.none
   grind
 . by_cases e:i=j
   . subst e;rw[aW,r.resolve_right λe=>by have hd:s.d=false:=hd;grind];exact I.early hd h i a
   . rw[cD e];exact I.early hd h i a
def Al{x:bp P}(h:x.work=true):x.BU=true:=by cases x<;>simp_all [bp.work,bp.BU]
def bQ.work(I:bQ n s)(hj:j<n)(a:(s.w j).work=true)(b:x.work=true)(c:x.ok=true)(d:Mu.Inv n (Mu.set (λi=>(s.w i).pc) j x.pc) sh):bQ n (s.aV j x sh):=I.same hj (Al a) (Al b) (.inl (by rw[(bD a).2.2.1,(bD b).2.2.1])) c d
def R7(F:bp P->Nat)(hj:j<n)(h:F x=F (s.w j)):sumTo n (λi=>F ((s.aV j x sh).w i))=sumTo n (λi=>F (s.w i)):=by have:=sY (s:=s) (x:=x) (sh:=sh) F hj;omega
def Du(hj:j<n)(a:(s.w j).work=true)(b:x.work=true):(s.aV j x sh).cC n=s.cC n:=by
 have:=R7 (s:=s) (x:=x) (sh:=sh) bp.cC hj (by rw[(bD a).2.1,(bD b).2.1]);show s.ms.cC+sumTo n (λi=>((s.aV j x sh).w i).cC)+s.c.cC s.gc=_;rw[this];rfl
def BV(hj:j<n)(a:(s.w j).work=true)(b:x.work=true)(h:IS x.nd (s.w j).nd):MS.gu n (s.aV j x sh) s:=.inr ⟨Du hj a b,.inl ⟨j,hj,λi c=>by show((s.aV j x sh).w i).nd=_;rw[cD c],by simp only[aW];exact h⟩⟩
def wh(hj:j<n)(a:(s.w j).work=true)(b:x.work=true)(h:x.nd=(s.w j).nd)(hi:4*Mu.meas n (Mu.set (λi=>(s.w i).pc) j x.pc) sh+x.ex n<4*Mu.meas n (λi=>(s.w i).pc) s.sh+(s.w j).ex n):MS.gu n (s.aV j x sh) s:=by
 refine .inr ⟨Du hj a b,.inr ⟨?_,?_⟩⟩
 . funext i
   by_cases e:i=j
   . subst e;rw[aW];exact h
   . rw[cD e]
 . have:=sY (s:=s) (x:=x) (sh:=sh) (bp.ex n) hj
   show 4*Mu.meas n (λi=>((s.aV j x sh).w i).pc) sh+sumTo n (λi=>((s.aV j x sh).w i).ex n)<4*Mu.meas n (λi=>(s.w i).pc) s.sh+sumTo n (λi=>(s.w i).ex n);rw[HJ];omega
def HK(I:bQ n s)(hj:j<n)(a:(s.w j).work=true)(b:x.work=true)(h:x.nd=(s.w j).nd)(c:(x.pc,sh)∈Mu.mv (s.w j).pc s.sh)(d:x.ex n<=3):MS.gu n (s.aV j x sh) s:=by
 have:=(Mu.IB (pcs:=λi=>(s.w i).pc) hj (I.mu.j0 j hj) c).1;exact wh hj a b h (by omega)
def bQ.mv(I:bQ n s)(hj:j<n)(a:(s.w j).work=true)(b:x.work=true)(c:x.ok=true)(d:(x.pc,sh)∈Mu.mv (s.w j).pc s.sh):bQ n (s.aV j x sh):=I.work hj a b c (I.mu.step hj d)
def jC  pcs   i :Mu.set pcs i (pcs i)=pcs:=by
 funext l;by_cases e:l=i
 . subst e;exact Mu.ai _ _ _
 . exact Mu.ah _ _ e
def lY(hj:j<n)(a:(s.w j).work=true)(b:x.work=true)(h:x.nd=(s.w j).nd)(c:x.pc=(s.w j).pc)(d:x.ex n<(s.w j).ex n):MS.gu n (s.aV j x s.sh) s:=by
 refine wh hj a b h ?_;rw[c,jC (λi=>(s.w i).pc)];omega
def bQ.still(I:bQ n s)(hj:j<n)(a:(s.w j).work=true)(b:x.work=true)(c:x.ok=true)(d:x.pc=(s.w j).pc):bQ n (s.aV j x s.sh):=I.work hj a b c (by rw[d,jC (λi=>(s.w i).pc)];exact I.mu)
def ga(F:Mu.Pc->Nat){pcs i}(a:pcs i=.out)(h:F .iA=F .out):(λl=>F (Mu.set pcs i .iA l))=λl=>F (pcs l):=by
 funext l;by_cases e:l=i
 . subst e;rw[Mu.ai,a,h]
 . rw[Mu.ah _ _ e]
def PF{n pcs s i}(h:Mu.Inv n pcs s)(a:pcs i=.out):Mu.Inv n (Mu.set pcs i .iA) s:=by
 obtain⟨⟨m,c,d,f,g⟩,j,o⟩:=h;refine⟨⟨λl k=>?_,?_,?_,?_,?_⟩,j,λl k old sv b=>?_⟩
 . by_cases e:l=i
   . subst e;rw[Mu.ai];trivial
   . rw[Mu.ah _ _ e];grind
 . rw[ga Mu.cu a rfl];exact c
 . rw[ga Mu.fS a rfl,ga Mu.cO a rfl,ga Mu.na a rfl,ga Mu.de a rfl,ga Mu.cN a rfl];exact d
 . rw[ga Mu.fS a rfl,ga Mu.cO a rfl,ga Mu.na a rfl,ga Mu.de a rfl,ga Mu.cN a rfl];exact f
 . rw[ga Mu.iB a rfl];exact g
 . by_cases e:l=i
   . subst e;rw[Mu.ai]at b;cases b
   . rw[Mu.ah _ _ e]at b;grind
def Dv{n pcs s i}(hi:i<n)(a:pcs i=.out):Mu.meas n (Mu.set pcs i .iA) s=Mu.meas n pcs s+(6*(18*n+1)+16):=by
 have C:=Mu.gE Mu.gN pcs i .iA hi;have R:=Mu.gE (Mu.jL s.w) pcs i .iA hi;rw[a]at C R;have b:Mu.gN .out=0:=rfl;have c:Mu.gN .iA=6:=rfl;have d:Mu.jL s.w .out=0:=rfl;have e:Mu.jL s.w .iA=16:=rfl;rw[b,c]at C;rw[d,e]at R;have f:Mu.phi n (Mu.set pcs i .iA) s=Mu.phi n pcs s+6:=by unfold Mu.phi;omega
 unfold Mu.meas
 grind
def LZ(hj:j<n)(a:(s.w j).work=true)(b:x.work=true)(h:x.nd=(s.w j).nd)(c:(s.w j).pc=.out)(d:x.pc=.iA)(e:(s.w j).ex n=BS n)(f:x.ex n=0):MS.gu n (s.aV j x s.sh) s:=by refine wh hj a b h ?_;rw[d,Dv hj c,e,f];unfold BS;omega
def bQ.Yw(I:bQ n s)(hj:j<n)(a:(s.w j).work=true)(b:x.work=true)(c:x.ok=true)(d:(s.w j).pc=.out)(e:x.pc=.iA):bQ n (s.aV j x s.sh):=I.work hj a b c (by rw[e];exact PF I.mu d)
end
end
open Go.Conc
open Go.ConcN (sumTo upd sumTo_upd upd_ne upd_same)
section
variable{P:adI}{A:ry P}{Z:Base}{s s':A.S}{f f':Nat->Node P}{q q':adC}{kk kk':adH}{OO OO':adG}{J J' M M':adw}{gs:adf}{w w':World}{t u:Trace}{i:Nat}{g g1:adz}
structure Beside(A:ry P)(s s':A.S)(f f':Nat->Node P)(q q':adC)(kk kk':adH)(OO OO':adG)(J J':adw)(w':World)(i:Nat)(g g1:adz):Prop where
 ef:∀j,j≠i->f' j=f j
 eq:∀j,j≠i->q' j=q j
 ek:∀j,j≠i->j<A.top->kk' j=kk j
 eO:∀j,j≠i->j<A.top->OO' j=OO j
 eJ:∀j,j≠i->A.Live s j->J j->J' j
 live:∀j,j≠i->(A.Live s' j↔A.Live s j)
 walk:∀j,j≠i->(A.Walk s' j↔A.Walk s j)
 held:∀j,j≠i->(A.ov s' j↔A.ov s j)
 mo:∀j,j≠i->A.Live s j->A.mo s' j=A.mo s j
 at':∀j k O x,j≠i->A.Walk s j->A.At s j k O x->A.At s' j k O x
 deaf:∀j,j≠i->A.Walk s j->A.deaf s' j=A.deaf s j
 Ac:∀j,j≠i->A.Walk s j->A.Ac s j->A.Ac s' j\/∀x,A.At s j (kk j) (OO j) x->woken P g g1 w' (blk x)=x
 TH:∀j k O x,j≠i->A.ov s j->A.FA s j k O x->A.FA s' j k O x
 tie:∀j x,j≠i->A.Live s j->A.Pn s j x->A.Pn s' j x
structure Self(P:adI)(A:ry P)(s':A.S)(f':Nat->Node P)(q':adC)(kk':adH)(OO':adG)(J':adw)(t':Trace)(i:Nat)(g1:adz):Prop where
 live:A.Live s' i->i<A.top/\g1=(f' i).g/\(f' i).m=A.mo s' i/\(f' i).k=kk' i/\(f' i).O=OO' i/\(f' i).g.status=.running/\Deaf t' i=0/\(i=0\/J' i)/\A.Pn s' i (f' i)
 walk:A.Walk s' i -> ¬A.Live s' i/\i<A.top/\Deaf t' i=A.deaf s' i/\∃g',A.At s' i (kk' i) (OO' i) g'/\Ls P A.Wd (A.Ac s' i) (q' i) g1 g'
 held:A.ov s' i -> ¬A.Live s' i/\¬A.Walk s' i/\i<A.top/\Deaf t' i=0/\g1.status=.blocked/\A.FA s' i (kk' i) (OO' i) g1
 rest:¬A.Live s' i -> ¬A.Walk s' i -> ¬A.ov s' i->i≠0/\QuitsD P (q' i) (Deaf t' i) g1
def bF.step(B:Ad A)(v:bF A Z s f q kk OO J M gs w t)(hi:gs[i]?=some g)(C:∀op∈u,op.g=i)(U:cH Z kk' OO' J' M' w' (t++u))(V:A.Ex s' kk' OO' J' M' gs.size w' (t++u))
 (W:∀j x,A.ov s j->A.FA s j (kk j) (OO j) x->x.again w'=x) (hb:Beside A s s' f f' q q' kk kk' OO OO' J J' w' i g g1) (E:Self P A s' f' q' kk' OO' J' (t++u) i g1):
 bF A Z s' f' q' kk' OO' J' M' ((gs.map (woken P g g1 w')).setIfInBounds i g1) w' (t++u):=by
 have X:i<gs.size:=(zA.1 hi).1;have F:=v.Po B (i:=i) (a:=g) (a':=g1) (x:=g1) (w':=w') W;have p:((gs.map (woken P g g1 w')).setIfInBounds i g1)[i]?=some g1:=KD (by simp_all)
 have G:∀j,j≠i->Deaf (t++u) j=Deaf t j:=λj d=>Deaf_other t (zj d) _ C
 refine⟨v.lk,U,λj d=>?_,λj d=>?_,λj d=>?_,λj x I N O Q=>?_,λj d=>?_,by simp_all⟩
 . by_cases e:j=i
   . subst e
     obtain⟨l,n,m⟩:=E.live d
     simp_all
   . have b:=(hb.live j e).1 d
     obtain⟨l,n,pm,m,D,z,r,R⟩:=v.live j b;rw[hb.ef j e,hb.ek j e l,hb.eO j e l,G j e,hb.mo j e b];exact⟨l,F.live j e b,pm,m,D,z,r,R.1.imp id (hb.eJ j e b),hb.tie j _ e b R.2⟩
 . by_cases e:j=i
   . subst e
     obtain⟨l,n,m,g',D,z⟩:=E.walk d
     grind
   . have b:=(hb.walk j e).1 d
     obtain⟨l,n,m,x,Y,D,z,r⟩:=v.walk j b;refine⟨λh=>l ((hb.live j e).1 h),n,by rw[G j e,hb.deaf j e b];exact m,?_⟩
     rw[hb.ek j e n,hb.eO j e n,hb.eq j e];obtain⟨y,y',o,K,r3⟩:=F.walk j e b
     by_cases hd:∃x,A.Ac s j/\y=blk x/\A.At s j (kk j) (OO j) x/\q j=0
     . obtain⟨x0,S,H,d3,d4⟩:=hd
       rcases hb.Ac j e b S with h|h
       . exact⟨y,x0,o,hb.at' j _ _ _ e b d3,.inl ⟨h,H,d4⟩⟩
       ·
        have c:((gs.map (woken P g g1 w')).setIfInBounds i g1)[j]?=some (woken P g g1 w' x):=by grind
        obtain⟨T,a2⟩:=B.kT z
        rcases r with⟨_,rfl,_⟩|r
        . rw[h _ z]at c
          rw[c]at o;have:=abd o;rw[H]at this;have k:Y.status=.blocked:=by rw[this];rfl
          simp_all
        . rw[woken_run (r.first T)]at c
          rw[c]at o;have hh:=abd o;have k:x.status=.blocked:=by rw[hh,H];rfl
          rw[r.first T]at k;cases k
     . rcases r3 with⟨S,rfl,H⟩|r3
       . simp_all
       . exact⟨y,y',o,hb.at' j _ _ _ e b K,.inr r3⟩
 . by_cases e:j=i
   . subst e
     obtain⟨l,n,m,D,z,r⟩:=E.held d
     simp_all
   . have b:=(hb.held j e).1 d
     obtain⟨l,n,m,D,_⟩:=v.held j b;obtain⟨x,o,K,r3⟩:=F.held j e b;refine⟨λh=>l ((hb.live j e).1 h),λh=>n ((hb.walk j e).1 h),m,by simp_all,x,o,K,?_⟩
     rw[hb.ek j e m,hb.eO j e m];exact hb.TH j _ _ _ e b r3
 . by_cases e:j=i
   . subst e
     rw[p]at I;obtain rfl:=abd I;exact E.rest N O Q
   . rw[hb.eq j e,G j e]
     exact F.rest j x e I (λh=>N ((hb.live j e).2 h)) (λh=>O ((hb.walk j e).2 h)) (λh=>Q ((hb.held j e).2 h))
 . have L:gs.size<=j:=by simp_all
   rw[G j (by omega)];exact v.above j L
end
def knows_own{t u i m op}(h:u[m]?=some op)(a:op.g=i):Knows (t++u) i (t.size+m):=⟨t.size+m,op,dw h,a,.inl rfl⟩
section
variable{Z:Base}{kk:adH}{OO:adG}{J M:adw}{w w':World}{t u:Trace}{i:Nat}
def BW(kk:adH)(OO:adG)(B:Nat)(t:Trace)(i:Nat)(u:Trace):Prop:=∀op∈u,∀a,op.act.touch?=some a->a.kind=.atomic/\(a.loc.isMemory=true->Lg kk OO B a.loc)/\∀n b,touchAt t n=some b->b.loc=a.loc->b.kind=.plain->Knows t i n
def cH.Q'(h:cH Z kk OO J M w t)(d:∀op∈u,op.g=i)(y:w'.heap.size=w.heap.size)(z:Calm Z w w')(hb:∀b,Kept kk OO w w' b)(A:∀op∈u,op.act.low w.heap.size)(q:BW kk OO w.heap.size t i u)
 (l:∀m op a,u[m]?=some op->op.act.touch?=some a->a.loc.isMemory=true->Told Z J M (t++u) (t.size+m) a):cH Z kk OO J M w' (t++u):=
 h.uf (λa b=>a=b) y z hb A (λa b e n x _ _ _ B=>by subst e;exact B.app u) (λj b n v h=>⟨j,rfl,h⟩) (λj b s h=>⟨j,rfl,h⟩) (λj b x h=>⟨j,rfl,h,λ_ h=>h⟩) h.jy
  (fun said=>noRace_append (h.clean said) d λn a o op c b hb C=>by
    obtain⟨f,k,D⟩:=q op c b hb;obtain⟨E,_,_,F⟩:=C
    simp_all)
  (λop c a o r=>(q op c a o).2.1 r) l
  (λn a o r h=>h.elim (λ⟨j,f,k⟩=>.inr (.inl ⟨j,f,k.app _⟩)) (λ⟨p,f,k⟩=>.inr (.inr (.inl ⟨p,f,k.app _⟩))))
def cH.sync(h:cH Z kk OO J M w t)(hJ:i=0\/J i)(c:∀op∈u,op.g=i)(f:w'.heap.size=w.heap.size)(j:Calm Z w w')(hb:∀b,Kept kk OO w w' b)(k:∀op∈u,op.act.low w.heap.size)(l:BW kk OO w.heap.size t i u):cH Z kk OO J M w' (t++u):=
 h.Q' c f j hb k l λm op a d n o=>by
  have e:Knows (t++u) i (t.size+m):=knows_own d (c op (abp d));rcases hJ with rfl|hJ
  . exact .inl e
  . exact .inr (.inl ⟨i,hJ,e⟩)
end
section
variable{P:adI}{A:bN}{Z:Base}{s:MS P}{kk:adH}{OO:adG}{J M:adw}{gsz:Nat}{w w':World}{t u:Trace}{j:Nat}{x:bp P}{sh:Mu.Sh}
def oC(hj:j<A.n)(h:x.busy=(s.w j).busy)  i :dY P A (s.aV j x sh) i↔dY P A s i:=by
 have:∀l,((s.aV j x sh).w l).busy=(s.w l).busy:=λl=>by
  by_cases e:l=j
  . subst e;rw[aW,h]
  . rw[cD e]
 unfold dY;simp only[this];rfl
def L0{a:Touch}{l ad}(h:ze A a.loc)(e:a.loc=.cell ad)(b:ad.block=A.fb/\ad.off=A.cell l):False:=by rw[e]at h;obtain⟨_,h⟩:=h;have:=A.d4;rw[b.1,b.2]at h;unfold bN.cell at h;omega
def dc.FO(h:dc P A Z s kk OO J M gsz w t){s':MS P}(d:A.dir=true->∀l,l<A.n->(s'.w l).iD=(s.w l).iD/\(s'.w l).owns=(s.w l).owns)(p:∀op∈u,∀a,op.act.touch?=some a->ze A a.loc):
 A.dir=true->∀j,j<A.n->((s'.w j).iD=false->(∀i,(kk i).cell A.fb (A.cell j)=none)/\∀m a ad,touchAt (t++u) m=some a->a.loc=.cell ad->ad.block=A.fb/\ad.off=A.cell j->m<Z.N0)/\((s'.w j).rel=true->(kk (A.b+j)).cell A.fb (A.cell j)=some (A.val j)):=λhd l c=>by
 obtain⟨q,r⟩:=d hd l c;rw[bp.rel,q,r];exact⟨λk=>⟨((h.zf hd l c).1 k).1,λm a ad v e o=>(dV v).elim (λf=>((h.zf hd l c).1 k).2 m a ad f.1 e o) (λ⟨op,g,f⟩=>(L0 (p op g a f) e o).elim)⟩,(h.zf hd l c).2⟩
def dc.xJ(h:dc P A Z s kk OO J M gsz w t)(hj:j<A.n)(k:x.busy=(s.w j).busy)(E:x.owns=(s.w j).owns)(o:A.dir=true->x.iD=(s.w j).iD)(F:bQ A.n (s.aV j x sh))(p:ShM A.fb A.fo w' sh)
 (d:∀b,b≠A.fb->w'.heap[b]?=w.heap[b]?) (q:∃c e,w'.heap[A.fb]?=some (.cells c e (0,0))) (z:∀op∈u,(∀a,op.act.touch?=some a->a.kind=.atomic/\ze A a.loc)/\∀a,op.act≠.mark (.release a)):
 dc P A Z (s.aV j x sh) kk OO J M gsz w' (t++u):=by
 have m:∀l,((s.aV j x sh).w l).owns=(s.w l).owns:=λl=>by
  by_cases e:l=j
  . subst e;rw[aW,E]
  . rw[cD e]
 refine⟨F,h.size,h.dd,h.off,h.FO (λhd l _=>⟨?_,m l⟩) (λop g a r=>((z op g).1 a r).2),λhd=>by rw[d _ A.d1];exact h.Aj hd,p,h.gr.same (.of_heap (d _ (zj A.d4))),q,by rw[d _ (zj A.d4)];exact h.zx,h.gL,h.eG,λi y G=>?_,λl B v=>h.zy l B (by simp_all),λv=>h.OY λl B=>by simp_all,λc H=>?_,
  λi=>by rw[h.hJ i];exact(oC hj k i).symm,h.vo u,h.mM u,h.ko u (λop g a r _ I=>?_),h.oB u (λop g a r _ I=>?_),h.pY u,h.jB u (λop g=>(z op g).2),h.Ds,h.sO,h.jV,h.fy,h.la,by simp;exact aaR h.n0 (abE _ _)⟩
 . by_cases e:l=j
   . subst e;rw[aW,o hd]
   . rw[cD e]
 . obtain⟨l,f,C,D,L,K⟩:=h.tok i y G
   exact⟨l,f,C,D,by simp_all,K⟩
 . obtain⟨C,D⟩:=h.OZ c H
   simp_all
 . grind
 grind
def dc.work(h:dc P A Z s kk OO J M gsz w t)(hj:j<A.n)(k:(s.w j).work=true)(l:x.work=true)(m:x.owns=(s.w j).owns)(f:A.dir=true->x.iD=(s.w j).iD)(o:bQ A.n (s.aV j x sh))(g:ShM A.fb A.fo w' sh)
 (d:∀b,b≠A.fb->w'.heap[b]?=w.heap[b]?) (i:∃c e,w'.heap[A.fb]?=some (.cells c e (0,0))) (p:∀op∈u,(∀a,op.act.touch?=some a->a.kind=.atomic/\ze A a.loc)/\∀a,op.act≠.mark (.release a)):
 dc P A Z (s.aV j x sh) kk OO J M gsz w' (t++u):=
 h.xJ hj (by rw[(bD k).2.2.2.2.2.1,(bD l).2.2.2.2.2.1]) m f o g d i p
end
section
variable{P:adI}
def BX {y s fr f l e cs} (b:FR y s fr) (h:ba s=some (f,l)) (c:Ext P f e):mayWake P (G fr cs)=true:=by
 obtain⟨ops,i,rest,kk,o,as,d,g,p,j,q,a,r⟩:=dq b h;obtain⟨fn,k,t,u,v,w⟩:=c.ex;have m:fr.mode = .run:=by rw[a];rfl
 have n:fr.todo = .inRegion ops (i :: rest) :: kk:=by rw[a];rfl
 unfold mayWake;simp only[G,m,n,g,abj,j,Frame.eval,k,Option.any_some]
 grind
def IT{n b o kind cs g}(C:gF P n)(X:gJ P n)(h:oc P n b o kind .give cs g):mayWake P g=true:=by
 obtain⟨c,y,fr,d,e,i,a,f,rfl⟩:=h;rcases e with rfl|rfl
 . exact BX a (C.W8 b o kind) X.oz
 . exact BX a (C.W9 b o kind) X.oz
def oD{b o w w'}(h:MW b o w w')(a:∃c e,w.heap[b]?=some (.cells c e (0,0))):
 w'.heap.size=w.heap.size/\(∀r,r≠b->w'.heap[r]?=w.heap[r]?)/\∃c e c',w.heap[b]?=some (.cells c e (0,0))/\w'.heap[b]?=some (.cells c' e (0,0))/\c'.size=c.size/\∀n,n≠o->n≠o+1->c'[n]?=c[n]?:=by
 obtain⟨c,e,a⟩:=a;rcases h.2 with h|⟨i,v,f,g,h⟩
 . grind
 . refine⟨by simp_all,λr d=>?_,c,e,c.setIfInBounds i v,a,?_,by simp,λn j k=>?_⟩
   . rw[h];simp only[World.setCell,abw,aaJ (zj d)]
   . rw[h];simp[World.setCell,abw,a]
   grind
end
section
variable{P:adI}{A:bN}{Z:Base}{s:MS P}{kk:adH}{OO:adG}{J M:adw}{gsz:Nat}{w w':World}{t:Trace}{j:Nat}{x:bp P}{sh:Mu.Sh}
def dc.calm(h:dc P A Z s kk OO J M gsz w t)(a:MW A.fb A.fo w w'):Calm Z w w':=by obtain⟨d,c,_⟩:=oD a h.vm;have:=h.fy.2.1;exact⟨a.1,λb hb=>c b (by omega)⟩
def dc.kept(h:dc P A Z s kk OO J M gsz w t)(a:MW A.fb A.fo w w'):∀b,Kept kk OO w w' b:=λb=>by
 obtain⟨u,d,c,e,f,j,k,l,v⟩:=oD a h.vm;by_cases hb:b=A.fb
 . subst hb
   refine .inr (.inr ⟨c,f,e,j,k,l,λi x m=>by obtain⟨_,g,_,_,_,rfl,o⟩:=h.tok i x m;exact⟨g,rfl,λn p=>by have:=(o n p).2;unfold bN.cell at this;grind⟩,λn=>?_⟩);by_cases q:n=A.fo
   . subst q;exact .inr λi=>(h.eG i).1
   . by_cases r:n=A.fo+1
     . subst r;exact .inr λi=>(h.eG i).2.1
     simp_all
 . exact .inl (d b hb)
def dc.UW(h:dc P A Z s kk OO J M gsz w t){n}(a:n=A.fo\/n=A.fo+1):Lg kk OO w.heap.size (.cell ⟨A.fb,n,none⟩):=by
 have b:A.fb<w.heap.size:=by obtain⟨c,e,f⟩:=h.vm;grind
 refine⟨b,λi=>⟨λd=>?_,?_⟩⟩
 . obtain⟨_,_,_,_,e⟩:=h.PE d
   have e:n=A.fo+2+_:=e;omega
 . rcases a with rfl|rfl
   . exact(h.eG i).1
   . exact(h.eG i).2.1
def nN{b o e}(d:(e.loc=.mark .disable\/e.loc=.mark .enable)\/∃i,(i=o\/i=o+1)/\e.loc=.cell ⟨b,i,none⟩/\e.sync=true):
 (∀a,(MemAct.ofEvent e).touch?=some a->a.kind=.atomic/\∃i,(i=o\/i=o+1)/\a.loc=.cell ⟨b,i,none⟩)/\(∀a,MemAct.ofEvent e≠.mark (.release a))/\∀B,b<B->(MemAct.ofEvent e).low B:=by
 obtain⟨loc,wr,j⟩:=e;rcases d with(h|h)|⟨i,k,h,c⟩
 . simp only at h;subst h
   simp[MemAct.ofEvent,MemAct.touch?,MemAct.low]
 . simp only at h;subst h
   simp[MemAct.ofEvent,MemAct.touch?,MemAct.low]
 . simp only at h c;subst h;subst c
   refine⟨λa f=>?_,by simp[MemAct.ofEvent],λB g=>by simpa[MemAct.ofEvent,MemAct.low,Loc.low]using g⟩;simp only[MemAct.ofEvent,MemAct.touch?,kn]at f
   grind
def dc.L1(h:dc P A Z s kk OO J M gsz w t){es}(p:EvM A.fb A.fo es){i}(hi:bU P A s i)  fn   pos :
 BW kk OO w.heap.size t i (MemOp.ofEvents i fn pos es)/\(∀op∈MemOp.ofEvents i fn pos es,op.act.low w.heap.size)/\∀op∈MemOp.ofEvents i fn pos es,(∀a,op.act.touch?=some a->a.kind=.atomic/\ze A a.loc)/\∀a,op.act≠.mark (.release a):=by
 have v:A.fb<w.heap.size:=by obtain⟨c,e,f⟩:=h.vm;grind
 refine⟨λop d a k=>?_,λop d=>?_,λop d=>?_⟩<;>obtain⟨e,l,rfl⟩:=zR d<;>obtain⟨o,q,x⟩:=nN (p e l)
 . obtain⟨f,n,g,j⟩:=o a k
   refine⟨f,λ_=>by rw[j];exact h.UW g,λm b hb r u=>h.quiet m b hb ?_ u i hi⟩
   rw[r,j];exact⟨rfl,.inl ⟨rfl,g⟩⟩
 . grind
 . refine⟨λa k=>?_,q⟩
   obtain⟨f,n,g,j⟩:=o a k;exact⟨f,by rw[j];exact⟨rfl,.inl ⟨rfl,g⟩⟩⟩
end
structure fA{P}(A:bN)(s s':MS P)  i :Prop where
 w:∀l,l<A.n->A.b+l≠i->s'.w l=s.w l
 c:i≠A.cl->s'.c=s.c
 ms:i≠0->s'.ms=s.ms
 sp:s'.sp=s.sp
 d:s'.d=s.d
 iM:(∀l,l<A.n->(s'.w l).iM=(s.w l).iM)\/((dE P A s 0->∃m,s.ms=.add m\/s.ms=.spawn m)/\s.ms≠.parked)
section
variable{P:adI}{A:bN}{Fin:acZ}{Z:Base}{s s':MS P}{f f':Nat->Node P}{q q':adC}{kk kk':adH}{OO OO':adG}{J J' M:adw}{gs:adf}{gsz:Nat}{w w':World}{t u:Trace}{i:Nat}{g g1:adz}
def xK(h:∀l,l<A.n->(s'.w l).iM=(s.w l).iM):MS.rem P A.n s'=MS.rem P A.n s:=by unfold MS.rem;exact aca λl a=>by grind
def fA.live(h:fA A s s' i){j}(hj:j≠i):dE P A s' j↔dE P A s j:=by
 constructor<;>rintro(⟨b,a⟩|⟨l,a,d,f⟩|⟨b,a⟩)
 . exact .inl ⟨b,by rw[<-h.ms (λe=>hj (b.trans e.symm))];exact a⟩
 . exact .inr (.inl ⟨l,a,d,by rw[<-h.w l a (λe=>hj (d.trans e))];exact f⟩)
 . exact .inr (.inr ⟨b,by rw[<-h.c (λe=>hj (b.trans e.symm))];exact a⟩)
 . exact .inl ⟨b,by rw[h.ms (λe=>hj (b.trans e.symm))];exact a⟩
 . exact .inr (.inl ⟨l,a,d,by rw[h.w l a (λe=>hj (d.trans e))];exact f⟩)
 . exact .inr (.inr ⟨b,by rw[h.c (λe=>hj (b.trans e.symm))];exact a⟩)
def fA.walk(h:fA A s s' i){j}(hj:j≠i):gK P A s' j↔gK P A s j:=by
 constructor<;>rintro(⟨b,a⟩|⟨l,a,d,f⟩|⟨b,a⟩)
 . exact .inl ⟨b,by rw[<-h.ms (λe=>hj (b.trans e.symm))];exact a⟩
 . exact .inr (.inl ⟨l,a,d,by rw[<-h.w l a (λe=>hj (d.trans e))];exact f⟩)
 . exact .inr (.inr ⟨b,by rw[<-h.c (λe=>hj (b.trans e.symm))];exact a⟩)
 . exact .inl ⟨b,by rw[h.ms (λe=>hj (b.trans e.symm))];exact a⟩
 . exact .inr (.inl ⟨l,a,d,by rw[h.w l a (λe=>hj (d.trans e))];exact f⟩)
 . exact .inr (.inr ⟨b,by rw[h.c (λe=>hj (b.trans e.symm))];exact a⟩)
def fA.held(h:fA A s s' i){j}(hj:j≠i):fF P A s' j↔fF P A s j:=by
 constructor<;>rintro(⟨b,a⟩|⟨l,a,c,d⟩)
 . exact .inl ⟨b,by rw[<-h.ms (λe=>hj (b.trans e.symm))];exact a⟩
 . exact .inr ⟨l,a,c,by rw[<-h.w l a (λe=>hj (c.trans e))];exact d⟩
 . exact .inl ⟨b,by rw[h.ms (λe=>hj (b.trans e.symm))];exact a⟩
 . exact .inr ⟨l,a,c,by rw[h.w l a (λe=>hj (c.trans e))];exact d⟩
def lZ  K  (t:fA A s s' i) (L:∀j,j≠i->f' j=f j) (M:∀j,j≠i->q' j=q j) (N:∀j,j≠i->j<A.b+A.n+1->kk' j=kk j) (Q:∀j,j≠i->j<A.b+A.n+1->OO' j=OO j) (R:∀j,j≠i->J j->J' j)
 (o:((s.sh.ms=0->s'.sh.ms=0)/\(s.gm=0->s'.gm=0))\/(mayWake P g=true/\(g1.status=.running\/g1.status=.finished))) (S:∀{i k O y},UU P A Fin s i k O y->y.status=.running/\y.offers=none):
 Beside (ck P A Fin Z K) s s' f f' q q' kk kk' OO OO' J J' w' i g g1:=by
 have hb:=A.hb;have wl:∀{j l:Nat},l<A.n->j≠i->j=A.b+l->s'.w l=s.w l:=λ{j l} E a e=>t.w l E (λh=>a (e.trans h))
 have x:∀{j:Nat},j≠i->j=0->s'.ms=s.ms:=λa e=>t.ms (λh=>a (e.trans h.symm))
 have H:∀{j:Nat},j≠i->j=A.cl->s'.c=s.c:=λa e=>t.c (λh=>a (e.trans h.symm))
 refine⟨L,M,N,Q,λj a _ h=>R j a h,λj a=>t.live a,λj a=>t.walk a,λj a=>t.held a,λj a E=>?_,λj k O y a _ F=>?_,λj a I=>?_,λj a I hd=>?_,λj k O y a T F=>?_,λj y a _ U=>?_⟩
 . show cK P A Fin s' j=cK P A Fin s j
   unfold cK;by_cases d:j=0
   . rcases t.iM with u|⟨u,_⟩
     . simp only[aaK d,x a d,xK u]
     . subst d
       obtain⟨m,e|e⟩:=u E<;>simp only[aaO,x a rfl,e]
   rcases E with⟨G,_⟩|⟨l,p,r,_⟩|⟨G,_⟩
   . omega
   . have e:j-A.b=l:=by omega
     grind
   grind
 . rcases F with⟨d,h⟩|⟨l,p,r,B⟩|⟨d,h⟩
   . exact .inl ⟨d,by grind⟩
   . exact .inr (.inl ⟨l,p,r,by grind⟩)
   . exact .inr (.inr ⟨d,by grind⟩)
 . show dO P A s' j=dO P A s j
   unfold dO;rcases I with⟨d,h1⟩|⟨l,p,r,_⟩|⟨d,_⟩
   . grind
   . grind
   grind
 . rcases o with⟨o,v⟩|⟨hm,u⟩
   . refine .inl ?_
     rcases hd with⟨l,sv,Y,p,r,B,C⟩|⟨d,B,C⟩
     . exact .inl ⟨l,sv,Y,p,r,by grind,o C⟩
     . exact .inr ⟨d,by grind,v C⟩
   . refine .inr λy V=>?_
     obtain⟨W,a2⟩:=S V;have H:(mayWake P g && g1.status !=.blocked && g1.status !=.waiting)=true:=by grind
     unfold Go.Conc.woken;rw[aaK H,Ae W a2]
 . rcases F with⟨d,D,z,p,r,B,C⟩|h
   . rcases t.iM with u|⟨_,u⟩
     . exact .inl ⟨d,D,z,p,r,B,by rw[xK u];exact C⟩
     . rcases T with⟨_,h7⟩|⟨l,_,h7,_⟩
       . simp_all
       . omega
   . exact .inr h
 . exact λl b X p r B=>U l b X p r (by grind)
variable{j:Nat}{x:bp P}{sh:Mu.Sh}
def xJ(hj:j<A.n)(h:x.iM=(s.w j).iM\/((dE P A s 0->∃m,s.ms=.add m\/s.ms=.spawn m)/\s.ms≠.parked)):fA A s (s.aV j x sh) (A.b+j):=⟨λl _ a=>cD (by omega),λ_=>rfl,λ_=>rfl,rfl,rfl,h.imp_left λh l _=>by
 by_cases e:l=j
 . subst e;rw[aW,h]
 . rw[cD e]⟩
def pZ  c  (hj:j<A.n) (d:x.iM=(s.w j).iM) (e:∀i,i≠A.b+j->f' i=f i) (l:∀i,i≠A.b+j->q' i=q i) (m:∀i,i≠A.b+j->i<A.b+A.n+1->kk' i=kk i) (o:∀i,i≠A.b+j->i<A.b+A.n+1->OO' i=OO i) (p:∀i,i≠A.b+j->J i->J' i)
 (a:(s.sh.ms=0->sh.ms=0)\/(mayWake P g=true/\g1.status=.running)) (r:∀{i k O y},UU P A Fin s i k O y->y.status=.running/\y.offers=none):
 Beside (ck P A Fin Z c) s (s.aV j x sh) f f' q q' kk kk' OO OO' J J' w' (A.b+j) g g1:=
 lZ c (xJ hj (.inl d)) e l m o p (a.imp (λh=>⟨h,id⟩) λh=>⟨h.1,.inl h.2⟩) r
def mN  c  (hj:j<A.n) (d:(s.w j).work=true) (e:x.work=true) (h:∀i,i≠A.b+j->f' i=f i) (l:∀i,i≠A.b+j->q' i=q i) (m:∀i,i≠A.b+j->i<A.b+A.n+1->kk' i=kk i) (o:∀i,i≠A.b+j->i<A.b+A.n+1->OO' i=OO i) (p:∀i,J i->J' i)
 (a:(s.sh.ms=0->sh.ms=0)\/(mayWake P g=true/\g1.status=.running)) (r:∀{i k O y},UU P A Fin s i k O y->y.status=.running/\y.offers=none):
 Beside (ck P A Fin Z c) s (s.aV j x sh) f f' q q' kk kk' OO OO' J J' w' (A.b+j) g g1:=
 pZ c hj (by rw[(bD e).2.2.1,(bD d).2.2.1]) h l m o (λi _=>p i) a r
end
def bp.kq{P}:bp P->Bool
 |.lk ..=>true|.un ..=>true|_=>false
def iY{P}{x:bp P}(h:x.kq=true):x.work=true:=by cases x<;>simp_all [bp.kq,bp.work]
section
variable{P:adI}{A:bN}{Fin:acZ}{Z:Base}{s:MS P}{f:Nat->Node P}{q:adC}{kk:adH}{OO:adG}{J M:adw}{gs:adf}{w w':World}{t:Trace}{j:Nat}{x:bp P}{sh:Mu.Sh}{g g1:adz}
def wi(hj:j<A.n)(h:(s.w j).busy=true):dY P A s (A.b+j):=.inl ⟨j,hj,rfl,h⟩
def iN(I:bQ A.n s)(hj:j<A.n)(h:(s.w j).jA=false):bU P A s (A.b+j):=by
 refine .inr (.inl ⟨j,?_,rfl⟩);have:=I.idle j hj
 simp_all
def iZ(hj:j<A.n)(h:(s.w j).kq=true):gK P A s (A.b+j):=.inr (.inl ⟨j,hj,rfl,by cases e:s.w j<;>simp_all [bp.kq]⟩)
def mO(hj:j<A.n)(h:(s.w j).kq=true):¬dE P A s (A.b+j):=by
 have:=A.hb;rintro(⟨e,_⟩|⟨l,a,c,d⟩|⟨e,_⟩)
 . omega
 . obtain rfl:l=j:=by omega
   cases e:s.w l<;>simp_all [bp.kq]
 . omega
def p9(hj:j<A.n)(h:(s.w j).kq=true):¬fF P A s (A.b+j):=by
 have:=A.hb;rintro(⟨e,_⟩|⟨l,c,d,a⟩)
 . omega
 . obtain rfl:l=j:=by omega
   rw[a]at h;cases h
def eS(hj:j<A.n):dO P A s (A.b+j)=(s.w j).deaf:=by
 have:=A.hb;unfold dO
 grind
def Dw  u  (L:bF (ck P A Fin Z u) Z s f q kk OO J M gs w t) (hj:j<A.n) (K:(s.w j).work=true){d}(N:Deaf t (A.b+j)=d) (Q:¬fF P A s (A.b+j)) (h2:x.kq=true) (ho:x.owns=(s.w j).owns) (R:A.dir=true->x.iD=(s.w j).iD) (hI:bQ A.n (s.aV j x sh)) (hL:MS.gu A.n (s.aV j x sh) s)
 (hg:gs[A.b+j]?=some g){es}(S:stepG P false g w=.go g1 w' es) (o:MW A.fb A.fo w w') (T:ShM A.fb A.fo w' sh) (U:EvM A.fb A.fo es) (hd:deafBehind d es=x.deaf)
 (hs:∃n g',jm P (lg A) n g1 g'/\HI P A j x (kk (A.b+j)) (OO (A.b+j)) g') (v:(s.sh.ms=0->sh.ms=0)\/(mayWake P g=true/\g1.status=.running))  sl :
 ∃ops m',runT P (crowd gs w sl) (A.b+j)=(.next m',ops)/\∃s' f' q' kk' OO' J' M' gs' z V,m'=crowd gs' z V/\MS.gu A.n s' s/\bF (ck P A Fin Z u) Z s' f' q' kk' OO' J' M' gs' z (t++ops):=by
 obtain⟨n,g',C,W⟩:=hs;have hb:=A.hb;have B:=bh (P:=P) (A:=A) (Fin:=Fin) (Z:=Z) u;have w2:=iY h2;have p:dc P A Z s kk OO J M gs.size w t:=L.ex;have X:(A.b+j==0)=false:=by simp;omega
 have D:=runT_crowd_go (P:=P) (sl:=sl) (i:=A.b+j) hg (by rw[X];exact S)
 have E:bU P A s (A.b+j):=iN p.I hj (bD K).2.2.2.2.1;obtain⟨y1,y2,y3⟩:=p.L1 U E g.frame.fn g.frame.place;have m:∀op∈MemOp.ofEvents (A.b+j) g.frame.fn g.frame.place es,op.g=A.b+j:=λop Y=>by obtain⟨e,_,rfl⟩:=zR Y;rfl
 obtain⟨m1,m2,c,e,c',m3,m4,_⟩:=oD o p.vm;have hP:=L.cS.sync (i:=A.b+j) (.inr ((p.hJ _).2 (wi hj (bD K).2.2.2.2.2.1))) m m1 (p.calm o) (p.kept o) y2 y1;have F:dc P A Z (s.aV j x sh) kk OO J M gs.size w' (t++MemOp.ofEvents (A.b+j) g.frame.fn g.frame.place es):=p.work hj K w2 ho R hI T m2 ⟨c',e,m4⟩ y3
 have r:Beside (ck P A Fin Z u) s (s.aV j x sh) f f q (upd q (A.b+j) n) kk kk OO OO J J w' (A.b+j) g g1:=mN u hj K w2 (λ_ _=>rfl) (λi hi=>upd_ne q n hi) (λ_ _ _=>rfl) (λ_ _ _=>rfl) (λ_ h=>h) v (λ{i k O y} hA=>B.kT (s:=s) (i:=i) (k:=k) (O:=O) (g:=y) hA)
 have a:((s.aV j x sh).w j).kq=true:=by rw[aW];exact h2
 refine⟨_,_,D,s.aV j x sh,f,upd q (A.b+j) n,kk,OO,J,M,_,_,_,rfl,hL,?_⟩;refine bF.step B L hg m hP F (λl y G hA=>?_) r ⟨λG=>absurd G (mO hj a),λ_=>⟨mO hj a,?_,?_,g',?_,?_⟩,λhh=>absurd hh (p9 hj a),λ_ hn _=>absurd (iZ hj a) hn⟩
 . have H:l≠A.b+j:=λe=>Q (e ▸ G)
   exact B.sR F ((r.held l H).2 G) _ _ (r.TH l _ _ _ H G hA)
 . show A.b+j<A.b+A.n+1;omega
 . rw[Deaf_own,N]
   show deafBehind d es=dO P A (s.aV j x sh) (A.b+j);rw[eS hj,aW];exact hd
 . exact .inr (.inl ⟨j,hj,rfl,by rw[aW];exact W⟩)
 . exact .inr (by rw[upd_same];exact C)
def xL  d  (u:bF (ck P A Fin Z d) Z s f q kk OO J M gs w t) (hj:j<A.n) (e:(s.w j).kq=true) (y:x.kq=true) (z:x.owns=(s.w j).owns) (h:A.dir=true->x.iD=(s.w j).iD) (B:bQ A.n (s.aV j x sh)) (C:MS.gu A.n (s.aV j x sh) s)
 (D:gs[A.b+j]?=some g){es}(i:stepG P false g w=.go g1 w' es) (k:MW A.fb A.fo w w') (l:ShM A.fb A.fo w' sh) (m:EvM A.fb A.fo es) (hd:deafBehind (s.w j).deaf es=x.deaf)
 (E:∃n g',jm P (lg A) n g1 g'/\HI P A j x (kk (A.b+j)) (OO (A.b+j)) g') (a:(s.sh.ms=0->sh.ms=0)\/(mayWake P g=true/\g1.status=.running))  sl :
 ∃ops v,runT P (crowd gs w sl) (A.b+j)=(.next v,ops)/\∃s' f' q' kk' OO' J' M' gs' c o,v=crowd gs' c o/\MS.gu A.n s' s/\bF (ck P A Fin Z d) Z s' f' q' kk' OO' J' M' gs' c (t++ops):=by
 have p:=iZ (P:=P) (A:=A) (s:=s) hj e;obtain⟨_,_,r,_⟩:=u.walk _ p;exact Dw d u hj (iY e) (r.trans (eS hj)) (p9 hj e) y z h B C D i k l m hd E a sl
end
namespace Mu
section
variable{n:Nat}{pcs:Nat->Pc}{s:Sh}{i:Nat}
def PG{f:Pc->Nat}(h:∀p,f p<=1)(pcs:Nat->Pc)  n :fJ n (λi=>f (pcs i))<=n:=by
 have:=Fy (f:=λi=>f (pcs i)) (c:=1) (λi=>h _) n;omega
def Inv.Xs(h:Inv n pcs s):s.w.N<=n+1/\s.ms<=1:=by
 have b:=PG (f:=cN) (λp=>by cases p<;>simp[cN]) pcs n
 cases e:s.w.S with
 | false=>
   obtain⟨c,_,a⟩:=h.j2 e;have:s.w.K.toNat<=1:=by cases s.w.K<;>simp
   omega
 | true=>
   obtain⟨_,_,a,d⟩:=h.j3 e;have:(!s.w.L).toNat<=1:=by cases s.w.L<;>simp
   omega
def Inv.PH(h:Inv n pcs s)(hi:i<n)(a:pcs i=.held):s.w.L=true:=by
 have:cu (pcs i)<=fJ n (λj=>cu (pcs j)):=iX (λj=>cu (pcs j)) hi;rw[h.j1,a,show cu .held=1 from rfl]at this
 grind
def Inv.R8(h:Inv n pcs s)(hi:i<n){old sv}(a:pcs i=.add old sv):s.w.L=false/\s.w.S=true/\s.w.N≠0:=by
 have:de (pcs i)<=fJ n (λj=>de (pcs j)):=iX (λj=>de (pcs j)) hi;rw[a,show de (.add old sv)=1 from rfl]at this;cases e:s.w.S with
 |false=>obtain⟨_,b,_⟩:=h.j2 e;omega
 | true=>
   obtain⟨_,_,c,d⟩:=h.j3 e
   grind
end
def BY:Pc->Bool
 |.rd _=>true|.sq ..=>true|.sw ..=>true|.kI ..=>true|.gM _=>true|.tq=>true|.up _=>true|.add ..=>true|.held=>true|_=>false
def FP:Pc->Bool
 |.out=>true|.jl _=>true|.vM=>true|.give=>true|_=>false
def Ra  old   l :BY (nx old l)=true:=by unfold nx;split<;>rfl
def UX{old l p}(h:p∈hd old l):BY p=true:=by
 unfold hd at h;rw[aaN]at h;rcases h with h|h
 . split at h
   . rw[lb]at h;subst h;split<;>rfl
   . cases h
 . rw[lb]at h;subst h;rfl
def UY{p q s s'}(b:p=.iA\/(BY p=true/\p≠.held))(h:(q,s')∈mv p s)(e:q≠.bad):BY q=true:=by
 rcases b with rfl|⟨b,c⟩
 . simp only[mv]at h
   split at h<;>(rw[lb,zH]at h;obtain⟨rfl,rfl⟩:=h;rfl)
 cases p<;>simp only[BY,LK]at b
 case rd l=>simp only[mv,lb,zH]at h;obtain⟨rfl,rfl⟩:=h;exact Ra _ _
 case sq old l=>simp only[mv,aaU,zH]at h;obtain⟨a,d,rfl,rfl⟩:=h;exact UX d
 case sw old l=>simp only[mv]at h;split at h<;>(rw[lb,zH]at h;obtain⟨rfl,rfl⟩:=h;rfl)
 case kI old l=>
  simp only[mv]at h;split at h
  . simp_all
  split at h
  . rw[lb,zH]at h;obtain⟨rfl,rfl⟩:=h;split<;>rfl
  . rw[lb,zH]at h;obtain⟨rfl,rfl⟩:=h;rfl
 case gM sv=>
  simp only[mv]at h;split at h
  . cases h
  . rw[lb,zH]at h;obtain⟨rfl,rfl⟩:=h;split<;>rfl
 case tq=>
  simp only[mv,abf,zH,acd,or_false]at h;rcases h with⟨rfl,rfl⟩|⟨rfl,rfl⟩<;>rfl
 case up sv=>
  simp only[mv]at h;split at h
  . split at h
    . simp_all
    . rw[lb,zH]at h;obtain⟨rfl,rfl⟩:=h;rfl
  . rw[lb,zH]at h;obtain⟨rfl,rfl⟩:=h;exact Ra _ _
 case add old sv=>simp only[mv,lb,zH]at h;obtain⟨rfl,rfl⟩:=h;rfl
 simp_all
def UZ{p q s s'}(a:p=.held\/(FP p=true/\p≠.out))(h:(q,s')∈mv p s)(c:q≠.bad):FP q=true:=by
 rcases a with rfl|⟨a,b⟩
 . simp only[mv]at h
   split at h
   . simp_all
   . rw[lb,zH]at h
     obtain⟨rfl,rfl⟩:=h;split
     . rfl
     split
     . rfl
     split<;>rfl
 cases p<;>simp only[FP,LK]at a
 case out=>simp_all
 case jl old=>simp only[mv]at h;split at h<;>(rw[lb,zH]at h;obtain⟨rfl,rfl⟩:=h;rfl)
 case vM=>simp only[mv,lb,zH]at h;obtain⟨rfl,rfl⟩:=h;split<;>rfl
 case give=>simp only[mv,lb,zH]at h;obtain⟨rfl,rfl⟩:=h;rfl
def Rb{p q s s'}(b:p≠.give)(h:(q,s')∈mv p s)(a:s.ms=0):s'.ms=0:=by
 cases p<;>simp only[mv]at h
 case out=>cases h
 case bad=>cases h
 case give=>simp_all
 case sq=>grind
 case tq=>grind
 all_goals repeat' split at h
 all_goals first
  |(cases h;done)
  |(rw[lb,zH]at h;obtain⟨_,rfl⟩:=h;first|exact a|(show s.ms-1=0;omega))
end Mu
def uw:BJ->Bool
 |.iA=>true|.rd _=>true|.sq ..=>true|.sw ..=>true|.kI ..=>true|.gM _=>true|.tq=>true|.up _=>true|.add ..=>true|.held=>true|.jl _=>true|.vM=>true|.give=>true
 |_=>false
def L2{q p}(h:To q p):p.abs=q:=by cases h<;>rfl
def U1{q p}(h:To q p)(a:Mu.BY q=true):Dq p=true/\p≠.ld/\p≠.la:=by cases h<;>simp_all [Mu.BY,Dq]
def U2{q p}(h:To q p)(a:Mu.FP q=true):zw p=true/\p≠.Hr/\p≠.ur/\p≠.ud:=by cases h<;>simp_all [Mu.FP,zw]
def L3{q p}(h:To q p):q≠.bad:=by cases h<;>simp
section
variable{P:adI}{nm:Di}(C:gF P nm)(X:gJ P nm){n:Nat}{pcs:Nat->Mu.Pc}{s:Mu.Sh}{i:Nat}{p:BJ}{b o:Nat}{kind:adE}{Wd:adp}{cs:adu}{g:adz}{w:World}{main:Bool}
include C X in
def Dx(I:Mu.Inv n pcs s)(hi:i<n)(v:n<=900)(c:pcs i=p.abs)(f:uw p=true)(a:ShM b o w s)(h:oc P nm b o kind p cs g):
 lV P nm b o kind Wd cs g w main p.abs s\/((∃sv,p=.gM sv)/\s.ms=0/\stepG P main g w=.go {g with status:=.blocked} w #[]):=by
 obtain⟨x,k⟩:=I.Xs;have hb:s.w.N<=1000:=by omega
 have j:∀{q s'},(q,s')∈Mu.mv (pcs i) s->Mu.loc q:=λ{q s'} f=>by
  have:=(I.step hi f).j0 i hi
  rwa [Mu.ai]at this
 have d:Mu.loc (pcs i):=I.j0 i hi;rw[c]at j d;cases p<;>simp only[uw,LK]at f
 case iA=>exact .inl (IH C X a h)
 case rd l=>exact .inl (Pt C X a hb (j (q:=Mu.nx s.w l) (s':=s) (by simp[BJ.abs,Mu.mv])) h)
 case sq old l=>exact .inl (Pu C X a d h)
 case sw old l=>exact .inl (Pv C X a d h)
 case kI old l=>exact .inl (LI C X a d h)
 case gM sv=>
  by_cases e:s.ms=0
  . exact .inr ⟨⟨sv,rfl⟩,e,Dp C X a e h⟩
  . exact .inl (II C X a e h)
 case tq=>exact .inl (Pw C X a h)
 case up sv=>exact .inl (Px C X a hb (λq s' m=>j m) h)
 case add old sv=>obtain⟨r,t,u⟩:=I.R8 hi c;exact .inl (LJ C X a hb r t u h)
 case held=>exact .inl (IJ C X a hb (I.PH hi c) h)
 case jl old=>exact .inl (IK C X a h)
 case vM=>exact .inl (LL C X a hb h)
 case give=>exact .inl (IL C X a (by omega) h)
end
section
variable{P:adI}{A:bN}{Fin:acZ}{Z:Base}{s:MS P}{f:Nat->Node P}{q:adC}{kk:adH}{OO:adG}{J M:adw}{gs:adf}{w:World}{t:Trace}{j:Nat}{g:adz}
def Goes  P  (A:bN) (Fin:acZ) (Z:Base) (f:A.b+A.n+1<=Z.lk) (s:MS P) (gs:adf) (w:World) (t:Trace) (sl:adb) (i:Nat):Prop:=∃ops e,runT P (crowd gs w sl) i=(.next e,ops)/\∃s' f' q' kk' OO' J' M' a c d,e=crowd a c d/\MS.gu A.n s' s/\bF (ck P A Fin Z f) Z s' f' q' kk' OO' J' M' a c (t++ops)
def FQ  P  (A:bN) (s:MS P) (gs:adf) (w:World) (sl:adb) (i:Nat) (g:adz):Prop:=R5 P A s i/\runT P (crowd gs w sl) i=(.next (crowd (gs.setIfInBounds i (blk g)) w sl),#[])
def Dy(e:gs[A.b+j]?=some g)(a:stepG P false g w=.go {g with status:=.blocked} w #[])  sl :runT P (crowd gs w sl) (A.b+j)=(.next (crowd (gs.setIfInBounds (A.b+j) (blk g)) w sl),#[]):=by
 have hb:=A.hb;have c:(A.b+j==0)=false:=by simp;omega
 have h:=runT_crowd_go (P:=P) (sl:=sl) (i:=A.b+j) e (by rw[c];exact a)
 have d:woken P g {g with status:=.blocked} w=id:=funext λo=>by unfold Go.Conc.woken;simp
 rw[d,Array.map_id]at h;exact h
variable(C:gF P A.nm)(X:gJ P A.nm)
include C X in
def PI  G  (H:bF (ck P A Fin Z G) Z s f q kk OO J M gs w t) (hj:j<A.n){p Y}(a:s.w j=.lk p Y) (K:gs[A.b+j]?=some g) (V:HI P A j (.lk p Y) (kk (A.b+j)) (OO (A.b+j)) g) (W:p≠.la)  sl :
 Goes P A Fin Z G s gs w t sl (A.b+j)\/FQ P A s gs w sl (A.b+j) g:=by
 have m:dc P A Z s kk OO J M gs.size w t:=H.ex;have a7:Dq p=true:=by have:=m.I.ok j hj;rw[a]at this;exact this
 have L:(s.w j).kq=true:=by rw[a];rfl
 have v:=iY L;have l:(s.w j).pc=p.abs:=by rw[a];rfl
 have hn:=A.hn;have hb:=A.hb;have aC:(A.b+j==0)=false:=by simp;omega
 obtain⟨kind,c,rest,e,Q,R,S,T,o,r,U⟩:=V
 by_cases N:uw p=true
 . rcases Dx (Wd:=lg A) (main:=false) C X m.I.mu hj hn l N m.mu R with⟨g1,w',es,qq,s',z,i,B,D,⟨hr,E,⟨k,d⟩,F⟩,a8,a9,ad,al⟩|⟨⟨sv,rfl⟩,u,i⟩
   . left
     have av:Mu.BY qq=true:=Mu.UY (by cases p<;>simp_all [Dq,uw,BJ.abs,Mu.BY]) B (L3 D)
     obtain⟨k1,k2,k3⟩:=U1 D av;have y:((bp.lk z Y).pc,s')∈Mu.mv (s.w j).pc s.sh:=by rw[l,show(bp.lk z Y).pc=z.abs from rfl,L2 D];exact B
     have ax:(s.w j).deaf=1:=by rw[a];cases p<;>simp_all [bp.deaf,uw,Dq]
     have ay:(bp.lk z Y).deaf=1:=by cases z<;>simp_all [bp.deaf]
     refine xL (x:=.lk z Y) G H hj L rfl (by rw[a];rfl) (λ_=>by rw[a];rfl) (m.I.mv hj v rfl k1 y) (HK m.I hj v rfl (by rw[a];rfl) y ?_) K i a8 a9 ad (by rw[al,ax,ay]) ⟨k,E,d,kind,c,rest,e,Q,F,S,T,o,r,U⟩ (.inl λu=>Mu.Rb ?_ B u) sl
     . cases z<;>simp_all [bp.ex]
     . cases p<;>simp_all [uw,Dq,BJ.abs]
   . right
     exact⟨.inl ⟨j,sv,Y,hj,rfl,a,u⟩,Dy K i sl⟩
 . cases p<;>simp only[uw,Dq,not_true_eq_false,LK]at N a7
   case ld=>obtain⟨g1,i,hr,E,⟨k,d⟩,F⟩:=BL (Wd:=lg A) (main:=false) (w:=w) C X R;left;exact xL (x:=.lk .iA Y) (sh:=s.sh) G H hj L rfl (by rw[a];rfl) (λ_=>by rw[a];rfl) (m.I.Yw hj v rfl rfl l rfl) (LZ hj v rfl (by rw[a];rfl) l rfl (by rw[a];rfl) rfl) K i (bj rfl) m.mu (λe O=>by simp at O;subst O;exact .inl (.inl rfl)) (by rw[a];rfl) ⟨k,E,d,kind,c,rest,e,Q,F,S,T,o,r,U⟩ (.inl λu=>u) sl
   case t1 sv=>obtain⟨g1,i,hr,E,⟨k,d⟩,F⟩:=Pr (Wd:=lg A) (main:=false) (w:=w) C X R;left;exact xL (x:=.lk (.gM sv) Y) (sh:=s.sh) G H hj L rfl (by rw[a];rfl) (λ_=>by rw[a];rfl) (m.I.still hj v rfl rfl (by rw[l];rfl)) (lY hj v rfl (by rw[a];rfl) (by rw[l];rfl) (by rw[a];simp[bp.ex])) K i (bj rfl ⟨⟨w.tick,rfl⟩,rfl⟩) (m.mu.heap rfl) fT (by rw[a];rfl) ⟨k,E,d,kind,c,rest,e,Q,F,S,T,o,r,U⟩ (.inl λu=>u) sl
   case le=>
    obtain⟨g1,i,hr,E,⟨k,d⟩,F⟩:=Hx (Wd:=lg A) (main:=false) (w:=w) C X (λw h=>h.2.2) R
    left;exact xL (x:=.lk .la Y) (sh:=s.sh) G H hj L rfl (by rw[a];rfl) (λ_=>by rw[a];rfl) (m.I.still hj v rfl rfl (by rw[l];rfl)) (lY hj v rfl (by rw[a];rfl) (by rw[l];rfl) (by rw[a];simp[bp.ex])) K i (bj rfl) m.mu (λe O=>by simp at O;subst O;exact .inl (.inr rfl)) (by rw[a];rfl) ⟨k,E,d,kind,c,rest,e,Q,F,S,T,o,r,U⟩ (.inl λu=>u) sl
   case la=>exact absurd rfl W
end
section
variable{P:adI}{A:bN}{Fin:acZ}{Z:Base}{s:MS P}{f:Nat->Node P}{q:adC}{kk:adH}{OO:adG}{J M:adw}{gs:adf}{w:World}{t:Trace}{j:Nat}{g:adz}
variable(C:gF P A.nm)(X:gJ P A.nm)
include C X in
def PJ  B  (L:bF (ck P A Fin Z B) Z s f q kk OO J M gs w t) (hj:j<A.n){p Y}(a:s.w j=.un p Y) (Q:gs[A.b+j]?=some g) (R:HI P A j (.un p Y) (kk (A.b+j)) (OO (A.b+j)) g) (S:p≠.ur) (T:p≠.ue)  sl :
 Goes P A Fin Z B s gs w t sl (A.b+j):=by
 have m:dc P A Z s kk OO J M gs.size w t:=L.ex;have F:zw p=true:=by have:=m.I.ok j hj;rw[a]at this;exact this
 have N:(s.w j).kq=true:=by rw[a];rfl
 have D:=iY N;have i:(s.w j).pc=p.abs:=by rw[a];rfl
 have hn:=A.hn;have hb:=A.hb;obtain⟨kind,c,rest,U,O,V,W,G⟩:=R
 by_cases u:uw p=true
 . have a7:¬(p=.Hr\/p=.ur):=by rintro(rfl|rfl)<;>cases u
   have hN:=G a7
   rcases Dx (Wd:=lg A) (main:=false) C X m.I.mu hj hn i u m.mu O with⟨g1,w',es,qq,s',o,l,y,z,⟨hr,H,⟨k,d⟩,K⟩,a8,a9,ad,al⟩|⟨⟨sv,rfl⟩,E,l⟩
   . have av:Mu.FP qq=true:=Mu.UZ (by cases p<;>simp_all [zw,uw,BJ.abs,Mu.FP]) y (L3 z)
     obtain⟨k1,k2,k3,k4⟩:=U2 z av;have r:((bp.un o Y).pc,s')∈Mu.mv (s.w j).pc s.sh:=by rw[i,show(bp.un o Y).pc=o.abs from rfl,L2 z];exact y
     have ax:(s.w j).deaf=1:=by rw[a];cases p<;>simp_all [bp.deaf,uw,zw]
     have ay:(bp.un o Y).deaf=1:=by cases o<;>simp_all [bp.deaf]
     have aC:(s.w j).owns=false:=by rw[a];cases p<;>simp_all [bp.owns,uw,zw]
     have aE:(bp.un o Y).owns=false:=by cases o<;>simp_all [bp.owns]
     refine xL (x:=.un o Y) B L hj N rfl (by rw[aC,aE]) (λ_=>by rw[a];rfl) (m.I.mv hj D rfl k1 r) (HK m.I hj D rfl (by rw[a];rfl) r ?_) Q l a8 a9 ad (by rw[al,ax,ay]) ⟨k,H,d,kind,c,rest,U,K,V,λh=>absurd h (λh=>h.elim k2 k3),λ_=>hN⟩ ?_ sl
     . cases o<;>simp_all [bp.ex]
     . by_cases aL:p=.give
       . subst aL;exact .inr ⟨IT C X O,hr⟩
       . refine .inl λE=>Mu.Rb ?_ y E
         cases p<;>simp_all [uw,zw,BJ.abs]
   . exact absurd F (by simp[zw])
 . cases p<;>simp only[uw,zw,not_true_eq_false,LK]at u F
   case Hr=>
    obtain⟨v,hv⟩:=((bh (P:=P) (A:=A) (Fin:=Fin) (Z:=Z) B).wd m).2.2;obtain⟨g1,l,hr,H,⟨k,d⟩,K⟩:=xz (Wd:=lg A) (main:=false) (w:=w) C X (λw h=>h.2.2) hv O
    exact xL (x:=.un .ur Y) (sh:=s.sh) B L hj N rfl (by rw[a];rfl) (λ_=>by rw[a];rfl) (m.I.still hj D rfl rfl (by rw[i];rfl)) (lY hj D rfl (by rw[a];rfl) (by rw[i];rfl) (by rw[a];simp[bp.ex])) Q l (bj rfl) m.mu fT (by rw[a];rfl) ⟨k,H,d,kind,c,rest,U,K,V,λ_=>W (.inl rfl),λh=>absurd (.inr rfl) h⟩ (.inl λE=>E) sl
   case ud=>
    have hN:=G (by rintro(h|h)<;>cases h)
    obtain⟨g1,l,hr,H,⟨k,d⟩,K⟩:=Hu (Wd:=lg A) (main:=false) (w:=w) C X O;exact xL (x:=.un .held Y) (sh:=s.sh) B L hj N rfl (by rw[a];rfl) (λ_=>by rw[a];rfl) (m.I.still hj D rfl rfl (by rw[i];rfl)) (lY hj D rfl (by rw[a];rfl) (by rw[i];rfl) (by rw[a];simp[bp.ex])) Q l (bj rfl) m.mu (λe he=>by simp at he;subst he;exact .inl (.inl rfl)) (by rw[a];rfl) ⟨k,H,d,kind,c,rest,U,K,V,λh=>absurd h (by simp),λ_=>hN⟩ (.inl λE=>E) sl
   case ur=>exact absurd rfl S
   case ue=>exact absurd rfl T
end
def TT.R9{P m K O g1 a}(h:sP P (λ_=>True) g1 a)(e:TT P m K O a):TT P m K O g1:=.step (λb c d=>b=K/\c=O/\d=a) h.1 (λb c d f=>by obtain⟨rfl,rfl,rfl⟩:=f;exact e) (λw g=>⟨a,w,#[],K,O,h.2 _ w trivial,Eff.refl _ _ _,g,rfl,rfl,rfl⟩)
def TT.Dz{P m K O g1 c}  h   a  {z:Node P}(b:pF z ⟨m,K,O,g1,TT.R9 h a⟩):z=⟨m,K,O,c,a⟩:=by
 unfold TT.R9 at b;cases b with
 |step _ _ _ _ d=>obtain⟨rfl,rfl,rfl⟩:=d;rfl
def TT.pre{P m K O}:∀{k g1 a},jm P (λ_=>True) k g1 a->(X:TT P m K O a)->∃T ,vn ⟨m,K,O,g1,T⟩ ⟨m,K,O,a,X⟩
 |0,g1,a,h,X=>by obtain rfl:g1=a:=h;exact⟨X,.refl _⟩
 | k + 1,g1,a,⟨d,c,h⟩,X=>by
   obtain⟨b,g⟩:=TT.pre h X;refine⟨TT.R9 c b,λy hy f=>?_⟩;rcases hy with rfl|hy
   . exact f.elim
   . have:y=⟨m,K,O,d,b⟩\/Relation.TransGen pF y ⟨m,K,O,d,b⟩:=by
      cases hy with
      |single h=>exact .inl (TT.Dz c b h)
      | tail i j=>
        have e:=TT.Dz c b j
        simp_all
     exact g y this f
section
variable{P:adI}{A:bN}{Fin:acZ}{Z:Base}{s:MS P}{f:Nat->Node P}{q:adC}{kk:adH}{OO:adG}{J M:adw}{gs:adf}{w:World}{t:Trace}{j:Nat}{g:adz}
def kr(hj:j<A.n){h X}(e:s.w j=.run h X):dE P A s (A.b+j):=.inr (.inl ⟨j,hj,rfl,by simp_all⟩)
def uy(hj:j<A.n){h X}(e:s.w j=.run h X):¬gK P A s (A.b+j):=by
 have:=A.hb;rintro(⟨e,_⟩|⟨l,a,c,d⟩|⟨e,_⟩)
 . omega
 . simp_all
 . omega
def jW(hj:j<A.n){h X}(e:s.w j=.run h X):¬fF P A s (A.b+j):=by
 have:=A.hb;rintro(⟨e,_⟩|⟨l,a,c,d⟩)
 . omega
 simp_all
def nO(hj:j<A.n){h X}(e:s.w j=.run h X):cK P A Fin s (A.b+j)=iC P A j:=by
 have:=A.hb;unfold cK
 grind
variable(C:gF P A.nm)(X:gJ P A.nm)(F:mD P A.nm)
include C X F in
def PL  z  (D:bF (ck P A Fin Z z) Z s f q kk OO J M gs w t) (hj:j<A.n){Y}(E:s.w j=.un .ue Y) (hg:gs[A.b+j]?=some g) (W:HI P A j (.un .ue Y) (kk (A.b+j)) (OO (A.b+j)) g) (d:A.dir=false)  sl :
 Goes P A Fin Z z s gs w t sl (A.b+j):=by
 have p:dc P A Z s kk OO J M gs.size w t:=D.ex;have B:=bh (P:=P) (A:=A) (Fin:=Fin) (Z:=Z) z;have h1:(s.w j).kq=true:=by rw[E];rfl
 have u:=iY h1;have hb:=A.hb;have a7:(A.b+j==0)=false:=by simp;omega
 obtain⟨kind,c,rest,hk,hM,hm,ay,a8⟩:=W;have G:=a8 (by simp)
 rw[show Fc P A Y.N=Y.N by simp[Fc,d]]at G
 obtain⟨g1,a9,hr,g2,H,K⟩:=BM (Wd:=λ_=>True) (main:=false) (w:=w) C X hM
 obtain⟨k,ad⟩:=H.trans (lX F K hk);obtain⟨T,hU⟩:=TT.pre ad (Y.c _ _ _ G);obtain⟨x,v⟩:∃x:bp P,x=.run false ⟨Y.m,kk (A.b+j),OO (A.b+j),_,Y.c _ _ _ G⟩:=⟨_,rfl⟩;have V:x.work=true:=by rw[v];rfl
 have a:∀sh,((s.aV j x sh).w j)=.run false ⟨Y.m,kk (A.b+j),OO (A.b+j),_,Y.c _ _ _ G⟩:=λsh=>by rw[aW,v]
 have al:EvM A.fb A.fo #[⟨.mark .enable,false,true⟩]:=λe he=>by simp at he;subst he;exact .inl (.inr rfl)
 have L:=runT_crowd_go (P:=P) (sl:=sl) (i:=A.b+j) hg (by rw[a7];exact a9)
 have Q:bU P A s (A.b+j):=iN p.I hj (bD u).2.2.2.2.1;obtain⟨y1,y2,y3⟩:=p.L1 al Q g.frame.fn g.frame.place;have o:∀op∈MemOp.ofEvents (A.b+j) g.frame.fn g.frame.place #[⟨.mark .enable,false,true⟩],op.g=A.b+j:=λop av=>by obtain⟨e,_,rfl⟩:=zR av;rfl
 have hJ:J (A.b+j):=(p.hJ _).2 (wi hj (bD u).2.2.2.2.2.1);have hP:=D.cS.sync (i:=A.b+j) (.inr hJ) o rfl ⟨⟨.refl _,rfl⟩,λ_ _=>rfl⟩ (λb=>.inl rfl) y2 y1
 have hI:bQ A.n (s.aV j x s.sh):=p.I.still hj u V (by rw[v];rfl) (by rw[v,E];rfl)
 have hL:MS.gu A.n (s.aV j x s.sh) s:=BV hj u V ⟨_,_,by rw[v];rfl,by rw[E];rfl,.single (pF.dh Y.N Y.h0 Y.ht Y.c G)⟩
 have R:dc P A Z (s.aV j x s.sh) kk OO J M gs.size w (t++MemOp.ofEvents (A.b+j) g.frame.fn g.frame.place #[⟨.mark .enable,false,true⟩]):=p.work hj u V (by rw[v,E];rfl) (λh=>by rw[d]at h;cases h) hI p.mu (λ_ _=>rfl) p.vm y3
 have r:Beside (ck P A Fin Z z) s (s.aV j x s.sh) f (bT f (A.b+j) ⟨Y.m,kk (A.b+j),OO (A.b+j),g1,T⟩) q q kk kk OO OO J J w (A.b+j) g g1:=mN z hj u V (λi hi=>au _ _ hi) (λi hi=>rfl) (λ_ _ _=>rfl) (λ_ _ _=>rfl) (λ_ h=>h) (.inl λh=>h) (λ{i k O y} K=>B.kT (s:=s) (i:=i) (k:=k) (O:=O) (g:=y) K)
 have S:=iZ (P:=P) (A:=A) (s:=s) hj h1;refine⟨_,_,L,s.aV j x s.sh,bT f (A.b+j) ⟨Y.m,kk (A.b+j),OO (A.b+j),g1,T⟩,q,kk,OO,J,M,_,_,_,rfl,hL,?_⟩;refine bF.step B D hg o hP R (λl y hl K=>?_) r ⟨λ_=>?_,λh=>absurd h (uy hj (a _)),λh=>absurd h (jW hj (a _)),λh=>absurd (kr hj (a _)) h⟩
 . have U:l≠A.b+j:=λe=>(D.held l hl).2.1 (by rw[e];exact S)
   exact B.sR R ((r.held l U).2 hl) _ _ (r.TH l _ _ _ U hl K)
 . rw[ao]
   refine⟨by show A.b+j<A.b+A.n+1;omega,rfl,?_,rfl,rfl,hr,?_,.inr hJ,λl b X' h3 h4 h5=>?_⟩
   . show Y.m=cK P A Fin (s.aV j x s.sh) (A.b+j)
     rw[nO hj (a _)];exact hm
   . obtain⟨_,_,ax,_⟩:=D.walk _ S
     rw[Deaf_own,ax];show deafBehind (dO P A s (A.b+j)) _=0;rw[eS hj,E];rfl
   . obtain rfl:l=j:=by omega
     rw[a]at h5;cases h5;exact hU
end
section
variable{Z:Base}{kk:adH}{OO:adG}{J M:adw}{w:World}{t:Trace}
def ja(kk:adH)(lk i:Nat):adH:=bT kk i ((kk i).join (kk lk))
def iE(OO:adG)(lk i mb:Nat)(x:Own):adG:=bT (bT OO i ((OO i).set mb x)) lk aj.bot
def cH.U3(h:cH Z kk OO J M w t){i mb x}(hi:i≠Z.lk)(L:OO Z.lk mb=some x)(ho:∀c,OO Z.lk c≠none->c=mb)(N:Z.la.block<w.heap.size)(hd:Deaf t i=0)(hold:∀m a,m<Z.N0->touchAt t m=some a->a.loc.isMemory=true -> ¬Z.Shun a.loc->Knows t i m)(V:∀m a,Z.N0<=m->t.act? m≠some (.mark (.release a)))  fn   pos :
 cH Z (ja kk Z.lk i) (iE OO Z.lk i mb x) J M w (t++MemOp.ofEvents i fn pos #[⟨.mark (.acquire Z.la),false,true⟩]):=by
 obtain⟨u,S⟩:∃u,u=MemOp.ofEvents i fn pos #[⟨.mark (.acquire Z.la),false,true⟩]:=⟨_,rfl⟩;have G:u=#[⟨i,fn,pos,.mark (.acquire Z.la)⟩]:=by rw[S,ofEvents_eq];simp[MemAct.ofEvent]
 rw[<-S];have A:kK u:=λop d=>by grind
 have W:∀op∈u,op.act.touch?=none:=λop d=>by rw[G]at d;simp at d;subst d;rfl
 have H:∀op∈u,op.g=i:=λop d=>by grind
 have I:∀m a,Z.N0<=m->(t++u).act? m≠some (.mark (.release a)):=λm a O e=>by
  rcases qQ e with⟨o,_⟩|⟨op,d,o⟩
  . grind
  grind
 have X:OO i mb=none:=h.jy Z.lk i mb x (zj hi) L;have eK:∀l,l≠i->ja kk Z.lk i l=kk l:=λl Y=>au _ _ Y
 have q:ja kk Z.lk i i=(kk i).join (kk Z.lk):=ao _ _ _;have eO:∀l,l≠i->l≠Z.lk->iE OO Z.lk i mb x l=OO l:=λl o B=>by unfold iE;rw[au _ _ B,au _ _ o]
 have C:iE OO Z.lk i mb x i=(OO i).set mb x:=by unfold iE;rw[au _ _ hi,ao]
 have D:iE OO Z.lk i mb x Z.lk=aj.bot:=by unfold iE;rw[ao]
 refine h.uf (λa b=>a=b\/(a=Z.lk/\b=i)) rfl ⟨⟨.refl _,rfl⟩,λ_ _=>rfl⟩ (λb=>.inl rfl) (λop d=>by rw[G]at d;simp at d;subst d;simpa[MemAct.low]using N) (λa b e n y P O hz E=>?_) (λl b n v K=>?_) (λl b sv K=>?_) (λl b y f=>?_) (λa l b y r f=>?_)
  (λsaid=>noRace_append (h.clean said) H λn a Q op d b hb _=>by grind) (λop d a Q=>by grind) (λm op a d Q=>by grind)
  (λn a Q O h=>h.elim (λ⟨j,o,B⟩=>.inr (.inl ⟨j,o,B.app _⟩)) (λ⟨p,o,B⟩=>.inr (.inr (.inl ⟨p,o,B.app _⟩))))
 . rcases e with rfl|⟨rfl,rfl⟩
   . exact E.app u
   . refine(ou hi).2 ?_
     unfold IA at E;rw[aaK rfl]at E
     rcases E with E|⟨p,h0,o,B,h3⟩
     . exact(hold n y E P O hz).app u
     . exact m9 (y:=⟨b,fn,pos,.mark (.acquire Z.la)⟩) (m:=0) A (by grind) rfl hd o B (λk E=>I k _ (by omega)) h3
 . by_cases e:l=i
   . subst e;rw[q]at K
     exact(ar.nJ K).elim (λh=>⟨l,.inl rfl,h⟩) (λh=>⟨Z.lk,.inr ⟨rfl,rfl⟩,h⟩)
   grind
 . by_cases e:l=i
   . subst e;rw[q]at K
     exact(ar.Hk K).elim (λh=>⟨l,.inl rfl,h⟩) (λh=>⟨Z.lk,.inr ⟨rfl,rfl⟩,h⟩)
   grind
 . by_cases e:l=i
   . subst e;rw[C]at f
     by_cases z:b=mb
     . subst z
       simp only[aj.set,aaO,kn]at f;subst f;exact⟨Z.lk,.inr ⟨rfl,rfl⟩,L,λsv R=>by rw[q];exact(ar.xp (h.sat l) (h.sat Z.lk)).2 b sv R⟩
     . simp only[aj.set,z,aaH]at f
       exact⟨l,.inl rfl,f,λsv R=>by rw[q];exact(ar.sM _ _).2 b sv R⟩
   . by_cases T:l=Z.lk
     . subst T;rw[D]at f;cases f
     . rw[eO l e T]at f;grind
 . by_cases F:a=Z.lk
   . subst F;rw[D]at f;cases f
   by_cases s:l=Z.lk
   . subst s;rw[D];rfl
   by_cases U:a=i
   . subst U
     rw[C]at f;rw[eO l (zj r) s]
     by_cases z:b=mb
     . subst z;exact h.jy Z.lk l b x (zj s) L
     . simp only[aj.set,z,aaH]at f;exact h.jy a l b y r f
   . rw [eO a U F]at f
     by_cases el:l=i
     . subst el
       rw[C]
       by_cases z:b=mb
       . subst z
         have:=h.jy Z.lk a b x (zj F) L
         simp_all
       . simp only[aj.set,z,aaH];exact h.jy a l b y r f
     . rw[eO l el s];exact h.jy a l b y r f
end
section
variable{Z:Base}{kk:adH}{OO:adG}{J M:adw}{w:World}{t:Trace}
def oE(kk:adH)(lk i:Nat):adH:=bT kk lk (kk i)
def fU(OO:adG)(lk i mb fb:Nat)(x:Own):adG:=bT (bT OO i (((OO i).del mb).del fb)) lk (aj.bot.set mb x)
def cH.U4(h:cH Z kk OO J M w t){i mb fb x}(hi:i≠Z.lk)(T:OO i mb=some x)(ho:∀c,OO Z.lk c=none)(N:Z.la.block<w.heap.size)(hd:Deaf t i=0)  fn   pos :
 cH Z (oE kk Z.lk i) (fU OO Z.lk i mb fb x) J M w (t++MemOp.ofEvents i fn pos #[⟨.mark (.releaseMerge Z.la),false,true⟩]):=by
 obtain⟨u,R⟩:∃u,u=MemOp.ofEvents i fn pos #[⟨.mark (.releaseMerge Z.la),false,true⟩]:=⟨_,rfl⟩;have F:u=#[⟨i,fn,pos,.mark (.releaseMerge Z.la)⟩]:=by rw[R,ofEvents_eq];simp[MemAct.ofEvent]
 rw[<-R];have s:kK u:=λop d=>by grind
 have U:∀op∈u,op.act.touch?=none:=λop d=>by rw[F]at d;simp at d;subst d;rfl
 have G:∀op∈u,op.g=i:=λop d=>by grind
 have z:u[0]?=some ⟨i,fn,pos,.mark (.releaseMerge Z.la)⟩:=by grind
 have eK:∀l,l≠Z.lk->oE kk Z.lk i l=kk l:=λl V=>au _ _ V
 have W:oE kk Z.lk i Z.lk=kk i:=ao _ _ _;have eO:∀l,l≠i->l≠Z.lk->fU OO Z.lk i mb fb x l=OO l:=λl H I=>by unfold fU;rw[au _ _ I,au _ _ H]
 have k:fU OO Z.lk i mb fb x i=((OO i).del mb).del fb:=by unfold fU;rw[au _ _ hi,ao]
 have A:fU OO Z.lk i mb fb x Z.lk=aj.bot.set mb x:=by unfold fU;rw[ao]
 have K:∀b y,(((OO i).del mb).del fb) b=some y->b≠mb/\OO i b=some y:=λb y f=>by
  by_cases q:b=fb
  . simp[aj.del,q]at f
  by_cases r:b=mb
  . simp[aj.del,r]at f
  . exact⟨r,by simpa[aj.del,q,r]using f⟩
 have L:∀b y,(aj.bot.set mb x) b=some y->b=mb/\y=x:=λb y f=>by
  by_cases e:b=mb
  . subst e;simp only[aj.set,aaO,kn]at f;simp_all
  . simp only[aj.set,e,aaH]at f;cases f
 have B:∀b,OO i b=none->(((OO i).del mb).del fb) b=none:=λb X=>by
  by_cases q:b=fb
  . simp[aj.del,q]
  by_cases r:b=mb
  . grind
  . simpa[aj.del,q,r]using X
 refine h.uf (λa b=>a=b\/(a=i/\b=Z.lk)) rfl ⟨⟨.refl _,rfl⟩,λ_ _=>rfl⟩ (λb=>.inl rfl) (λop d=>by rw[F]at d;simp at d;subst d;simpa[MemAct.low]using N) (λa b e n y Y hm hz S=>?_) (λl b n v hv=>?_) (λl b sv hv=>?_) (λl b y f=>?_) (λa l b y o f=>?_)
  (λsaid=>noRace_append (h.clean said) G λn a O op d b hb _=>by grind) (λop d a O=>by grind) (λm op a d O=>by grind)
  (λn a O hm h=>h.elim (λ⟨j,H,I⟩=>.inr (.inl ⟨j,H,I.app _⟩)) (λ⟨p,H,I⟩=>.inr (.inr (.inl ⟨p,H,I.app _⟩))))
 . rcases e with rfl|⟨rfl,rfl⟩
   . exact S.app u
   . have P:Knows t a n:=(ou hi).1 S
     unfold IA;rw[aaK rfl];exact .inr ⟨t.size+0,by have:=h.n0;omega,by rw[act?_of (dw z)],heard_new s z hd,lR P z rfl⟩
 . grind
 . grind
 . by_cases r:l=Z.lk
   . subst r;rw[A]at f
     grind
   by_cases e:l=i
   . subst e;rw[k]at f
     grind
   . rw[eO l e r]at f;grind
 . by_cases C:a=Z.lk
   . subst C;rw[A]at f
     obtain⟨rfl,rfl⟩:=L b y f
     by_cases el:l=i
     . subst el;rw[k]
       by_cases q:b=fb
       . simp[aj.del,q]
       . simp[aj.del,q]
     . rw[eO l el (zj o)];exact h.jy i l b y (zj el) T
   by_cases D:l=Z.lk
   . subst D;rw[A]
     have Q:b≠mb:=by
      by_cases E:a=i
      . subst E;rw[k]at f;grind
      . rw[eO a E C]at f
        intro e;subst e;have:=h.jy a i b y E f
        grind
     simp only[aj.set,Q,aaH];rfl
   by_cases E:a=i
   . subst E
     rw[k]at f;rw[eO l (zj o) D];exact h.jy a l b y o (K b y f).2
   . rw[eO a E C]at f
     by_cases el:l=i
     . subst el;rw[k];exact B b (h.jy a l b y o f)
     . rw[eO l el D];exact h.jy a l b y o f
end
section
variable{P:adI}{A:bN}{Fin:acZ}{Z:Base}{s:MS P}{f:Nat->Node P}{q:adC}{kk:adH}{OO:adG}{J M:adw}{gs:adf}{gsz:Nat}{w:World}{t u:Trace}{j:Nat}{g:adz}{x:bp P}{xo:Own}
def IU{x:bp P}(h:x.owns=true):x.pc=.held:=by
 cases x with
 |run b X=>cases b<;>simp_all [bp.owns,bp.pc]
 |un p Y=>cases p<;>simp_all [bp.owns,bp.pc,BJ.abs]
 |_=>simp_all [bp.owns]
def DC(I:bQ A.n s)(hj:j<A.n)(a:(s.w j).pc=.held){l}(b:l<A.n)(c:(s.w l).owns=true):l=j:=by
 by_cases e:l=j
 . exact e
 . have g:=I.mu.j1
   have d:=Mu.gE Mu.cu (λi=>(s.w i).pc) j .out hj
   have f:Mu.cu (Mu.set (λi=>(s.w i).pc) j .out l)<=Mu.fJ A.n (λi=>Mu.cu (Mu.set (λi=>(s.w i).pc) j .out i)):=Mu.iX (λi=>Mu.cu (Mu.set (λi=>(s.w i).pc) j .out i)) b
   rw[Mu.ah _ _ e,IU c]at f;have h:Mu.cu .held=1:=rfl;have k:Mu.cu .out=0:=rfl;rw[a]at d;have:s.sh.w.L.toNat<=1:=by cases s.sh.w.L<;>simp
   omega
def kU(A:bN)(Z:Base)(OO:adG)(i:Nat)(x:Own)(a:Nat->adn):adG:=bT (iE OO Z.lk i A.mb x) i ((iE OO Z.lk i A.mb x i).set A.fb (.part a))
def bN.Tk.O0{f}(h:A.Tk j f){l}(a:f l≠none):A.dir=true/\l=A.cell j:=by
 unfold bN.Tk at h;split at h
 . grind
 . subst h;exact absurd rfl a
def dc.take{p}(H:A.Tk j p)(hZ:A.b+A.n+1<=Z.lk)(h:dc P A Z s kk OO J M gsz w t)(hj:j<A.n)(f:(s.w j).work=true)(K:x.work=true)(L:∀l,l<A.n->(s.w l).owns=false)(F:x.owns=true)(V:bQ A.n (s.aV j x s.sh))(W:∀op∈u,op.act.touch?=none/\∀a,op.act≠.mark (.release a)):
 dc P A Z (s.aV j x s.sh) (ja kk Z.lk (A.b+j)) (kU A Z OO (A.b+j) xo p) J M gsz w (t++u):=by
 have S:A.b+j≠Z.lk:=by omega
 have r:x.busy=(s.w j).busy:=by rw[(bD f).2.2.2.2.2.1,(bD K).2.2.2.2.2.1]
 have N:∀l,l≠A.b+j->ja kk Z.lk (A.b+j) l=kk l:=λl d=>au _ _ d
 have O:ja kk Z.lk (A.b+j) (A.b+j)=(kk (A.b+j)).join (kk Z.lk):=ao _ _ _;have eO:∀l,l≠A.b+j->l≠Z.lk->kU A Z OO (A.b+j) xo p l=OO l:=λl f K=>by unfold kU iE;rw[au _ _ f,au _ _ K,au _ _ f]
 have z:kU A Z OO (A.b+j) xo p (A.b+j)=((OO (A.b+j)).set A.mb xo).set A.fb (.part p):=by unfold kU iE;rw[ao,au _ _ S,ao]
 have B:kU A Z OO (A.b+j) xo p Z.lk=aj.bot:=by unfold kU iE;rw[au _ _ (zj S),ao]
 have C:bU P A s (A.b+j):=iN h.I hj (bD f).2.2.2.2.1
 have T:∀i,OO i A.fb=none:=λi=>by
  cases e:OO i A.fb with
  |none=>rfl
  | some y=>
    obtain⟨l,_,d,_,ho,_⟩:=h.tok i y e
    grind
 have g:∀{c n:Nat},(∀i,(kk i).cell c n=none)->(ja kk Z.lk (A.b+j) (A.b+j)).cell c n=none:=λ{c n} X=>by
  rw[O];cases e:((kk (A.b+j)).join (kk Z.lk)).cell c n with
  |none=>rfl
  |some v=>rcases ar.nJ e with h|h<;>rw[X]at h<;>cases h
 refine⟨V,h.size,h.dd,h.off,λhd l d=>?_,h.Aj,h.mu,h.gr,h.vm,h.zx,λi=>?_,λi=>?_,λi y D=>?_,λl d k=>?_,λk=>?_,λc U=>?_,
  λi=>by rw[h.hJ i];exact(oC hj r i).symm,h.vo u,h.mM u,h.ko u (λop o a Q=>by simp_all),h.oB u (λop o a Q=>by simp_all),h.pY u,h.jB u (λop o=>(W op o).2),λi d hb=>?_,h.sO,h.jV,h.fy,h.la,by simp;exact aaR h.n0 (abE _ _)⟩
 . by_cases e:l=j
   . subst e
     rw[aW];exact⟨λE=>by(rw[Ak F]at E;cases E),λR=>by simp[bp.rel,F]at R⟩
   . rw[cD e]
     refine⟨λE=>⟨λi=>?_,λm a Y Q q q'=>(dV Q).elim (λf=>((h.zf hd l d).1 E).2 m a Y f.1 q q') (λ⟨op,o,f⟩=>by simp_all)⟩,λR=>?_⟩
     . have f:=((h.zf hd l d).1 E).1
       grind
     . rw[N _ (by omega)];exact(h.zf hd l d).2 R
 . by_cases e:i=A.b+j
   . subst e;rw[z]
     have:=h.gL (A.b+j);simp only[aj.set,A.d1,A.d3,zj A.d4,A.d6,aaH];exact this
   by_cases G:i=Z.lk
   . subst G;rw[B];exact⟨λ_=>rfl,rfl⟩
   . rw[eO i e G];exact h.gL i
 . by_cases e:i=A.b+j
   . subst e
     exact⟨g λi=>(h.eG i).1,g λi=>(h.eG i).2.1,g λi=>(h.eG i).2.2.1,g λi=>(h.eG i).2.2.2⟩
   . rw[N i e];exact h.eG i
 . by_cases e:i=A.b+j
   . subst e;rw[z]at D
     simp only[aj.set,aaO,kn]at D;exact⟨j,p,hj,rfl,by rw[aW];exact F,D.symm,λ_=>H.O0⟩
   by_cases G:i=Z.lk
   . subst G;rw[B]at D;cases D
   simp_all
 . by_cases e:l=j
   . subst e;rw[z];simp[aj.set]
   . rw[cD e,L l d]at k;cases k
 . have:=k j hj
   rw[aW,F]at this;cases this
 . rw[B]at U;exact absurd rfl U
 . have e:i≠A.b+j:=λe=>hb (e ▸ C)
   rw[N i e,eO i e d];exact h.Ds i d hb
end
section
variable{P:adI}{A:bN}{Fin:acZ}{Z:Base}{s:MS P}{f:Nat->Node P}{q:adC}{kk:adH}{OO:adG}{J M:adw}{gs:adf}{w:World}{t:Trace}{j:Nat}{g:adz}
variable(C:gF P A.nm)(X:gJ P A.nm)(F:mD P A.nm)
include C X F in
def PM  hZ  (H:bF (ck P A Fin Z hZ) Z s f q kk OO J M gs w t) (hj:j<A.n){Y}(S:s.w j=.lk .la Y) (hg:gs[A.b+j]?=some g) (b6:HI P A j (.lk .la Y) (kk (A.b+j)) (OO (A.b+j)) g)  sl :
 Goes P A Fin Z hZ s gs w t sl (A.b+j):=by
 have d:dc P A Z s kk OO J M gs.size w t:=H.ex;have B:=bh (P:=P) (A:=A) (Fin:=Fin) (Z:=Z) hZ;have r:(s.w j).kq=true:=by rw[S];rfl
 have w1:=iY r;have b7:(s.w j).pc=.held:=by rw[S];rfl
 have hb:=A.hb;have o:A.b+j≠Z.lk:=by omega
 have b8:(A.b+j==0)=false:=by simp;omega
 have U:∀l,l<A.n->(s.w l).owns=false:=λl E=>by
  cases e:(s.w l).owns with
  |false=>rfl
  |true=>obtain rfl:=DC d.I hj b7 E e;rw[S]at e;cases e
 have L:∀i,OO i A.fb=none:=λi=>by
  cases e:OO i A.fb with
  |none=>rfl
  |some y=>obtain⟨l,_,E,_,ho,_⟩:=d.tok i y e;rw[U l E]at ho;cases ho
 obtain⟨xo,a,a9,b9,bm⟩:=d.OY U;obtain⟨kind,c,rest,e,hk,hM,hm,hO,al,bq,hN⟩:=b6;obtain⟨cc,ee,av⟩:=d.vm
 have ax:e=(ee,cc.size):=by have hs:=(H.cS.sat (A.b+j)).sh _ _ al;simp only[World.shape?,av]at hs;exact(abd hs).symm
 obtain⟨p,V,ay⟩:∃p,A.Tk j p/\∀n v,p n=some v->A.dir=true/\n=A.cell j/\cc[n]?=some v:=by
  unfold bN.Tk
  by_cases hd:A.dir=true
  . have:=bq hd
    rw[ax]at this;refine⟨λi=>if i=A.cell j then some cc[A.cell j]else none,by rw[aaK hd];exact⟨_,rfl⟩,λn v G=>?_⟩
    simp only at G;split at G
    . next e=>subst e;exact⟨hd,rfl,by rw[<-G];exact aba this⟩
    . cases G
  . exact⟨LU,by rw[aaJ hd],λn v G=>by cases G⟩
 have aC:(kk Z.lk).Le ((kk (A.b+j)).join (kk Z.lk)):=ar.xp (H.cS.sat (A.b+j)) (H.cS.sat Z.lk);have u:=hN ((kk (A.b+j)).join (kk Z.lk)) xo a p (ar.sM _ _) (b9.mono aC) bm (H.cS.jy Z.lk (A.b+j) _ _ (zj o) a9) V;obtain⟨g1,aE,hr,g2,aL,hA⟩:=Hw (Wd:=λ_=>True) (main:=false) (w:=w) C X hM
 obtain⟨k,bw⟩:=aL.trans (sW F hA hk);rw[<-d.la]at aE;have W:ja kk Z.lk (A.b+j) (A.b+j)=(kk (A.b+j)).join (kk Z.lk):=ao _ _ _;have bA:kU A Z OO (A.b+j) xo p (A.b+j)=((OO (A.b+j)).set A.mb xo).set A.fb (.part p):=by unfold kU iE;rw[ao,au _ _ o,ao]
 rw[<-W,<-bA]at u;obtain⟨T,hU⟩:=TT.pre bw (Y.c _ _ _ u);obtain⟨x,hx⟩:∃x:bp P,x=.run true ⟨Y.m,ja kk Z.lk (A.b+j) (A.b+j),kU A Z OO (A.b+j) xo p (A.b+j),_,Y.c _ _ _ u⟩:=⟨_,rfl⟩;have w2:x.work=true:=by rw[hx];rfl
 have z:∀sh,((s.aV j x sh).w j)=.run true ⟨Y.m,ja kk Z.lk (A.b+j) (A.b+j),kU A Z OO (A.b+j) xo p (A.b+j),_,Y.c _ _ _ u⟩:=λsh=>by rw[aW,hx]
 have aO:=runT_crowd_go (P:=P) (sl:=sl) (i:=A.b+j) hg (by rw[b8];exact aE)
 have b0:=iZ (P:=P) (A:=A) (s:=s) hj r
 have K:Deaf t (A.b+j)=0:=by obtain⟨_,_,K,_⟩:=H.walk _ b0;rw[K];show dO P A s (A.b+j)=0;rw[eS hj,S];rfl
 have Q:bU P A s (A.b+j):=iN d.I hj (bD w1).2.2.2.2.1;have hJ:J (A.b+j):=(d.hJ _).2 (wi hj (bD w1).2.2.2.2.2.1);have b1:∀op∈MemOp.ofEvents (A.b+j) g.frame.fn g.frame.place #[⟨.mark (.acquire Z.la),false,true⟩],op.g=A.b+j:=λop D=>by obtain⟨e,_,rfl⟩:=zR D;rfl
 have b2:∀op∈MemOp.ofEvents (A.b+j) g.frame.fn g.frame.place #[⟨.mark (.acquire Z.la),false,true⟩],op.act.touch?=none/\∀a,op.act≠.mark (.release a):=λop D=>by obtain⟨e,he,rfl⟩:=zR D;simp at he;subst he;exact⟨rfl,λa h=>by simp[MemAct.ofEvent]at h⟩
 have b3:A.fb<w.heap.size:=by obtain⟨c,e,r⟩:=d.vm;exact(zA.1 r).1
 have bB:=H.cS.U3 o a9 (λc hc=>(d.OZ c hc).1) (by rw[d.la];exact b3) K (λm a hm ha b4 hz=>d.old _ Q m a hm ha b4 hz) d.norel g.frame.fn g.frame.place
 have a7:∀l,iE OO Z.lk (A.b+j) A.mb xo l A.fb=none:=λl=>by
  unfold iE
  by_cases e1:l=Z.lk
  . subst e1;rw[ao];rfl
  by_cases e2:l=A.b+j
  . subst e2;rw[au _ _ e1,ao];simp only[aj.set,A.d5,aaH];exact L _
  . rw[au _ _ e1,au _ _ e2];exact L _
 have b5:A.dir=true->(∀i,(kk i).cell A.fb (A.cell j)=none)/\∀m a R,touchAt t m=some a->a.loc=.cell R->R.block=A.fb/\R.off=A.cell j->m<Z.N0:=λhd=>(d.zf hd j hj).1 (by rw[S];rfl)
 have a8:∀n,p n≠none->A.dir=true/\n=A.cell j:=λn hn=>V.O0 hn
 have hP:=bB.Ul (f:=p) o a7 (λn v G i=>by
  obtain⟨hd,rfl,_⟩:=ay n v G;have r:=(b5 hd).1
  by_cases ei:i=A.b+j
  . subst ei
    rw[W];cases q:((kk (A.b+j)).join (kk Z.lk)).cell A.fb (A.cell j)with
    |none=>rfl
    |some v=>rcases ar.nJ q with h|h<;>rw[r]at h<;>cases h
  . unfold ja;rw[au _ _ ei];exact r i) (λR r h2=>d.jV R ⟨r,.inr (.inr ⟨(a8 _ h2).1,j,hj,(a8 _ h2).2⟩)⟩) (by
  refine⟨cc,ee,av,?_,λn v G=>(ay n v G).2.2⟩
  rw[W];refine(ar.sM _ _).2 _ _ ?_;rw[al,ax]) (λm a R ha E r h2=>by
  obtain⟨hd,h3⟩:=a8 _ h2
  rcases dV ha with⟨h4,_⟩|⟨op,D,h4⟩
  . exact(d.old _ Q m a ((b5 hd).2 m a R h4 E ⟨r,h3⟩) h4 (by rw[E];rfl) (by rw[E];exact d.jV R ⟨r,.inr (.inr ⟨hd,j,hj,h3⟩)⟩)).app _
  . rw[(b2 op D).1]at h4;cases h4) d.fy.2.1
 have hI:bQ A.n (s.aV j x s.sh):=d.I.still hj w1 w2 (by rw[hx];rfl) (by rw[hx,S];rfl)
 have hL:MS.gu A.n (s.aV j x s.sh) s:=BV hj w1 w2 ⟨_,_,by rw[hx];rfl,by rw[S];rfl,.single (pF.dh Y.N Y.h0 Y.ht Y.c u)⟩
 have c5:=d.take (xo:=xo) V hZ hj w1 w2 U (by rw[hx];rfl) hI b2
 have c6:Beside (ck P A Fin Z hZ) s (s.aV j x s.sh) f (bT f (A.b+j) ⟨Y.m,ja kk Z.lk (A.b+j) (A.b+j),kU A Z OO (A.b+j) xo p (A.b+j),g1,T⟩) q q kk (ja kk Z.lk (A.b+j)) OO (kU A Z OO (A.b+j) xo p) J J w (A.b+j) g g1:=mN hZ hj w1 w2 (λi hi=>au _ _ hi) (λi hi=>rfl) (λi hi _=>au _ _ hi) (λi hi ht=>by unfold kU iE;rw[au _ _ hi,au _ _ (show i≠Z.lk by omega),au _ _ hi]) (λ_ h=>h) (.inl λh=>h) (λ{i k O y} hA=>B.kT (s:=s) (i:=i) (k:=k) (O:=O) (g:=y) hA)
 refine⟨_,_,aO,s.aV j x s.sh,bT f (A.b+j) ⟨Y.m,ja kk Z.lk (A.b+j) (A.b+j),kU A Z OO (A.b+j) xo p (A.b+j),g1,T⟩,q,ja kk Z.lk (A.b+j),kU A Z OO (A.b+j) xo p,J,M,_,_,_,rfl,hL,?_⟩;refine bF.step B H hg b1 hP c5 (λl y E hA=>?_) c6 ⟨λ_=>?_,λh=>absurd h (uy hj (z _)),λh=>absurd h (jW hj (z _)),λh=>absurd (kr hj (z _)) h⟩
 . have c7:l≠A.b+j:=λe=>(H.held l E).2.1 (by rw[e];exact b0)
   exact B.sR d E _ _ hA
 . rw[ao]
   refine⟨by show A.b+j<A.b+A.n+1;omega,rfl,?_,rfl,rfl,hr,?_,.inr hJ,λl b X' h3 h4 h5=>?_⟩
   . show Y.m=cK P A Fin (s.aV j x s.sh) (A.b+j)
     rw[nO hj (z _)];exact hm
   . rw[Deaf_own,K];rfl
   . obtain rfl:l=j:=by omega
     rw[z]at h5;cases h5;exact hU
end

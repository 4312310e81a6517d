import Derived.Conc.CrowdComm
import Derived.Test.YtkcceaplmgdnfaaGreatDoorC9
set_option linter.all false
namespace Go.cz
section
open Go.Conc
open Go.ConcN (sumTo upd sumTo_upd upd_ne upd_same)
structure bL where
 b:Nat
 n:Nat
 cl:Nat
 cF:Nat
 fb:Nat
 fo:Nat
 gb:Nat
 mb:Nat
 GI:rk->Prop
 res:Nat->AV
 val:Nat->Value
 nm:Co
 ng:Om
 hb:0<b/\(cl=0\/cl=b+n)
 hn:n<=900
 d1:cF≠fb
 d2:cF≠gb
 d3:cF≠mb
 d4:fb≠gb
 d5:fb≠mb
 d6:gb≠mb
def bL.dir(A:bL):Bool:=A.cl==0
def bL.cell(A:bL)(j:Nat):Nat:=A.fo+2+j
def KC{A:bL}(h:A.dir=true):A.cl=0:=by simpa[bL.dir]using h
def uV{A:bL}(h:A.dir=false):A.cl=A.b+A.n:=by have:=A.hb;simp[bL.dir]at h;omega
def gE:abL:=λ_ _ _=>False
def KG:Nat->abX:=λ_=>none
def bL.Tk(A:bL)(j:Nat)(f:Nat->abX):Prop:=if A.dir then ∃v,f=λi=>if i=A.cell j then some v else none else f=KG
def bH(fo:Nat):Nat->abX:=λi=>if i=fo then some (.int .i32 0)else if i=fo+1 then some (.int .u32 0)else none
section
variable(P:acw)(A:bL)(Fin:abL)
def PX(j:Nat)(k:ao)(O:aj)(g:ack)(N:abL):Prop:=
 ∃ kind c rest e,kind≠.early/\g=G (Frame.enter P A.nm.lock #[.pointer (some ⟨A.fb,A.fo,none⟩)] kind) (c::rest)/\O A.fb=none/\k.sh A.fb=some e/\(A.dir=true->A.cell j<e.2)/\
   ∀b x a f,k.Le b->j7 b x a->A.GI a->O A.mb=none->A.Tk j f->N b ((O.set A.mb x).set A.fb (.part f)) (jL kind c rest (.tuple #[]))
def GD(j:Nat)(k:ao)(O:aj)(g:ack)(N:abL):Prop:=
 ∃ kind c rest f x a,kind≠.early/\g=G (Frame.enter P A.nm.unlock #[.pointer (some ⟨A.fb,A.fo,none⟩)] kind) (c::rest)/\O A.fb=some (.part f)/\O A.mb=some x/\j7 k x a/\A.GI a/\(A.dir=true->k.cell A.fb (A.cell j)=some (A.val j))/\
   N k ((O.del A.mb).del A.fb) (jL kind c rest (.tuple #[]))
def kH:Mo:=⟨false,false,λk O g N=>N=gE/\∃a fn tmps todo,P.funcs[a]?=some fn/\fn.results=#[]/\g=G (Frame.enter P A.ng.done #[.pointer (some ⟨A.gb,0,none⟩)] .deferred) [ki P a tmps todo,cD P]⟩
def Ek(N:abL):abL:=if A.dir then T P (kH P A) gE else N
def ib(j:Nat):Mo:=⟨false,false,λk O g N=>PX P A j k O g N\/GD P A j k O g (Ek P A N)\/(A.dir=false/\N=gE/\O A.fb=none/\∃a z v,(∀w,Sat k O w->stepG P false g w=.comm a #[scase A.cF v z] true .send w #[])/\V k v (A.res j)/\T P (kH P A) gE k O (Go.Conc.served a undef))⟩
def rD:Mo:=⟨false,false,λk O g N=>N=gE/\∃a n,mayWake P g=true/\(∀w s r b,Sat k O w->w.heap[A.cF]?=some (.chan 0 #[] false s r b)->stepG P false g w=.go a {w with heap:=w.heap.setIfInBounds A.cF (.chan 0 #[] true s r b)} #[⟨.obj A.cF,false,true⟩,⟨.obj A.cF,true,true⟩])/\QuitsD P n 0 a⟩
def wZ:Mo:=⟨false,false,λk O g N=>N=gE/\∃c rest,g=G (Frame.enter P A.ng.wait #[.pointer (some ⟨A.gb,0,none⟩)] .normal) (c::rest)/\∀a,k.Le a->T P (rD P A) gE a O (jL .normal c rest (.tuple #[]))⟩
def TD(k:ao)(O:aj)(c:Frame)(rest:acf):Prop:=(∃e,k.sh A.fb=some e)/\∀b x a,k.Le b->(∀j,j<A.n->b.cell A.fb (A.cell j)=some (A.val j))->j7 b x a->A.GI a->Fin b ((O.set A.mb x).set A.fb (.part (bH A.fo))) (jL .normal c rest (.tuple #[]))
def dH(k:ao)(O:aj)(g a:ack)(z:Value):Prop:=∀w,Sat k O w->stepG P true g w=.comm a #[rcase A.cF z] true (.recv true) w #[]
def qU:Nat->acn->Mo
 | 0,R=>⟨true,false,λk O g N=>N=gE/\∃b z,dH P A k O g b z/\dH P A k O b b z/\b.status=.running/\(∃e,k.sh A.fb=some e)/\
    ∀c x a,k.Le c->j7 c x a->A.GI a->Fin c ((O.set A.mb x).set A.fb (.part (bH A.fo))) (Go.Conc.served b (.tuple #[z,.bool false]))⟩
 | m + 1,R=>⟨true,false,λk O g N=>N=gE/\∃b z,dH P A k O g b z/\dH P A k O b b z/\b.status=.running/\
     ∀j∈R,∀c v,k.Le c->V c v (A.res j)->T P (qU m (R.erase j)) gE c O (Go.Conc.served b (.tuple #[v,.bool true]))⟩
def oQ:Nat->Mo
 |0=>if A.dir then⟨true,false,λk O g N=>N=gE/\∃c rest,g=G (Frame.enter P A.ng.wait #[.pointer (some ⟨A.gb,0,none⟩)] .normal) (c::rest)/\TD A Fin k O c rest⟩else⟨true,false,λk O g N=>N=gE/\∃a child,(∀w,Sat k O w->stepG P true g w=.spawn a child w #[])/\T P (wZ P A) gE k aj.bot child/\T P (qU P A Fin A.n (List.range A.n)) gE k O a⟩
 | m + 1=>⟨true,false,λk O g N=>N=gE/\∃c rest,g=G (Frame.enter P A.ng.add #[.pointer (some ⟨A.gb,0,none⟩),.int .i64 1] .normal) (c::rest)/\
     T P ⟨true,false,λk O g N=>N=gE/\∃a child,(∀w,Sat k O w->stepG P true g w=.spawn a child w #[])/\T P (ib P A (A.n-(m+1))) gE k aj.bot child/\T P (oQ m) gE k O a⟩ gE k O (jL .normal c rest (.tuple #[]))⟩
def EP(m:Nat):Mo:=⟨true,false,λk O g N=>N=gE/\∃a child,(∀w,Sat k O w->stepG P true g w=.spawn a child w #[])/\T P (ib P A (A.n-(m+1))) gE k aj.bot child/\T P (oQ P A Fin m) gE k O a⟩
structure HR where
 m:Mo
 k:ao
 O:aj
 g:ack
 N:abL
 h0:g.status=.running
 ht:m.c8 k O g N
 c:∀k' O' g',N k' O' g'->TT P m k' O' g'
variable {P} in
def HR.node(y:HR P):Node P:=⟨y.m,y.k,y.O,y.g,.c8 y.N y.h0 y.ht y.c⟩
inductive bo where
 |idle
 |run (h:Bool) (X:Node P)
 |lk (p:AX) (Y:HR P)
 |un (p:AX) (Y:HR P)
 |wait
 |yv
 |dn (p:GB)
 |gone
inductive jE where
 |none|eh|wt (p:GB)|jf|gone
inductive o0 where
 |add (j:Nat)|bz (j:Nat) (p:GB)|spawn (j:Nat)|recv|parked|off
structure MS where
 d:Bool
 ms:o0
 sp:Nat
 w:Nat->bo P
 c:jE
 sh:Mu.Sh
 gc:Nat
 gv:Nat
 gm:Nat
def AX.abs:AX->Mu.Pc
 |.ld=>.out|.hQ=>.hQ|.rd l=>.rd l|.sq o l=>.sq o l|.sw o l=>.sw o l|.jZ o l=>.jZ o l|.t1 sv=>.gi sv|.gi sv=>.gi sv|.tq=>.tq|.up sv=>.up sv|.add o sv=>.add o sv
 |.le=>.held|.la=>.held|.back=>.held|.Gq=>.held|.ur=>.held|.ud=>.held|.held=>.held|.iU o=>.iU o|.vp=>.vp|.give=>.give|.ue=>.out|.Ct=>.out
variable{P}
def bo.pc:bo P->Mu.Pc
 |.run true _=>.held
 |.lk p _=>p.abs
 |.un p _=>p.abs
 |_=>.out
def bo.owns:bo P->Bool
 |.run h _=>h
 |.un .Gq _=>true
 |.un .ur _=>true
 |_=>false
def Cv:AX->Bool
 |.ld=>true|.hQ=>true|.rd _=>true|.sq ..=>true|.sw ..=>true|.jZ ..=>true|.t1 _=>true|.gi _=>true|.tq=>true|.up _=>true|.add ..=>true|.le=>true|.la=>true
 |_=>false
def yJ:AX->Bool
 |.Gq=>true|.ur=>true|.ud=>true|.held=>true|.iU _=>true|.vp=>true|.give=>true|.ue=>true
 |_=>false
def bo.deaf:bo P->Nat
 |.lk .ld _=>0|.lk .la _=>0|.lk _ _=>1
 |.un .Gq _=>0|.un .ur _=>0|.un .ud _=>0|.un _ _=>1
 |.dn .d1=>0|.dn .d2=>0|.dn _=>1
 |_=>0
def sG:GB->Nat
 |.a0=>0|.a2=>1|.a4=>1|.ae=>1
 |.w0=>0|.w1=>1|.we=>1|.wa=>0|.w2 _=>1|.w3=>1|.w4=>1|.w5=>1
 |_=>0
def bo.cq:bo P->Nat
 |.idle=>0|.run ..=>20|.lk ..=>20|.un ..=>20|.wait=>19|.yv=>18
 |.dn .d1=>12|.dn .d2=>11|.dn .d4=>10|.dn .d5=>4|.dn .d6=>3|.dn _=>2|.gone=>0
def jE.cq(gc:Nat):jE->Nat
 |.none=>0|.eh=>14
 |.wt .w0=>13|.wt .w1=>10|.wt (.w2 k)=>if gc=k then 9 else 11|.wt .w3=>8|.wt .w4=>7|.wt .w5=>6|.wt .we=>5|.wt _=>4
 |.jf=>3|.gone=>0
def o0.cq:o0->Nat
 |.add j=>40*j+200|.bz j .a0=>40*j+199|.bz j .a2=>40*j+198|.bz j .a4=>40*j+197|.bz j _=>40*j+196
 |.spawn j=>40*j+225|.recv=>100|.parked=>99|.off=>0
def MS.cq(n:Nat)(s:MS P):Nat:=s.ms.cq+sumTo n (λj=>(s.w j).cq)+s.c.cq s.gc
def Bc(n:Nat):Nat:=4*(6*(18*n+1)+16)+20
def bo.ex(n:Nat):bo P->Nat
 |.run ..=>2*Bc n|.lk .ld _=>Bc n|.lk (.t1 _) _=>1|.lk .le _=>2|.lk .la _=>1
 |.un .Gq _=>5|.un .ur _=>4|.un .ud _=>3|.un .ue _=>1|_=>0
def MS.inner(n:Nat)(s:MS P):Nat:=4*Mu.meas n (λj=>(s.w j).pc) s.sh+sumTo n (λj=>(s.w j).ex n)
def bo.nd:bo P->Option (Node P)
 |.run _ X=>some X|.lk _ Y=>some Y.node|.un _ Y=>some Y.node|_=>none
end
def HS{P}(a b:Option (Node P)):Prop:=∃x y,a=some x/\b=some y/\Relation.TransGen oY x y
def KH{P}:∀a:Option (Node P),Acc HS a:=by
 have key:∀x:Node P,Acc (Relation.TransGen oY) x->Acc HS (some x):=by
  intro x b;induction b with
  |intro x _ c=>exact⟨_,λy ⟨u,v,d,f,h⟩=>by simp_all⟩
 intro a;cases a with
 |none=>exact⟨_,λy ⟨u,v,_,e,_⟩=>by cases e⟩
 |some x=>exact key x ((WellFounded.intro Cl).transGen.apply x)
def KI{α:Type}(R:α->α->Prop)(n:Nat)(f' f:Nat->α):Prop:=∃i,i<n/\(∀j,j≠i->f' j=f j)/\R (f' i) (f i)
def Cw{α R}(d:∀a,Acc R a):∀  n  (f:Nat->α),Acc (KI R n) f
 |0,f=>⟨_,λy ⟨i,e,_⟩=>by omega⟩
 | n + 1,f=>by
   have key:∀x:α,Acc R x->∀f:Nat->α,f n=x->Acc (KI R (n+1)) f:=by
    intro x g;induction g with
    | intro x _ h=>
      intro f m;have j:=Cw d n f;induction j with
      | intro f _ b=>
        refine⟨_,λf' ⟨i,e,c,k⟩=>?_⟩;by_cases l:i=n
        . grind
        . exact b f' ⟨i,by omega,c,k⟩ (by grind)
   simp_all
def MS.fU{P}(n:Nat)(s' s:MS P):Prop:=s'.cq n<s.cq n\/(s'.cq n=s.cq n/\(KI HS n (λj=>(s'.w j).nd) (λj=>(s.w j).nd)\/((λj=>(s'.w j).nd)=(λj=>(s.w j).nd)/\s'.inner n<s.inner n)))
def Ot{P}  n :WellFounded (MS.fU (P:=P) n):=by
 have c:WellFounded (KI (HS (P:=P)) n):=⟨Cw KH n⟩;have d:=(Prod.lex ⟨Nat.lt,Nat.lt_wfRel.wf⟩ (Prod.lex ⟨KI (HS (P:=P)) n,c⟩ ⟨Nat.lt,Nat.lt_wfRel.wf⟩)).wf;refine Subrelation.wf (r:=InvImage _ (λs:MS P=>(s.cq n,(λj=>(s.w j).nd),s.inner n))) ?_ (InvImage.wf _ d);intro s' s h;rcases h with h|⟨h,b|⟨b,a⟩⟩
 . exact Prod.Lex.left _ _ h
 . show Prod.Lex _ _ (_,_) (_,_)
   grind
 . show Prod.Lex _ _ (_,_) (_,_)
   rw[h,b];exact Prod.Lex.right _ (Prod.Lex.right _ a)
section
variable{P:acw}
def bo.iz:bo P->Bool
 |.yv=>true|.dn _=>true|.gone=>true|_=>false
def bo.ig:bo P->Bool
 |.idle=>false|.run h _=>h|.lk ..=>false|_=>true
def bo.rel(x:bo P):Bool:=x.ig && !x.owns
def bo.cnt:bo P->Nat
 |.run ..=>1|.lk ..=>1|.un ..=>1|.wait=>1|.yv=>1|.dn .d1=>1|.dn .d2=>1|.dn .d4=>1|_=>0
def bo.busy:bo P->Bool
 |.run ..=>true|.lk ..=>true|.un ..=>true|.wait=>true|.yv=>true|.dn .d1=>true|_=>false
def bo.last:bo P->Bool
 |.dn .d5=>true|.dn .d6=>true|.dn .d7=>true|_=>false
def bo.jg:bo P->Bool
 |.idle=>true|_=>false
def bo.ok:bo P->Bool
 |.lk p _=>Cv p
 |.un p _=>yJ p
 |.dn p=>(match p with|.d1=>true|.d2=>true|.d4=>true|.d5=>true|.d6=>true|.d7=>true|_=>false)
 |_=>true
def jE.busy:jE->Bool
 |.eh=>true|.wt _=>true|.jf=>true|_=>false
def jE.ok:jE->Bool
 |.wt p=>(match p with|.w0=>true|.w1=>true|.w2 _=>true|.w3=>true|.w4=>true|.w5=>true|.we=>true|.wa=>true|_=>false)
 |_=>true
def jE.waits:jE->Bool
 |.wt .w3=>true|.wt .w4=>true|_=>false
def jE.KJ:jE->Bool
 |.wt .w5=>true|.wt .we=>true|.wt .wa=>true|.jf=>true|.gone=>true|_=>false
def jE.isNone:jE->Bool
 |.none=>true|_=>false
def jE.eu:jE->Bool
 |.gone=>true|_=>false
def o0.pend:o0->Nat
 |.bz _ .a4=>1|.bz _ .ae=>1|.spawn _=>1|_=>0
structure bP(n:Nat)(s:MS P):Prop where
 g1:s.gc=sumTo n (λj=>(s.w j).cnt)+s.ms.pend
 g2:s.gv<=1
 ER:s.gv=1->s.c.waits=true/\s.gm=0
 g3:∀j,j<n->(s.w j=.dn .d5\/s.w j=.dn .d6)->s.gv=1/\s.gc=0
 GF:∀i j,i<n->j<n->(s.w i).last=true->(s.w j).last=true->i=j
 g4:∀j,j<n->s.w j=.dn .d7->s.gv=0/\s.gc=0/\s.gm=0/\s.c.waits=true
 g5:s.gm<=1/\(s.gm=1->s.c.waits=true/\s.gv=0/\s.gc=0/\∀j,j<n->(s.w j).last=false)
 g6:s.c.waits=true->s.gv=0->s.gm=0->∃j,j<n/\s.w j=.dn .d7
 g7:s.gv=1->s.gc=0->∃j,j<n/\(s.w j=.dn .d5\/s.w j=.dn .d6)
 g8:s.c.KJ=true->s.gc=0/\s.gv=0/\s.gm=0/\∀j,j<n->s.w j=.gone
 g9:∀k,s.c=.wt (.w2 k)->k≠0
 ok:∀j,j<n->(s.w j).ok=true
 Sl:s.c.ok=true
 sp:s.sp<=n
 idle:∀j,j<n->((s.w j).jg=true↔s.sp<=j)
 ms:match s.ms with
  |.add j=>s.sp+j=n/\s.c=.none
  |.bz j p=>s.sp+j=n/\s.c=.none/\1<=j/\(p=.a0\/p=.a2\/p=.a4\/p=.ae)
  |.spawn j=>s.sp+j+1=n/\s.c=.none
  |.recv=>s.sp=n/\s.c≠.none
  |.parked=>s.sp=n/\s.c≠.none/\s.c≠.gone/\∀j,j<n->s.w j≠.wait
  |.off=>s.sp=n/\s.c≠.none
 early:s.d=false->s.c=.none->∀j,j<n->(s.w j).iz=false
 mu:Mu.Inv n (λj=>(s.w j).pc) s.sh
end
variable(P:acw)(A:bL)(Fin:abL)
def MS.rem(n:Nat)(s:MS P):acn:=(List.range n).filter λj=>!(s.w j).iz
def dw(s:MS P)(i:Nat):Prop:=(i=0/\(match s.ms with|.add _=>True|.spawn _=>True|.recv=>True|_=>False))\/(∃j,j<A.n/\i=A.b+j/\(match s.w j with|.run ..=>True|.yv=>True|_=>False))\/(i=A.cl/\(match s.c with|.eh=>True|.jf=>True|_=>False))
def ga(s:MS P)(i:Nat):Prop:=(i=0/\(match s.ms with|.bz ..=>True|_=>False))\/(∃j,j<A.n/\i=A.b+j/\(match s.w j with|.lk ..=>True|.un ..=>True|.dn _=>True|_=>False))\/(i=A.cl/\(match s.c with|.wt _=>True|_=>False))
def fe(s:MS P)(i:Nat):Prop:=(i=0/\s.ms=.parked)\/(∃j,j<A.n/\i=A.b+j/\s.w j=.wait)
def cB(s:MS P)(i:Nat):Mo:=
 if i=0 then(match s.ms with|.add j=>oQ P A Fin j|.spawn j=>EP P A Fin j|_=>qU P A Fin (MS.rem P A.n s).length (MS.rem P A.n s))
 else if i<A.b+A.n then(match s.w (i-A.b)with|.run ..=>ib P A (i-A.b)|_=>kH P A)else(match s.c with|.eh=>wZ P A|_=>rD P A)
def ES(s:MS P)(i:Nat):(cB P A Fin s i).main=(i==0):=by
 have c:∀m R,(qU P A Fin m R).main=true:=λm R=>by cases m<;>rfl
 have b:∀m,(oQ P A Fin m).main=true:=λm=>by
  cases m with
  |zero=>unfold oQ;grind
  |succ m=>rfl
 unfold cB;by_cases a:i=0
 . subst a
   simp only[ZD,beq_self_eq_true];split
   . exact b _
   . rfl
   simp_all
 . have:(i==0)=false:=by simp_all
   rw[ZB a,this];split
   . split<;>rfl
   . split<;>rfl
def GG(j:Nat)(x:bo P)(k:ao)(O:aj)(g:ack):Prop:=
 match x with
 |.lk p Y=>∃kind c rest e,kind≠.early/\nM P A.nm A.fb A.fo kind p (c::rest) g/\Y.m=ib P A j/\O A.fb=none/\k.sh A.fb=some e/\(A.dir=true->A.cell j<e.2)/\∀b x a f,k.Le b->j7 b x a->A.GI a->O A.mb=none->A.Tk j f->Y.N b ((O.set A.mb x).set A.fb (.part f)) (jL kind c rest (.tuple #[]))
 | .un p Y=>∃kind c rest,kind≠.early/\nM P A.nm A.fb A.fo kind p (c::rest) g/\Y.m=ib P A j/\
    ((p=.Gq\/p=.ur)->∃f x a,O A.fb=some (.part f)/\O A.mb=some x/\j7 k x a/\A.GI a/\(A.dir=true->k.cell A.fb (A.cell j)=some (A.val j))/\Ek P A Y.N k ((O.del A.mb).del A.fb) (jL kind c rest (.tuple #[])))/\
    (¬(p=.Gq\/p=.ur)->Ek P A Y.N k O (jL kind c rest (.tuple #[])))
 |.dn p=>∃d fn tmps todo,P.funcs[d]?=some fn/\fn.results=#[]/\qS P A.ng A.gb .deferred p [ki P d tmps todo,cD P] g
 |_=>False
def Sm(x:jE)(k:ao)(O:aj)(g:ack):Prop:=
 match x with
 |.wt p=>∃c rest,qS P A.ng A.gb .normal p (c::rest) g/\if A.dir then TD A Fin k O c rest else ∀a,k.Le a->T P (rD P A) gE a O (jL .normal c rest (.tuple #[]))
 |_=>False
def Ve(x:o0)(k:ao)(O:aj)(g:ack):Prop:=
 match x with
 |.bz j p=>∃c rest,qS P A.ng A.gb .normal p (c::rest) g/\T P (EP P A Fin (j-1)) gE k O (jL .normal c rest (.tuple #[]))
 |_=>False
def TE(s:MS P)(i:Nat)(k:ao)(O:aj)(g:ack):Prop:=(i=0/\Ve P A Fin s.ms k O g)\/(∃j,j<A.n/\i=A.b+j/\GG P A j (s.w j) k O g)\/(i=A.cl/\Sm P A Fin s.c k O g)
def QQ(s:MS P)(i:Nat):Prop:=(∃j sv Y,j<A.n/\i=A.b+j/\s.w j=.lk (.gi sv) Y/\s.sh.ms=0)\/(i=A.cl/\s.c=.wt .w4/\s.gm=0)
def VY(s:MS P)(i:Nat)(k:ao)(O:aj)(g:ack):Prop:=
 (i=0/\∃a z,g=parked a #[rcase A.cF z] (.recv true)/\dH P A k O a a z/\a.status=.running/\(qU P A Fin (MS.rem P A.n s).length (MS.rem P A.n s)).c8 k O a gE)\/
 (∃j,j<A.n/\i=A.b+j/\∃a z v,g=parked a #[scase A.cF v z] .send/\V k v (A.res j)/\O A.fb=none/\T P (kH P A) gE k O (Go.Conc.served a undef)/\A.dir=false)
def dI(s:MS P)(i:Nat):Nat:=
 if i=0 then(match s.ms with|.bz _ p=>sG p|.off=>(match s.c with|.wt p=>sG p|_=>0)|_=>0)
 else if i<A.b+A.n then(s.w (i-A.b)).deaf else(match s.c with|.wt p=>sG p|_=>0)
def kI(w:World):Prop:=(∃v,w.cell? ⟨A.gb,0,none⟩=some v)/\(∃v,w.cell? ⟨A.gb,1,none⟩=some v)/\∃v,w.cell? ⟨A.fb,A.fo,none⟩=some v
def yw(A:bL):Loc->Prop
 |.cell a=>a.spot=none/\((a.block=A.fb/\(a.off=A.fo\/a.off=A.fo+1))\/(a.block=A.gb/\(a.off=0\/a.off=1)))
 |.obj r=>r=A.cF/\A.dir=false
 |_=>False
def dT(s:MS P)(i:Nat):Prop:=(∃j,j<A.n/\i=A.b+j/\(s.w j).busy=true)\/(i=A.cl/\s.c.busy=true)
def bR(s:MS P)(i:Nat):Prop:=i=0\/(∃j,j<s.sp/\i=A.b+j)\/(i=A.cl/\s.c≠.none)
abbrev vv(s:MS P):Prop:=(A.dir=true->s.c≠.none->s.ms=.off)/\(A.dir=true->s.ms≠.recv/\s.ms≠.parked/\s.c≠.eh/\s.c≠.jf/\s.c≠.gone)/\(A.dir=false->s.ms≠.off)
structure cV(Z:Base)(s:MS P)(kk:acv)(OO:acu)(J M:ach)(gsz:Nat)(w:World)(t:Trace):Prop where
 I:bP A.n s
 size:gsz=A.b+s.sp+(if s.c.isNone||A.dir then 0 else 1)
 dd:s.d=A.dir
 off:vv P A s
 yx:A.dir=true->∀j,j<A.n->((s.w j).ig=false->(∀i,(kk i).cell A.fb (A.cell j)=none)/\∀m a ad,touchAt t m=some a->a.loc=.cell ad->ad.block=A.fb/\ad.off=A.cell j->m<Z.N0)/\((s.w j).rel=true->(kk (A.b+j)).cell A.fb (A.cell j)=some (A.val j))
 zx:A.dir=false->∃x tm,w.heap[A.cF]?=some (.chan 0 #[] s.c.eu x x tm)
 mu:ShM A.fb A.fo w s.sh
 gr:qR A.gb w s.gc s.gv s.gm
 uW:∃c e,w.heap[A.fb]?=some (.cells c e (0,0))
 yK:∃c e,w.heap[A.gb]?=some (.cells c e (0,0))
 gg:∀i,(A.dir=false->OO i A.cF=none)/\OO i A.gb=none
 eo:∀i,(kk i).cell A.fb A.fo=none/\(kk i).cell A.fb (A.fo+1)=none/\(kk i).cell A.gb 0=none/\(kk i).cell A.gb 1=none
 tok:∀i x,OO i A.fb=some x->∃j f,j<A.n/\i=A.b+j/\(s.w j).owns=true/\x=.part f/\∀l,f l≠none->A.dir=true/\l=A.cell j
 yL:∀j,j<A.n->(s.w j).owns=true->OO (A.b+j) A.fb≠none
 NQ:(∀j,j<A.n->(s.w j).owns=false)->∃x a,OO Z.lk A.mb=some x/\j7 (kk Z.lk) x a/\A.GI a
 NR:∀c,OO Z.lk c≠none->c=A.mb/\∀j,j<A.n->(s.w j).owns=false
 hJ:∀i,J i↔dT P A s i
 hM:∀p,M p->t.heard p/\Z.N0<=p/\((t.act? p=some (.mark (.releaseMerge ⟨A.gb,0,none⟩))/\(s.c=.none\/s.c=.eh\/∃q,s.c=.wt q))\/(s.c=.gone/\t.act? p=some (.close A.cF)))
 shut:s.c=.gone->∃p,M p/\t.act? p=some (.close A.cF)/\t.heard p
 quiet:∀m a,touchAt t m=some a->yw A a.loc->a.kind=.plain->∀i,bR P A s i->Knows t i m
 said:∀m a,touchAt t m=some a->yw A a.loc->a.kind=.said->Knows t (if s.c.isNone then 0 else A.cl) m
 old:∀i,bR P A s i->∀m a,m<Z.N0->touchAt t m=some a->a.loc.isMemory=true -> ¬Z.Shun a.loc->Knows t i m
 norel:∀m a,Z.N0<=m->t.act? m≠some (.mark (.release a))
 Cx:∀i,i≠Z.lk -> ¬bR P A s i->kk i=ao.bot/\OO i=aj.bot
 su:∀a,yw A a->(∃c,a=.cell c/\c.block=A.gb)->Z.Shun a
 jF:∀c:Addr,c.block=A.fb/\(c.off=A.fo\/c.off=A.fo+1\/(A.dir=true/\∃j,j<A.n/\c.off=A.cell j)) -> ¬Z.Shun (.cell c)
 eT:(A.dir=false->Z.W0.heap.size<=A.cF)/\Z.W0.heap.size<=A.fb/\Z.W0.heap.size<=A.gb
 la:Z.la=⟨A.fb,A.fo,none⟩
 n0:Z.N0<=t.size
def Node.QR{P:acw}:Node P->Prop
 |⟨_,_,_,_,.c8 ..⟩=>True
 |_=>False
def uX{P:acw}(x X:Node P):Prop:=∀y,(y=x\/Relation.TransGen oY y x)->y.QR->(y=X\/Relation.TransGen oY y X)
def uX.sub{P:acw}{x y X:Node P}(h:uX x X)(a:oY y x):uX y X:=λz b c=>h z (b.elim (λe=>.inr (by rw[e];exact .single a)) (λe=>.inr (e.tail a))) c
def uX.refl{P:acw}(X:Node P):uX X X:=λy a _=>a
def Ou(s:MS P)(i:Nat)(x:Node P):Prop:=∀j h X,j<A.n->i=A.b+j->s.w j=.run h X->uX x X
def bX(Z:Base)(a:A.b+A.n+1<=Z.lk):qP P where
 S:=MS P
 r:=MS.fU A.n
 wf:=Ot A.n
 mo:=cB P A Fin
 main:=ES P A Fin
 top:=A.b+A.n+1
 lk:=Z.lk
 Tb:=a
 Live:=dw P A
 Walk:=ga P A
 At:=TE P A Fin
 zp:=QQ P A
 nY:=fe P A
 EE:=VY P A Fin
 deaf:=dI P A
 Wd:=kI A
 Ex:=cV P A Z
 Ob:=Ou P A
 tie:=λs i x y hs h j b X c d e=>(h j b X c d e).sub hs
end
section
open Go.Conc
open Go.ConcN (sumTo upd sumTo_upd upd_ne upd_same)
def xa{t}(u:Trace){p x}(h:t.act? p=some x)(b:t.heard p):(t++u).act? p=some x/\(t++u).heard p:=by have a:=lt_of_act? h;exact⟨by rw[act?_old a];exact h,(heard_old a).2 b⟩
structure Cy  b o  (w w':World):Prop where
 cell:∀l,l=o\/l=o+1->w'.cell? ⟨b,l,none⟩=w.cell? ⟨b,l,none⟩
 fz:∀l,w'.frozen? ⟨b,l,none⟩=w.frozen? ⟨b,l,none⟩
def Cy.of_heap{b o w w'}(h:w'.heap[b]?=w.heap[b]?):Cy b o w w':=⟨λl _=>by simp only[World.cell?,h],λl=>by simp only[World.frozen?,h]⟩
def ShM.same{b o w w' s}(h:ShM b o w s)(e:Cy b o w w'):ShM b o w' s:=⟨by rw[e.cell _ (.inl rfl)];exact h.cw,by rw[e.cell _ (.inr rfl)];exact h.cs,λi=>by rw[e.fz];exact h.fz i⟩
def qR.same{b w w' c v m}(h:qR b w c v m)(e:Cy b 0 w w'):qR b w' c v m:=⟨by rw[e.cell _ (.inl rfl)];exact h.cw,by rw[e.cell _ (.inr rfl)];exact h.cs,λi=>by rw[e.fz];exact h.fz i⟩
def dQ{t u m a}(h:touchAt (t++u) m=some a):(touchAt t m=some a/\m<t.size)\/∃op∈u,op.act.touch?=some a:=by
 obtain⟨x,d,b⟩:=touch_of h;rcases getElem?_append_cases d with⟨e,c⟩|⟨_,f⟩
 . exact .inl ⟨by rw[touchAt_of c];exact b,e⟩
 grind
def qu{t u:Trace}{m x}(h:(t++u).act? m=some x):(t.act? m=some x/\m<t.size)\/∃op∈u,op.act=x:=by
 unfold Trace.act? at h;obtain⟨y,b,rfl⟩:=ZJ.1 h;rcases getElem?_append_cases b with⟨c,a⟩|⟨_,d⟩
 . exact .inl ⟨by simp[Trace.act?,a],c⟩
 grind
section
variable{P:acw}{A:bL}{Fin:abL}{Z:Base}{s:MS P}{kk kk':acv}{OO OO':acu}{J M:ach}{gsz:Nat}{w w':World}{t:Trace}
def cV.jR(h:cV P A Z s kk OO J M gsz w t)  u  (j:∀op∈u,∀a,op.act.touch?=some a->yw A a.loc->a.kind≠.plain):∀m a,touchAt (t++u) m=some a->yw A a.loc->a.kind=.plain->∀i,bR P A s i->Knows (t++u) i m:=λm a c d e i f=>by
 rcases dQ c with⟨b,_⟩|⟨op,g,b⟩
 . exact(h.quiet m a b d e i f).app u
 grind
def cV.oc(h:cV P A Z s kk OO J M gsz w t)  u  (i:∀op∈u,∀a,op.act.touch?=some a->yw A a.loc->a.kind≠.said):∀m a,touchAt (t++u) m=some a->yw A a.loc->a.kind=.said->Knows (t++u) (if s.c.isNone then 0 else A.cl) m:=λm a d e f=>by
 rcases dQ d with⟨b,_⟩|⟨op,g,b⟩
 . exact(h.said m a b e f).app u
 grind
def cV.pD(h:cV P A Z s kk OO J M gsz w t)  u :∀i,bR P A s i->∀m a,m<Z.N0->touchAt (t++u) m=some a->a.loc.isMemory=true -> ¬Z.Shun a.loc->Knows (t++u) i m:=λi g m a e j b k=>by
 have c:m<t.size:=ZX e h.n0
 have l:touchAt t m=some a:=by obtain⟨x,f,d⟩:=touch_of j;rw[abv c]at f;rw[touchAt_of f];exact d
 exact(h.old i g m a e l b k).app u
def cV.jh(h:cV P A Z s kk OO J M gsz w t)  u  (f:∀op∈u,∀a,op.act≠.mark (.release a)):∀m a,Z.N0<=m->(t++u).act? m≠some (.mark (.release a)):=λm a c e=>by
 rcases qu e with⟨b,_⟩|⟨op,d,b⟩
 . exact h.norel m a c b
 simp_all
def cV.uY(h:cV P A Z s kk OO J M gsz w t)  u :∀p,M p->(t++u).heard p/\Z.N0<=p/\(((t++u).act? p=some (.mark (.releaseMerge ⟨A.gb,0,none⟩))/\(s.c=.none\/s.c=.eh\/∃q,s.c=.wt q))\/(s.c=.gone/\(t++u).act? p=some (.close A.cF))):=λp e=>by
 obtain⟨b,i,a⟩:=h.hM p e;rcases a with⟨a,d⟩|⟨a,d⟩
 . obtain⟨f,g⟩:=xa u a b
   simp_all
 . obtain⟨f,g⟩:=xa u d b
   simp_all
def cV.mr(h:cV P A Z s kk OO J M gsz w t)  u :s.c=.gone->∃p,M p/\(t++u).act? p=some (.close A.cF)/\(t++u).heard p:=λa=>by
 obtain⟨p,e,b,d⟩:=h.shut a;obtain⟨f,g⟩:=xa u b d
 grind
def ET(I:bP A.n s){i}(d:dw P A s i):bR P A s i:=by
 rcases d with⟨h,_⟩|⟨j,b,c,f⟩|⟨b,c⟩
 . exact .inl h
 . refine .inr (.inl ⟨j,?_,c⟩)
   have a:=I.idle j b;cases e:s.w j with
   |idle=>simp_all
   |_=>rw[e]at a;simp[bo.jg]at a;omega
 . refine .inr (.inr ⟨b,λe=>?_⟩)
   simp_all
def KL{i}(a:dw P A s i):i<A.b+A.n+1:=by
 have:=A.hb;rcases a with⟨h,_⟩|⟨j,c,d,e⟩|⟨c,d⟩<;>omega
def cV.Ov(h:cV P A Z s kk OO J M gsz w t){i l}(a:aS (OO i) A.fb l):A.dir=true/\∃j,j<A.n/\(i=A.b+j/\(s.w j).owns=true)/\l=A.cell j:=by
 obtain⟨x,c⟩:=a.own;obtain⟨j,f,d,e,k,rfl,p⟩:=h.tok i x c;rcases a with⟨o,q⟩|⟨m,q,_⟩|⟨g,q,r⟩
 . simp_all
 . simp_all
 . rw[c]at q;cases q;grind
def zy{x:bo P}(h:x.owns=true):x.ig=true:=by cases x<;>simp_all [bo.owns,bo.ig]
def yM(h:cV P A Z s kk OO J M gsz w t){i e}(n:iT (kk i) (OO i) w.heap.size e){a}(p:(MemAct.ofEvent e).touch?=some a):¬yw A a.loc:=λb=>by
 have q:A.fb<w.heap.size:=by obtain⟨c,e,k⟩:=h.uW;grind
 have u:A.gb<w.heap.size:=by obtain⟨c,e,k⟩:=h.yK;grind
 have g:∀l,(l=A.fo\/l=A.fo+1) -> ¬aS (OO i) A.fb l:=λl f m=>by obtain⟨_,_,_,_,e⟩:=h.Ov m;unfold bL.cell at e;omega
 have j:∀l,¬aS (OO i) A.gb l:=λl=>dS (h.gg i).2
 obtain⟨v,y,z,B⟩:=h.eo i
 rcases jJ n p with⟨C,f,m⟩|⟨r,f,d⟩
 . rw[f]at b
   obtain⟨_,b⟩:=b
   grind
 . rw[f]at b
   obtain⟨b,hd⟩:r=A.cF/\A.dir=false:=b;subst b
   rcases d with⟨o,d⟩|d
   . rw[(h.gg i).1 hd]at d;cases d
   . obtain⟨x,D,k⟩:=h.zx hd
     simp_all
def yN{k O B e}(b:iT k O B e)  a :MemAct.ofEvent e≠.mark (.release a):=by
 obtain⟨loc,wr,c⟩:=e;cases loc with
 |mark m=>simp only[iT]at b;cases m<;>simp_all [jI,mN,MemAct.ofEvent]
 |cell d=>simp[MemAct.ofEvent]
 |obj r=>cases wr<;>cases c<;>simp[MemAct.ofEvent]
 |_=>simp[iT]at b
def cV.own(h:cV P A Z s kk OO J M gsz w t)(hZ:A.b+A.n+1<=Z.lk){i}(V:dw P A s i){k' O' es}(D:Eff (kk i) (OO i) w k' O' w' es)  u
 (H:∀op∈u,∃e,iT (kk i) (OO i) w.heap.size e/\op.act=.ofEvent e):cV P A Z s (bQ kk i k') (bQ OO i O') J M gsz w' (t++u):=by
 have K:i≠Z.lk:=by have:=KL V;omega
 have Q:=ET h.I V;have W:A.fb<w.heap.size:=by obtain⟨c,e,d⟩:=h.uW;grind
 have X:A.gb<w.heap.size:=by obtain⟨c,e,d⟩:=h.yK;grind
 have hC:A.dir=false->A.cF<w.heap.size:=λhd=>by obtain⟨x,tm,d⟩:=h.zx hd;grind
 have R:=D.keep A.gb X (h.gg i).2
 have S:Cy A.fb A.fo w w'/\∃c e,w'.heap[A.fb]?=some (.cells c e (0,0)):=by
  cases q:OO i A.fb with
  |none=>have:=D.keep A.fb W q;exact⟨.of_heap this,by rw[this];exact h.uW⟩
  | some x=>
    obtain⟨j,f,_,_,_,rfl,hf⟩:=h.tok i x q;obtain⟨c,e,d⟩:=h.uW;obtain⟨c',N,h3,h4⟩:=D.part A.fb f W q c e d;refine⟨⟨λl V=>?_,λl=>?_⟩,c',e,N⟩
    . simp only[World.cell?,d,N];rw[h4 l (aal λhh=>by have:=(hf l hh).2;unfold bL.cell at this;omega)]
    . simp only[World.frozen?,d,N]
 have p:∀c,c<w.heap.size->OO i c=none->O' c=none:=λc hc hn=>by
  cases q:O' c with
  |none=>rfl
  | some x=>
    rcases D.own c x q with⟨y,hy,_⟩|hy
    . simp_all
    . omega
 have z:∀l,(l=A.fo\/l=A.fo+1) -> ¬aS (OO i) A.fb l:=λl V hc=>by obtain⟨_,_,_,_,e⟩:=h.Ov hc;unfold bL.cell at e;omega
 have a7:∀l,l<A.n->(s.w l).ig=false -> ¬aS (OO i) A.fb (A.cell l):=λl _ O hc=>by
  obtain⟨_,j,_,⟨_,T⟩,e⟩:=h.Ov hc;obtain rfl:l=j:=by unfold bL.cell at e;omega
  rw[zy T]at O;cases O
 have E:∀c l,c<w.heap.size -> ¬aS (OO i) c l->(kk i).cell c l=none->k'.cell c l=none:=λc l hc ax hn=>by
  cases q:k'.cell c l with
  |none=>rfl
  | some v=>
    rcases D.cell c l v q with d|d|d
    . simp_all
    . simp_all
    . omega
 obtain⟨a8,a9,al,av⟩:=h.eo i
 have U:∀op∈u,∀a,op.act.touch?=some a -> ¬yw A a.loc:=λop k a G=>by obtain⟨e,B,C⟩:=H op k;rw[C]at G;exact yM h B G
 refine⟨h.I,h.size,h.dd,h.off,λhd l F=>⟨λO=>⟨λj=>?_,λm a ad G e e'=>?_⟩,λhr=>?_⟩,λhd=>by rw[D.keep A.cF (hC hd) ((h.gg i).1 hd)];exact h.zx hd,h.mu.same S.1,h.gr.same (.of_heap R),S.2,by rw[R];exact h.yK,λj=>?_,λj=>?_,λj x Y=>?_,λj hj T=>?_,λT=>?_,λc hc=>?_,h.hJ,h.uY u,h.mr u,
  h.jR u (λop k a G hs=>absurd hs (U op k a G)),h.oc u (λop k a G hs=>absurd hs (U op k a G)),h.pD u,h.jh u (λop k a=>by obtain⟨e,B,C⟩:=H op k;rw[C];exact yN B a),λj hj hb=>?_,h.su,h.jF,h.eT,h.la,by simp;exact ZH h.n0 (aas _ _)⟩
 . have d:=((h.yx hd l F).1 O).1 j
   by_cases e:j=i
   . subst e;rw[an];simp_all
   . rw[au _ _ e];exact d
 . rcases dQ G with⟨d,_⟩|⟨op,k,d⟩
   . exact((h.yx hd l F).1 O).2 m a ad d e e'
   . obtain⟨ev,B,C⟩:=H op k
     rw[C]at d
     rcases jJ B d with⟨ad,L,hc⟩|⟨r,L,_⟩
     . rw[e]at L
       cases L;rw[e'.1,e'.2]at hc
       rcases hc with hc|hc|⟨_,v,hc⟩
       . simp_all
       . omega
       . have:=((h.yx hd l F).1 O).1 i
         simp_all
     simp_all
 . have d:=(h.yx hd l F).2 hr
   by_cases e:A.b+l=i
   . rw[e,an];rw[e]at d;exact D.le.1 _ _ _ d
   . rw[au _ _ e];exact d
 . by_cases e:j=i
   . subst e;rw[an];exact⟨λhd=>p _ (hC hd) ((h.gg j).1 hd),p _ X (h.gg j).2⟩
   . rw[au _ _ e];exact h.gg j
 . by_cases e:j=i
   . subst e;rw[an]
     exact⟨E _ _ W (z _ (.inl rfl)) a8,E _ _ W (z _ (.inr rfl)) a9,E _ _ X (dS (h.gg j).2) al,E _ _ X (dS (h.gg j).2) av⟩
   . rw[au _ _ e];exact h.eo j
 . by_cases e:j=i
   . subst e;rw[an]at Y
     rcases D.own _ x Y with⟨y,hy,hb⟩|hy
     . obtain⟨l,f,d,N,h3,rfl,h4⟩:=h.tok j y hy
       cases x with
       |obj o=>exact hb.elim
       |tail m=>exact hb.elim
       |part g=>exact⟨l,g,d,N,h3,rfl,λa q=>h4 a (hb a q)⟩
     . omega
   . rw[au _ _ e]at Y;exact h.tok j x Y
 . have d:=h.yL j hj T
   by_cases e:A.b+j=i
   . rw[e,an]
     rw[e]at d;cases q:OO i A.fb with
     |none=>simp_all
     | some x=>
       obtain⟨_,f,_,_,_,rfl,_⟩:=h.tok i x q;obtain⟨f',N⟩:=D.tok _ f q
       grind
   . rw[au _ _ e];exact d
 . rw[au _ _ (zj K),au _ _ (zj K)];exact h.NQ T
 . rw[au _ _ (zj K)]at hc;exact h.NR c hc
 . have e:j≠i:=λe=>hb (e ▸ Q)
   rw[au _ _ e,au _ _ e];exact h.Cx j hj hb
def cV.still(h:cV P A Z s kk OO J M gsz w t)  u  (i:∀op∈u,op.act.touch?=none/\∀a,op.act≠.mark (.release a)):cV P A Z s kk OO J M gsz w (t++u):=
 ⟨h.I,h.size,h.dd,h.off,λhd l c=>⟨λf=>⟨((h.yx hd l c).1 f).1,λm a j d e k=>(dQ d).elim (λg=>((h.yx hd l c).1 f).2 m a j g.1 e k) (λ⟨op,b,g⟩=>by simp_all)⟩,(h.yx hd l c).2⟩,h.zx,h.mu,h.gr,h.uW,h.yK,h.gg,h.eo,h.tok,h.yL,h.NQ,h.NR,h.hJ,h.uY u,h.mr u,h.jR u (λop b a d=>by simp_all),h.oc u (λop b a d=>by simp_all),
   h.pD u,h.jh u (λop b=>(i op b).2),h.Cx,h.su,h.jF,h.eT,h.la,by simp;exact ZH h.n0 (aas _ _)⟩
def bd  y :zq (bX P A Fin Z y) where
 own:=λa m _ he u _ _ o=>cV.own a y m he u o
 slip:=λa u _ hu=>cV.still a u hu
 draw:=λ{s kk OO J M n w t} a d=>by have a:cV P A Z s kk OO J M n w t:=a;exact⟨a.I,a.size,a.dd,a.off,a.yx,a.zx,a.mu.heap rfl,a.gr.same (.of_heap rfl),a.uW,a.yK,a.gg,a.eo,a.tok,a.yL,a.NQ,a.NR,a.hJ,a.hM,a.shut,a.quiet,a.said,a.old,a.norel,a.Cx,a.su,a.jF,a.eT,a.la,a.n0⟩
 sA := λ{s kk OO J M n w t j g} a B k O b=>by
  have a:cV P A Z s kk OO J M n w t:=a
  have q:s.c.eu=false:=by
   rcases B with⟨_,hm⟩|⟨l,m,_,hw⟩
   . have:=a.I.ms
     rw[hm]at this;have:=this.2.2.1;cases e:s.c<;>simp_all [jE.eu]
   . cases e:s.c with
     | gone=>
       have:=(a.I.g8 (by rw[e];rfl)).2.2.2 l m
       simp_all
     |_=>rfl
  have hd:A.dir=false:=by
   cases e:A.dir with
   |false=>rfl
   | true=>
     rcases b with⟨h0,_⟩|⟨l,_,_,h,z,v,_,_,_,_,hd⟩
     . have:=A.hb
       rcases B with⟨_,hm⟩|⟨l,m,f,hw⟩
       . exact absurd hm (a.off.2.1 e).2.1
       . omega
     simp_all
  obtain⟨x,C,r⟩:=a.zx hd;rw[q]at r;rcases b with⟨_,h,z,rfl,_⟩|⟨l,_,_,h,z,v,rfl,_⟩
  . exact again_recv_open r
  . exact again_send_open r
 wd:=λ{s kk OO J M n w t} a=>by have a:cV P A Z s kk OO J M n w t:=a;exact⟨⟨_,a.gr.cw⟩,⟨_,a.gr.cs⟩,⟨_,a.mu.cw⟩⟩
 kz:=λ{s i k O g} b=>by
  rcases b with⟨_,b⟩|⟨j,_,_,b⟩|⟨_,b⟩
  . cases e:s.ms with
    |bz j p=>rw[e]at b;obtain⟨c,rest,f,_⟩:=b;exact f.running
    |_=>rw[e]at b;exact b.elim
  . cases e:s.w j with
    |lk p Y=>rw[e]at b;obtain⟨kind,c,rest,_,_,f,_⟩:=b;exact f.running
    |un p Y=>rw[e]at b;obtain⟨kind,c,rest,_,f,_⟩:=b;exact f.running
    |dn p=>rw[e]at b;obtain⟨D,fn,tmps,todo,_,_,f⟩:=b;exact f.running
    |_=>rw[e]at b;exact b.elim
  . cases e:s.c with
    |wt p=>rw[e]at b;obtain⟨c,rest,f,_⟩:=b;exact f.running
    |_=>rw[e]at b;exact b.elim
end
end
section
open Go.Conc
open Go.ConcN (sumTo upd sumTo_upd upd_ne upd_same)
variable{P:acw}
def MS.aT(s:MS P)(j:Nat)(x:bo P)(sh:Mu.Sh):MS P:={s with w:=λi=>if i=j then x else s.w i,sh:=sh}
section
variable{s:MS P}{j n:Nat}{x:bo P}{sh:Mu.Sh}
def aU:(s.aT j x sh).w j=x:=by simp[MS.aT]
def cr{i}(h:i≠j):(s.aT j x sh).w i=s.w i:=by simp[MS.aT,h]
def GH:(λi=>((s.aT j x sh).w i).pc)=Mu.set (λi=>(s.w i).pc) j x.pc:=by
 funext i;by_cases h:i=j
 . subst h;rw[aU,Mu.ai]
 . rw[cr h,Mu.ah _ _ h]
def sH(F:bo P->Nat)(hj:j<n):sumTo n (λi=>F ((s.aT j x sh).w i))+F (s.w j)=sumTo n (λi=>F (s.w i))+F x:=by
 have e:(λi=>F ((s.aT j x sh).w i))=upd (λi=>F (s.w i)) j (F x):=by
  funext i;by_cases h:i=j
  . subst h;rw[aU,upd_same]
  . rw[cr h,upd_ne _ _ h]
 rw[e];have:=sumTo_upd (λi=>F (s.w i)) (F x) id hj
 simp_all
def bo.work:bo P->Bool
 |.run ..=>true|.lk ..=>true|.un ..=>true|_=>false
def bC{x:bo P}(h:x.work=true):x.cnt=1/\x.cq=20/\x.iz=false/\x.last=false/\x.jg=false/\x.busy=true/\x≠.gone/\x≠.wait/\∀p,x≠.dn p:=by cases x<;>simp_all [bo.work,bo.cnt,bo.cq,bo.iz,bo.last,bo.jg,bo.busy]
def bo.Bd:bo P->Bool
 |.run ..=>true|.lk ..=>true|.un ..=>true|.yv=>true|.dn .d1=>true|.dn .d2=>true|.dn .d4=>true|_=>false
def xc{x:bo P}(h:x.Bd=true):x.cnt=1/\x.last=false/\x.jg=false/\x≠.gone/\x≠.wait/\∀p,(p=.d5\/p=.d6\/p=.d7)->x≠.dn p:=by
 cases x with
 |dn p=>cases p<;>simp_all [bo.Bd,bo.cnt,bo.last,bo.jg]
 |_=>simp_all [bo.Bd,bo.cnt,bo.last,bo.jg]
def bP.same(I:bP n s)(hj:j<n)(o:(s.w j).Bd=true)(q:x.Bd=true)(r:x.iz=(s.w j).iz\/s.d=true)(G:x.ok=true)(t:Mu.Inv n (Mu.set (λi=>(s.w i).pc) j x.pc) sh):bP n (s.aT j x sh):=by
 obtain⟨H,a4,u,J,K,L⟩:=xc o;obtain⟨M,N,v,O,Q,g⟩:=xc q;have m:=sH (s:=s) (x:=x) (sh:=sh) bo.cnt hj
 have look:∀{i:Nat}{y:bo P},(s.aT j x sh).w i=y->x≠y->i≠j/\s.w i=y:=λ{i y} h z=>by
  by_cases e:i=j
  . subst e;rw[aU]at h;simp_all
  . rw[cr e]at h;simp_all
 have back:∀{i:Nat}{y:bo P},s.w i=y->(s.w j)≠y->(s.aT j x sh).w i=y:=λ{i y} h z=>by
  by_cases e:i=j
  . simp_all
  . rw[cr e];exact h
 have b:∀{i:Nat},((s.aT j x sh).w i).last=(s.w i).last:=λ{i}=>by
  by_cases e:i=j
  . grind
  . rw[cr e]
 refine⟨?_,I.g2,I.ER,λi a h=>?_,λi l a A h f=>?_,λi a h=>?_,⟨I.g5.1,λh=>?_⟩,λh f k=>?_,λh f=>?_,λh=>?_,I.g9,λi a=>?_,I.Sl,I.sp,λi a=>?_,?_,λhd h i a=>?_,by rw[GH];exact t⟩
 . have:=I.g1
   show s.gc=sumTo n (λi=>((s.aT j x sh).w i).cnt)+s.ms.pend;omega
 . exact I.g3 i a (h.imp (λh=>(look h (g _ (by simp))).2) (λh=>(look h (g _ (by simp))).2))
 . rw[b]at h f;exact I.GF i l a A h f
 . exact I.g4 i a (look h (g _ (by simp))).2
 . obtain⟨B,C,D,E⟩:=I.g5.2 h
   exact⟨B,C,D,λi a=>by grind⟩
 . obtain⟨i,a,F⟩:=I.g6 h f k
   grind
 . obtain⟨i,a,F⟩:=I.g7 h f
   grind
 . obtain⟨_,_,_,E⟩:=I.g8 h
   simp_all
 . by_cases e:i=j
   . grind
   . rw[cr e];exact I.ok i a
 . by_cases e:i=j
   . subst e
     rw[aU,v];have:=I.idle i a;rw[u]at this;exact this
   . rw[cr e];exact I.idle i a
 . have:=I.ms
   show match s.ms with
   |.add l=>s.sp+l=n/\s.c=.none
   |.bz l p=>s.sp+l=n/\s.c=.none/\1<=l/\(p=.a0\/p=.a2\/p=.a4\/p=.ae)
   |.spawn l=>s.sp+l+1=n/\s.c=.none
   |.recv=>s.sp=n/\s.c≠.none
   |.parked=>s.sp=n/\s.c≠.none/\s.c≠.gone/\∀i,i<n->(s.aT j x sh).w i≠.wait
   |.off=>s.sp=n/\s.c≠.none
   grind
 . by_cases e:i=j
   . subst e;rw[aU,r.resolve_right λe=>by have hd:s.d=false:=hd;grind];exact I.early hd h i a
   . rw[cr e];exact I.early hd h i a
def zz{x:bo P}(h:x.work=true):x.Bd=true:=by cases x<;>simp_all [bo.work,bo.Bd]
def bP.work(I:bP n s)(hj:j<n)(a:(s.w j).work=true)(b:x.work=true)(c:x.ok=true)(d:Mu.Inv n (Mu.set (λi=>(s.w i).pc) j x.pc) sh):bP n (s.aT j x sh):=I.same hj (zz a) (zz b) (.inl (by rw[(bC a).2.2.1,(bC b).2.2.1])) c d
def QS(F:bo P->Nat)(hj:j<n)(h:F x=F (s.w j)):sumTo n (λi=>F ((s.aT j x sh).w i))=sumTo n (λi=>F (s.w i)):=by have:=sH (s:=s) (x:=x) (sh:=sh) F hj;omega
def Cz(hj:j<n)(a:(s.w j).work=true)(b:x.work=true):(s.aT j x sh).cq n=s.cq n:=by
 have:=QS (s:=s) (x:=x) (sh:=sh) bo.cq hj (by rw[(bC a).2.1,(bC b).2.1]);show s.ms.cq+sumTo n (λi=>((s.aT j x sh).w i).cq)+s.c.cq s.gc=_;rw[this];rfl
def Be(hj:j<n)(a:(s.w j).work=true)(b:x.work=true)(h:HS x.nd (s.w j).nd):MS.fU n (s.aT j x sh) s:=.inr ⟨Cz hj a b,.inl ⟨j,hj,λi c=>by show((s.aT j x sh).w i).nd=_;rw[cr c],by simp only[aU];exact h⟩⟩
def vG(hj:j<n)(a:(s.w j).work=true)(b:x.work=true)(h:x.nd=(s.w j).nd)(hi:4*Mu.meas n (Mu.set (λi=>(s.w i).pc) j x.pc) sh+x.ex n<4*Mu.meas n (λi=>(s.w i).pc) s.sh+(s.w j).ex n):MS.fU n (s.aT j x sh) s:=by
 refine .inr ⟨Cz hj a b,.inr ⟨?_,?_⟩⟩
 . funext i
   by_cases e:i=j
   . subst e;rw[aU];exact h
   . rw[cr e]
 . have:=sH (s:=s) (x:=x) (sh:=sh) (bo.ex n) hj
   show 4*Mu.meas n (λi=>((s.aT j x sh).w i).pc) sh+sumTo n (λi=>((s.aT j x sh).w i).ex n)<4*Mu.meas n (λi=>(s.w i).pc) s.sh+sumTo n (λi=>(s.w i).ex n);rw[GH];omega
def GJ(I:bP n s)(hj:j<n)(a:(s.w j).work=true)(b:x.work=true)(h:x.nd=(s.w j).nd)(c:(x.pc,sh)∈Mu.mv (s.w j).pc s.sh)(d:x.ex n<=3):MS.fU n (s.aT j x sh) s:=by
 have:=(Mu.HC (pcs:=λi=>(s.w i).pc) hj (I.mu.j0 j hj) c).1;exact vG hj a b h (by omega)
def bP.mv(I:bP n s)(hj:j<n)(a:(s.w j).work=true)(b:x.work=true)(c:x.ok=true)(d:(x.pc,sh)∈Mu.mv (s.w j).pc s.sh):bP n (s.aT j x sh):=I.work hj a b c (I.mu.step hj d)
def ji  pcs   i :Mu.set pcs i (pcs i)=pcs:=by
 funext l;by_cases e:l=i
 . subst e;exact Mu.ai _ _ _
 . exact Mu.ah _ _ e
def lF(hj:j<n)(a:(s.w j).work=true)(b:x.work=true)(h:x.nd=(s.w j).nd)(c:x.pc=(s.w j).pc)(d:x.ex n<(s.w j).ex n):MS.fU n (s.aT j x s.sh) s:=by
 refine vG hj a b h ?_;rw[c,ji (λi=>(s.w i).pc)];omega
def bP.still(I:bP n s)(hj:j<n)(a:(s.w j).work=true)(b:x.work=true)(c:x.ok=true)(d:x.pc=(s.w j).pc):bP n (s.aT j x s.sh):=I.work hj a b c (by rw[d,ji (λi=>(s.w i).pc)];exact I.mu)
def fL(F:Mu.Pc->Nat){pcs i}(a:pcs i=.out)(h:F .hQ=F .out):(λl=>F (Mu.set pcs i .hQ l))=λl=>F (pcs l):=by
 funext l;by_cases e:l=i
 . subst e;rw[Mu.ai,a,h]
 . rw[Mu.ah _ _ e]
def Ow{n pcs s i}(h:Mu.Inv n pcs s)(a:pcs i=.out):Mu.Inv n (Mu.set pcs i .hQ) s:=by
 obtain⟨⟨m,c,d,f,g⟩,j,o⟩:=h;refine⟨⟨λl k=>?_,?_,?_,?_,?_⟩,j,λl k old sv b=>?_⟩
 . by_cases e:l=i
   . subst e;rw[Mu.ai];trivial
   . rw[Mu.ah _ _ e];grind
 . rw[fL Mu.bZ a rfl];exact c
 . rw[fL Mu.fD a rfl,fL Mu.cG a rfl,fL Mu.mS a rfl,fL Mu.cY a rfl,fL Mu.cE a rfl];exact d
 . rw[fL Mu.fD a rfl,fL Mu.cG a rfl,fL Mu.mS a rfl,fL Mu.cY a rfl,fL Mu.cE a rfl];exact f
 . rw[fL Mu.ia a rfl];exact g
 . by_cases e:l=i
   . subst e;rw[Mu.ai]at b;cases b
   . rw[Mu.ah _ _ e]at b;grind
def CA{n pcs s i}(hi:i<n)(a:pcs i=.out):Mu.meas n (Mu.set pcs i .hQ) s=Mu.meas n pcs s+(6*(18*n+1)+16):=by
 have C:=Mu.fX Mu.gk pcs i .hQ hi;have R:=Mu.fX (Mu.jv s.w) pcs i .hQ hi;rw[a]at C R;have b:Mu.gk .out=0:=rfl;have c:Mu.gk .hQ=6:=rfl;have d:Mu.jv s.w .out=0:=rfl;have e:Mu.jv s.w .hQ=16:=rfl;rw[b,c]at C;rw[d,e]at R;have f:Mu.phi n (Mu.set pcs i .hQ) s=Mu.phi n pcs s+6:=by unfold Mu.phi;omega
 unfold Mu.meas
 grind
def KM(hj:j<n)(a:(s.w j).work=true)(b:x.work=true)(h:x.nd=(s.w j).nd)(c:(s.w j).pc=.out)(d:x.pc=.hQ)(e:(s.w j).ex n=Bc n)(f:x.ex n=0):MS.fU n (s.aT j x s.sh) s:=by refine vG hj a b h ?_;rw[d,CA hj c,e,f];unfold Bc;omega
def bP.Xg(I:bP n s)(hj:j<n)(a:(s.w j).work=true)(b:x.work=true)(c:x.ok=true)(d:(s.w j).pc=.out)(e:x.pc=.hQ):bP n (s.aT j x s.sh):=I.work hj a b c (by rw[e];exact Ow I.mu d)
end
end
open Go.Conc
open Go.ConcN (sumTo upd sumTo_upd upd_ne upd_same)
section
variable{P:acw}{A:qP P}{Z:Base}{s s':A.S}{f f':Nat->Node P}{q q':aco}{kk kk':acv}{OO OO':acu}{J J' M M':ach}{gs:abP}{w w':World}{t u:Trace}{i:Nat}{g g1:ack}
structure Beside(A:qP P)(s s':A.S)(f f':Nat->Node P)(q q':aco)(kk kk':acv)(OO OO':acu)(J J':ach)(w':World)(i:Nat)(g g1:ack):Prop where
 ef:∀j,j≠i->f' j=f j
 eq:∀j,j≠i->q' j=q j
 ek:∀j,j≠i->j<A.top->kk' j=kk j
 eO:∀j,j≠i->j<A.top->OO' j=OO j
 eJ:∀j,j≠i->A.Live s j->J j->J' j
 live:∀j,j≠i->(A.Live s' j↔A.Live s j)
 walk:∀j,j≠i->(A.Walk s' j↔A.Walk s j)
 held:∀j,j≠i->(A.nY s' j↔A.nY s j)
 mo:∀j,j≠i->A.Live s j->A.mo s' j=A.mo s j
 at':∀j k O x,j≠i->A.Walk s j->A.At s j k O x->A.At s' j k O x
 deaf:∀j,j≠i->A.Walk s j->A.deaf s' j=A.deaf s j
 zp:∀j,j≠i->A.Walk s j->A.zp s j->A.zp s' j\/∀x,A.At s j (kk j) (OO j) x->woken P g g1 w' (blk x)=x
 Sn:∀j k O x,j≠i->A.nY s j->A.EE s j k O x->A.EE s' j k O x
 tie:∀j x,j≠i->A.Live s j->A.Ob s j x->A.Ob s' j x
structure Self(P:acw)(A:qP P)(s':A.S)(f':Nat->Node P)(q':aco)(kk':acv)(OO':acu)(J':ach)(t':Trace)(i:Nat)(g1:ack):Prop where
 live:A.Live s' i->i<A.top/\g1=(f' i).g/\(f' i).m=A.mo s' i/\(f' i).k=kk' i/\(f' i).O=OO' i/\(f' i).g.status=.running/\Deaf t' i=0/\(i=0\/J' i)/\A.Ob s' i (f' i)
 walk:A.Walk s' i -> ¬A.Live s' i/\i<A.top/\Deaf t' i=A.deaf s' i/\∃g',A.At s' i (kk' i) (OO' i) g'/\Kd P A.Wd (A.zp s' i) (q' i) g1 g'
 held:A.nY s' i -> ¬A.Live s' i/\¬A.Walk s' i/\i<A.top/\Deaf t' i=0/\g1.status=.blocked/\A.EE s' i (kk' i) (OO' i) g1
 rest:¬A.Live s' i -> ¬A.Walk s' i -> ¬A.nY s' i->i≠0/\QuitsD P (q' i) (Deaf t' i) g1
def bG.step(B:zq A)(v:bG A Z s f q kk OO J M gs w t)(hi:gs[i]?=some g)(C:∀op∈u,op.g=i)(U:cx Z kk' OO' J' M' w' (t++u))(V:A.Ex s' kk' OO' J' M' gs.size w' (t++u))
 (W:∀j x,A.nY s j->A.EE s j (kk j) (OO j) x->x.again w'=x) (hb:Beside A s s' f f' q q' kk kk' OO OO' J J' w' i g g1) (E:Self P A s' f' q' kk' OO' J' (t++u) i g1):
 bG A Z s' f' q' kk' OO' J' M' ((gs.map (woken P g g1 w')).setIfInBounds i g1) w' (t++u):=by
 have X:i<gs.size:=(zs.1 hi).1;have F:=v.Oc B (i:=i) (a:=g) (a':=g1) (x:=g1) (w':=w') W;have p:((gs.map (woken P g g1 w')).setIfInBounds i g1)[i]?=some g1:=DL (by simp_all)
 have G:∀j,j≠i->Deaf (t++u) j=Deaf t j:=λj d=>Deaf_other t (zj d) _ C
 refine⟨v.lk,U,λj d=>?_,λj d=>?_,λj d=>?_,λj x I N O Q=>?_,λj d=>?_,by simp_all⟩
 . by_cases e:j=i
   . subst e
     obtain⟨l,n,m⟩:=E.live d
     simp_all
   . have b:=(hb.live j e).1 d
     obtain⟨l,n,pm,m,D,z,r,R⟩:=v.live j b;rw[hb.ef j e,hb.ek j e l,hb.eO j e l,G j e,hb.mo j e b];exact⟨l,F.live j e b,pm,m,D,z,r,R.1.imp id (hb.eJ j e b),hb.tie j _ e b R.2⟩
 . by_cases e:j=i
   . subst e
     obtain⟨l,n,m,g',D,z⟩:=E.walk d
     grind
   . have b:=(hb.walk j e).1 d
     obtain⟨l,n,m,x,Y,D,z,r⟩:=v.walk j b;refine⟨λh=>l ((hb.live j e).1 h),n,by rw[G j e,hb.deaf j e b];exact m,?_⟩
     rw[hb.ek j e n,hb.eO j e n,hb.eq j e];obtain⟨y,y',o,K,r3⟩:=F.walk j e b
     by_cases hd:∃x,A.zp s j/\y=blk x/\A.At s j (kk j) (OO j) x/\q j=0
     . obtain⟨x0,S,H,d3,d4⟩:=hd
       rcases hb.zp j e b S with h|h
       . exact⟨y,x0,o,hb.at' j _ _ _ e b d3,.inl ⟨h,H,d4⟩⟩
       ·
        have c:((gs.map (woken P g g1 w')).setIfInBounds i g1)[j]?=some (woken P g g1 w' x):=by grind
        obtain⟨T,a2⟩:=B.kz z
        rcases r with⟨_,rfl,_⟩|r
        . rw[h _ z]at c
          rw[c]at o;have:=ZR o;rw[H]at this;have k:Y.status=.blocked:=by rw[this];rfl
          simp_all
        . rw[woken_run (r.first T)]at c
          rw[c]at o;have hh:=ZR o;have k:x.status=.blocked:=by rw[hh,H];rfl
          rw[r.first T]at k;cases k
     . rcases r3 with⟨S,rfl,H⟩|r3
       . simp_all
       . exact⟨y,y',o,hb.at' j _ _ _ e b K,.inr r3⟩
 . by_cases e:j=i
   . subst e
     obtain⟨l,n,m,D,z,r⟩:=E.held d
     simp_all
   . have b:=(hb.held j e).1 d
     obtain⟨l,n,m,D,_⟩:=v.held j b;obtain⟨x,o,K,r3⟩:=F.held j e b;refine⟨λh=>l ((hb.live j e).1 h),λh=>n ((hb.walk j e).1 h),m,by simp_all,x,o,K,?_⟩
     rw[hb.ek j e m,hb.eO j e m];exact hb.Sn j _ _ _ e b r3
 . by_cases e:j=i
   . subst e
     rw[p]at I;obtain rfl:=ZR I;exact E.rest N O Q
   . rw[hb.eq j e,G j e]
     exact F.rest j x e I (λh=>N ((hb.live j e).2 h)) (λh=>O ((hb.walk j e).2 h)) (λh=>Q ((hb.held j e).2 h))
 . have L:gs.size<=j:=by simp_all
   rw[G j (by omega)];exact v.above j L
end
def knows_own{t u i m op}(h:u[m]?=some op)(a:op.g=i):Knows (t++u) i (t.size+m):=⟨t.size+m,op,dp h,a,.inl rfl⟩
section
variable{Z:Base}{kk:acv}{OO:acu}{J M:ach}{w w':World}{t u:Trace}{i:Nat}
def Bf(kk:acv)(OO:acu)(B:Nat)(t:Trace)(i:Nat)(u:Trace):Prop:=∀op∈u,∀a,op.act.touch?=some a->a.kind=.atomic/\(a.loc.isMemory=true->J3 kk OO B a.loc)/\∀n b,touchAt t n=some b->b.loc=a.loc->b.kind=.plain->Knows t i n
def cx.PY(h:cx Z kk OO J M w t)(d:∀op∈u,op.g=i)(y:w'.heap.size=w.heap.size)(z:Calm Z w w')(hb:∀b,Kept kk OO w w' b)(A:∀op∈u,op.act.low w.heap.size)(q:Bf kk OO w.heap.size t i u)
 (l:∀m op a,u[m]?=some op->op.act.touch?=some a->a.loc.isMemory=true->Told Z J M (t++u) (t.size+m) a):cx Z kk OO J M w' (t++u):=
 h.tK (λa b=>a=b) y z hb A (λa b e n x _ _ _ B=>by subst e;exact B.app u) (λj b n v h=>⟨j,rfl,h⟩) (λj b s h=>⟨j,rfl,h⟩) (λj b x h=>⟨j,rfl,h,λ_ h=>h⟩) h.je
  (fun said=>noRace_append (h.clean said) d λn a o op c b hb C=>by
    obtain⟨f,k,D⟩:=q op c b hb;obtain⟨E,_,_,F⟩:=C
    simp_all)
  (λop c a o r=>(q op c a o).2.1 r) l
  (λn a o r h=>h.elim (λ⟨j,f,k⟩=>.inr (.inl ⟨j,f,k.app _⟩)) (λ⟨p,f,k⟩=>.inr (.inr (.inl ⟨p,f,k.app _⟩))))
def cx.sync(h:cx Z kk OO J M w t)(hJ:i=0\/J i)(c:∀op∈u,op.g=i)(f:w'.heap.size=w.heap.size)(j:Calm Z w w')(hb:∀b,Kept kk OO w w' b)(k:∀op∈u,op.act.low w.heap.size)(l:Bf kk OO w.heap.size t i u):cx Z kk OO J M w' (t++u):=
 h.PY c f j hb k l λm op a d n o=>by
  have e:Knows (t++u) i (t.size+m):=knows_own d (c op (aaf d));rcases hJ with rfl|hJ
  . exact .inl e
  . exact .inr (.inl ⟨i,hJ,e⟩)
end
section
variable{P:acw}{A:bL}{Z:Base}{s:MS P}{kk:acv}{OO:acu}{J M:ach}{gsz:Nat}{w w':World}{t u:Trace}{j:Nat}{x:bo P}{sh:Mu.Sh}
def od(hj:j<A.n)(h:x.busy=(s.w j).busy)  i :dT P A (s.aT j x sh) i↔dT P A s i:=by
 have:∀l,((s.aT j x sh).w l).busy=(s.w l).busy:=λl=>by
  by_cases e:l=j
  . subst e;rw[aU,h]
  . rw[cr e]
 unfold dT;simp only[this];rfl
def KN{a:Touch}{l ad}(h:yw A a.loc)(e:a.loc=.cell ad)(b:ad.block=A.fb/\ad.off=A.cell l):False:=by rw[e]at h;obtain⟨_,h⟩:=h;have:=A.d4;rw[b.1,b.2]at h;unfold bL.cell at h;omega
def cV.EU(h:cV P A Z s kk OO J M gsz w t){s':MS P}(d:A.dir=true->∀l,l<A.n->(s'.w l).ig=(s.w l).ig/\(s'.w l).owns=(s.w l).owns)(p:∀op∈u,∀a,op.act.touch?=some a->yw A a.loc):
 A.dir=true->∀j,j<A.n->((s'.w j).ig=false->(∀i,(kk i).cell A.fb (A.cell j)=none)/\∀m a ad,touchAt (t++u) m=some a->a.loc=.cell ad->ad.block=A.fb/\ad.off=A.cell j->m<Z.N0)/\((s'.w j).rel=true->(kk (A.b+j)).cell A.fb (A.cell j)=some (A.val j)):=λhd l c=>by
 obtain⟨q,r⟩:=d hd l c;rw[bo.rel,q,r];exact⟨λk=>⟨((h.yx hd l c).1 k).1,λm a ad v e o=>(dQ v).elim (λf=>((h.yx hd l c).1 k).2 m a ad f.1 e o) (λ⟨op,g,f⟩=>(KN (p op g a f) e o).elim)⟩,(h.yx hd l c).2⟩
def cV.xd(h:cV P A Z s kk OO J M gsz w t)(hj:j<A.n)(k:x.busy=(s.w j).busy)(E:x.owns=(s.w j).owns)(o:A.dir=true->x.ig=(s.w j).ig)(F:bP A.n (s.aT j x sh))(p:ShM A.fb A.fo w' sh)
 (d:∀b,b≠A.fb->w'.heap[b]?=w.heap[b]?) (q:∃c e,w'.heap[A.fb]?=some (.cells c e (0,0))) (z:∀op∈u,(∀a,op.act.touch?=some a->a.kind=.atomic/\yw A a.loc)/\∀a,op.act≠.mark (.release a)):
 cV P A Z (s.aT j x sh) kk OO J M gsz w' (t++u):=by
 have m:∀l,((s.aT j x sh).w l).owns=(s.w l).owns:=λl=>by
  by_cases e:l=j
  . subst e;rw[aU,E]
  . rw[cr e]
 refine⟨F,h.size,h.dd,h.off,h.EU (λhd l _=>⟨?_,m l⟩) (λop g a r=>((z op g).1 a r).2),λhd=>by rw[d _ A.d1];exact h.zx hd,p,h.gr.same (.of_heap (d _ (zj A.d4))),q,by rw[d _ (zj A.d4)];exact h.yK,h.gg,h.eo,λi y G=>?_,λl B v=>h.yL l B (by simp_all),λv=>h.NQ λl B=>by simp_all,λc H=>?_,
  λi=>by rw[h.hJ i];exact(od hj k i).symm,h.uY u,h.mr u,h.jR u (λop g a r _ I=>?_),h.oc u (λop g a r _ I=>?_),h.pD u,h.jh u (λop g=>(z op g).2),h.Cx,h.su,h.jF,h.eT,h.la,by simp;exact ZH h.n0 (aas _ _)⟩
 . by_cases e:l=j
   . subst e;rw[aU,o hd]
   . rw[cr e]
 . obtain⟨l,f,C,D,L,K⟩:=h.tok i y G
   exact⟨l,f,C,D,by simp_all,K⟩
 . obtain⟨C,D⟩:=h.NR c H
   simp_all
 . grind
 grind
def cV.work(h:cV P A Z s kk OO J M gsz w t)(hj:j<A.n)(k:(s.w j).work=true)(l:x.work=true)(m:x.owns=(s.w j).owns)(f:A.dir=true->x.ig=(s.w j).ig)(o:bP A.n (s.aT j x sh))(g:ShM A.fb A.fo w' sh)
 (d:∀b,b≠A.fb->w'.heap[b]?=w.heap[b]?) (i:∃c e,w'.heap[A.fb]?=some (.cells c e (0,0))) (p:∀op∈u,(∀a,op.act.touch?=some a->a.kind=.atomic/\yw A a.loc)/\∀a,op.act≠.mark (.release a)):
 cV P A Z (s.aT j x sh) kk OO J M gsz w' (t++u):=
 h.xd hj (by rw[(bC k).2.2.2.2.2.1,(bC l).2.2.2.2.2.1]) m f o g d i p
end
section
variable{P:acw}
def Bg {y s fr f l e cs} (b:FR y s fr) (h:aZ s=some (f,l)) (c:Ext P f e):mayWake P (G fr cs)=true:=by
 obtain⟨ops,i,rest,kk,o,as,d,g,p,j,q,a,r⟩:=dh b h;obtain⟨fn,k,t,u,v,w⟩:=c.ex;have m:fr.mode = .run:=by rw[a];rfl
 have n:fr.todo = .inRegion ops (i :: rest) :: kk:=by rw[a];rfl
 unfold mayWake;simp only[G,m,n,g,ZZ,j,Frame.eval,k,Option.any_some]
 grind
def HT{n b o kind cs g}(C:fY P n)(X:fZ P n)(h:nM P n b o kind .give cs g):mayWake P g=true:=by
 obtain⟨c,y,fr,d,e,i,a,f,rfl⟩:=h;rcases e with rfl|rfl
 . exact Bg a (C.VF b o kind) X.n8
 . exact Bg a (C.VG b o kind) X.n8
def oe{b o w w'}(h:MW b o w w')(a:∃c e,w.heap[b]?=some (.cells c e (0,0))):
 w'.heap.size=w.heap.size/\(∀r,r≠b->w'.heap[r]?=w.heap[r]?)/\∃c e c',w.heap[b]?=some (.cells c e (0,0))/\w'.heap[b]?=some (.cells c' e (0,0))/\c'.size=c.size/\∀n,n≠o->n≠o+1->c'[n]?=c[n]?:=by
 obtain⟨c,e,a⟩:=a;rcases h.2 with h|⟨i,v,f,g,h⟩
 . grind
 . refine⟨by simp_all,λr d=>?_,c,e,c.setIfInBounds i v,a,?_,by simp,λn j k=>?_⟩
   . rw[h];simp only[World.setCell,aai,ZB (zj d)]
   . rw[h];simp[World.setCell,aai,a]
   grind
end
section
variable{P:acw}{A:bL}{Z:Base}{s:MS P}{kk:acv}{OO:acu}{J M:ach}{gsz:Nat}{w w':World}{t:Trace}{j:Nat}{x:bo P}{sh:Mu.Sh}
def cV.calm(h:cV P A Z s kk OO J M gsz w t)(a:MW A.fb A.fo w w'):Calm Z w w':=by obtain⟨d,c,_⟩:=oe a h.uW;have:=h.eT.2.1;exact⟨a.1,λb hb=>c b (by omega)⟩
def cV.kept(h:cV P A Z s kk OO J M gsz w t)(a:MW A.fb A.fo w w'):∀b,Kept kk OO w w' b:=λb=>by
 obtain⟨u,d,c,e,f,j,k,l,v⟩:=oe a h.uW;by_cases hb:b=A.fb
 . subst hb
   refine .inr (.inr ⟨c,f,e,j,k,l,λi x m=>by obtain⟨_,g,_,_,_,rfl,o⟩:=h.tok i x m;exact⟨g,rfl,λn p=>by have:=(o n p).2;unfold bL.cell at this;grind⟩,λn=>?_⟩);by_cases q:n=A.fo
   . subst q;exact .inr λi=>(h.eo i).1
   . by_cases r:n=A.fo+1
     . subst r;exact .inr λi=>(h.eo i).2.1
     simp_all
 . exact .inl (d b hb)
def cV.TF(h:cV P A Z s kk OO J M gsz w t){n}(a:n=A.fo\/n=A.fo+1):J3 kk OO w.heap.size (.cell ⟨A.fb,n,none⟩):=by
 have b:A.fb<w.heap.size:=by obtain⟨c,e,f⟩:=h.uW;grind
 refine⟨b,λi=>⟨λd=>?_,?_⟩⟩
 . obtain⟨_,_,_,_,e⟩:=h.Ov d
   have e:n=A.fo+2+_:=e;omega
 . rcases a with rfl|rfl
   . exact(h.eo i).1
   . exact(h.eo i).2.1
def nC{b o e}(d:(e.loc=.mark .disable\/e.loc=.mark .enable)\/∃i,(i=o\/i=o+1)/\e.loc=.cell ⟨b,i,none⟩/\e.sync=true):
 (∀a,(MemAct.ofEvent e).touch?=some a->a.kind=.atomic/\∃i,(i=o\/i=o+1)/\a.loc=.cell ⟨b,i,none⟩)/\(∀a,MemAct.ofEvent e≠.mark (.release a))/\∀B,b<B->(MemAct.ofEvent e).low B:=by
 obtain⟨loc,wr,j⟩:=e;rcases d with(h|h)|⟨i,k,h,c⟩
 . simp only at h;subst h
   simp[MemAct.ofEvent,MemAct.touch?,MemAct.low]
 . simp only at h;subst h
   simp[MemAct.ofEvent,MemAct.touch?,MemAct.low]
 . simp only at h c;subst h;subst c
   refine⟨λa f=>?_,by simp[MemAct.ofEvent],λB g=>by simpa[MemAct.ofEvent,MemAct.low,Loc.low]using g⟩;simp only[MemAct.ofEvent,MemAct.touch?,kn]at f
   grind
def cV.KO(h:cV P A Z s kk OO J M gsz w t){es}(p:EvM A.fb A.fo es){i}(hi:bR P A s i)  fn   pos :
 Bf kk OO w.heap.size t i (MemOp.ofEvents i fn pos es)/\(∀op∈MemOp.ofEvents i fn pos es,op.act.low w.heap.size)/\∀op∈MemOp.ofEvents i fn pos es,(∀a,op.act.touch?=some a->a.kind=.atomic/\yw A a.loc)/\∀a,op.act≠.mark (.release a):=by
 have v:A.fb<w.heap.size:=by obtain⟨c,e,f⟩:=h.uW;grind
 refine⟨λop d a k=>?_,λop d=>?_,λop d=>?_⟩<;>obtain⟨e,l,rfl⟩:=zR d<;>obtain⟨o,q,x⟩:=nC (p e l)
 . obtain⟨f,n,g,j⟩:=o a k
   refine⟨f,λ_=>by rw[j];exact h.TF g,λm b hb r u=>h.quiet m b hb ?_ u i hi⟩
   rw[r,j];exact⟨rfl,.inl ⟨rfl,g⟩⟩
 . grind
 . refine⟨λa k=>?_,q⟩
   obtain⟨f,n,g,j⟩:=o a k;exact⟨f,by rw[j];exact⟨rfl,.inl ⟨rfl,g⟩⟩⟩
end
structure eU{P}(A:bL)(s s':MS P)  i :Prop where
 w:∀l,l<A.n->A.b+l≠i->s'.w l=s.w l
 c:i≠A.cl->s'.c=s.c
 ms:i≠0->s'.ms=s.ms
 sp:s'.sp=s.sp
 d:s'.d=s.d
 iz:(∀l,l<A.n->(s'.w l).iz=(s.w l).iz)\/((dw P A s 0->∃m,s.ms=.add m\/s.ms=.spawn m)/\s.ms≠.parked)
section
variable{P:acw}{A:bL}{Fin:abL}{Z:Base}{s s':MS P}{f f':Nat->Node P}{q q':aco}{kk kk':acv}{OO OO':acu}{J J' M:ach}{gs:abP}{gsz:Nat}{w w':World}{t u:Trace}{i:Nat}{g g1:ack}
def xe(h:∀l,l<A.n->(s'.w l).iz=(s.w l).iz):MS.rem P A.n s'=MS.rem P A.n s:=by unfold MS.rem;exact aaP λl a=>by grind
def eU.live(h:eU A s s' i){j}(hj:j≠i):dw P A s' j↔dw P A s j:=by
 constructor<;>rintro(⟨b,a⟩|⟨l,a,d,f⟩|⟨b,a⟩)
 . exact .inl ⟨b,by rw[<-h.ms (λe=>hj (b.trans e.symm))];exact a⟩
 . exact .inr (.inl ⟨l,a,d,by rw[<-h.w l a (λe=>hj (d.trans e))];exact f⟩)
 . exact .inr (.inr ⟨b,by rw[<-h.c (λe=>hj (b.trans e.symm))];exact a⟩)
 . exact .inl ⟨b,by rw[h.ms (λe=>hj (b.trans e.symm))];exact a⟩
 . exact .inr (.inl ⟨l,a,d,by rw[h.w l a (λe=>hj (d.trans e))];exact f⟩)
 . exact .inr (.inr ⟨b,by rw[h.c (λe=>hj (b.trans e.symm))];exact a⟩)
def eU.walk(h:eU A s s' i){j}(hj:j≠i):ga P A s' j↔ga P A s j:=by
 constructor<;>rintro(⟨b,a⟩|⟨l,a,d,f⟩|⟨b,a⟩)
 . exact .inl ⟨b,by rw[<-h.ms (λe=>hj (b.trans e.symm))];exact a⟩
 . exact .inr (.inl ⟨l,a,d,by rw[<-h.w l a (λe=>hj (d.trans e))];exact f⟩)
 . exact .inr (.inr ⟨b,by rw[<-h.c (λe=>hj (b.trans e.symm))];exact a⟩)
 . exact .inl ⟨b,by rw[h.ms (λe=>hj (b.trans e.symm))];exact a⟩
 . exact .inr (.inl ⟨l,a,d,by rw[h.w l a (λe=>hj (d.trans e))];exact f⟩)
 . exact .inr (.inr ⟨b,by rw[h.c (λe=>hj (b.trans e.symm))];exact a⟩)
def eU.held(h:eU A s s' i){j}(hj:j≠i):fe P A s' j↔fe P A s j:=by
 constructor<;>rintro(⟨b,a⟩|⟨l,a,c,d⟩)
 . exact .inl ⟨b,by rw[<-h.ms (λe=>hj (b.trans e.symm))];exact a⟩
 . exact .inr ⟨l,a,c,by rw[<-h.w l a (λe=>hj (c.trans e))];exact d⟩
 . exact .inl ⟨b,by rw[h.ms (λe=>hj (b.trans e.symm))];exact a⟩
 . exact .inr ⟨l,a,c,by rw[h.w l a (λe=>hj (c.trans e))];exact d⟩
def lG  K  (t:eU A s s' i) (L:∀j,j≠i->f' j=f j) (M:∀j,j≠i->q' j=q j) (N:∀j,j≠i->j<A.b+A.n+1->kk' j=kk j) (Q:∀j,j≠i->j<A.b+A.n+1->OO' j=OO j) (R:∀j,j≠i->J j->J' j)
 (o:((s.sh.ms=0->s'.sh.ms=0)/\(s.gm=0->s'.gm=0))\/(mayWake P g=true/\(g1.status=.running\/g1.status=.finished))) (S:∀{i k O y},TE P A Fin s i k O y->y.status=.running/\y.offers=none):
 Beside (bX P A Fin Z K) s s' f f' q q' kk kk' OO OO' J J' w' i g g1:=by
 have hb:=A.hb;have wl:∀{j l:Nat},l<A.n->j≠i->j=A.b+l->s'.w l=s.w l:=λ{j l} E a e=>t.w l E (λh=>a (e.trans h))
 have x:∀{j:Nat},j≠i->j=0->s'.ms=s.ms:=λa e=>t.ms (λh=>a (e.trans h.symm))
 have H:∀{j:Nat},j≠i->j=A.cl->s'.c=s.c:=λa e=>t.c (λh=>a (e.trans h.symm))
 refine⟨L,M,N,Q,λj a _ h=>R j a h,λj a=>t.live a,λj a=>t.walk a,λj a=>t.held a,λj a E=>?_,λj k O y a _ F=>?_,λj a I=>?_,λj a I hd=>?_,λj k O y a T F=>?_,λj y a _ U=>?_⟩
 . show cB P A Fin s' j=cB P A Fin s j
   unfold cB;by_cases d:j=0
   . rcases t.iz with u|⟨u,_⟩
     . simp only[ZG d,x a d,xe u]
     . subst d
       obtain⟨m,e|e⟩:=u E<;>simp only[ZD,x a rfl,e]
   rcases E with⟨G,_⟩|⟨l,p,r,_⟩|⟨G,_⟩
   . omega
   . have e:j-A.b=l:=by omega
     grind
   grind
 . rcases F with⟨d,h⟩|⟨l,p,r,B⟩|⟨d,h⟩
   . exact .inl ⟨d,by grind⟩
   . exact .inr (.inl ⟨l,p,r,by grind⟩)
   . exact .inr (.inr ⟨d,by grind⟩)
 . show dI P A s' j=dI P A s j
   unfold dI;rcases I with⟨d,h1⟩|⟨l,p,r,_⟩|⟨d,_⟩
   . grind
   . grind
   grind
 . rcases o with⟨o,v⟩|⟨hm,u⟩
   . refine .inl ?_
     rcases hd with⟨l,sv,Y,p,r,B,C⟩|⟨d,B,C⟩
     . exact .inl ⟨l,sv,Y,p,r,by grind,o C⟩
     . exact .inr ⟨d,by grind,v C⟩
   . refine .inr λy V=>?_
     obtain⟨W,a2⟩:=S V;have H:(mayWake P g && g1.status !=.blocked && g1.status !=.waiting)=true:=by grind
     unfold Go.Conc.woken;rw[ZG H,zr W a2]
 . rcases F with⟨d,D,z,p,r,B,C⟩|h
   . rcases t.iz with u|⟨_,u⟩
     . exact .inl ⟨d,D,z,p,r,B,by rw[xe u];exact C⟩
     . rcases T with⟨_,h7⟩|⟨l,_,h7,_⟩
       . simp_all
       . omega
   . exact .inr h
 . exact λl b X p r B=>U l b X p r (by grind)
variable{j:Nat}{x:bo P}{sh:Mu.Sh}
def xd(hj:j<A.n)(h:x.iz=(s.w j).iz\/((dw P A s 0->∃m,s.ms=.add m\/s.ms=.spawn m)/\s.ms≠.parked)):eU A s (s.aT j x sh) (A.b+j):=⟨λl _ a=>cr (by omega),λ_=>rfl,λ_=>rfl,rfl,rfl,h.imp_left λh l _=>by
 by_cases e:l=j
 . subst e;rw[aU,h]
 . rw[cr e]⟩
def pF  c  (hj:j<A.n) (d:x.iz=(s.w j).iz) (e:∀i,i≠A.b+j->f' i=f i) (l:∀i,i≠A.b+j->q' i=q i) (m:∀i,i≠A.b+j->i<A.b+A.n+1->kk' i=kk i) (o:∀i,i≠A.b+j->i<A.b+A.n+1->OO' i=OO i) (p:∀i,i≠A.b+j->J i->J' i)
 (a:(s.sh.ms=0->sh.ms=0)\/(mayWake P g=true/\g1.status=.running)) (r:∀{i k O y},TE P A Fin s i k O y->y.status=.running/\y.offers=none):
 Beside (bX P A Fin Z c) s (s.aT j x sh) f f' q q' kk kk' OO OO' J J' w' (A.b+j) g g1:=
 lG c (xd hj (.inl d)) e l m o p (a.imp (λh=>⟨h,id⟩) λh=>⟨h.1,.inl h.2⟩) r
def my  c  (hj:j<A.n) (d:(s.w j).work=true) (e:x.work=true) (h:∀i,i≠A.b+j->f' i=f i) (l:∀i,i≠A.b+j->q' i=q i) (m:∀i,i≠A.b+j->i<A.b+A.n+1->kk' i=kk i) (o:∀i,i≠A.b+j->i<A.b+A.n+1->OO' i=OO i) (p:∀i,J i->J' i)
 (a:(s.sh.ms=0->sh.ms=0)\/(mayWake P g=true/\g1.status=.running)) (r:∀{i k O y},TE P A Fin s i k O y->y.status=.running/\y.offers=none):
 Beside (bX P A Fin Z c) s (s.aT j x sh) f f' q q' kk kk' OO OO' J J' w' (A.b+j) g g1:=
 pF c hj (by rw[(bC e).2.2.1,(bC d).2.2.1]) h l m o (λi _=>p i) a r
end
def bo.jS{P}:bo P->Bool
 |.lk ..=>true|.un ..=>true|_=>false
def iJ{P}{x:bo P}(h:x.jS=true):x.work=true:=by cases x<;>simp_all [bo.jS,bo.work]
section
variable{P:acw}{A:bL}{Fin:abL}{Z:Base}{s:MS P}{f:Nat->Node P}{q:aco}{kk:acv}{OO:acu}{J M:ach}{gs:abP}{w w':World}{t:Trace}{j:Nat}{x:bo P}{sh:Mu.Sh}{g g1:ack}
def vH(hj:j<A.n)(h:(s.w j).busy=true):dT P A s (A.b+j):=.inl ⟨j,hj,rfl,h⟩
def iA(I:bP A.n s)(hj:j<A.n)(h:(s.w j).jg=false):bR P A s (A.b+j):=by
 refine .inr (.inl ⟨j,?_,rfl⟩);have:=I.idle j hj
 simp_all
def iK(hj:j<A.n)(h:(s.w j).jS=true):ga P A s (A.b+j):=.inr (.inl ⟨j,hj,rfl,by cases e:s.w j<;>simp_all [bo.jS]⟩)
def mz(hj:j<A.n)(h:(s.w j).jS=true):¬dw P A s (A.b+j):=by
 have:=A.hb;rintro(⟨e,_⟩|⟨l,a,c,d⟩|⟨e,_⟩)
 . omega
 . obtain rfl:l=j:=by omega
   cases e:s.w l<;>simp_all [bo.jS]
 . omega
def pG(hj:j<A.n)(h:(s.w j).jS=true):¬fe P A s (A.b+j):=by
 have:=A.hb;rintro(⟨e,_⟩|⟨l,c,d,a⟩)
 . omega
 . obtain rfl:l=j:=by omega
   rw[a]at h;cases h
def eD(hj:j<A.n):dI P A s (A.b+j)=(s.w j).deaf:=by
 have:=A.hb;unfold dI
 grind
def CB  u  (L:bG (bX P A Fin Z u) Z s f q kk OO J M gs w t) (hj:j<A.n) (K:(s.w j).work=true){d}(N:Deaf t (A.b+j)=d) (Q:¬fe P A s (A.b+j)) (h2:x.jS=true) (ho:x.owns=(s.w j).owns) (R:A.dir=true->x.ig=(s.w j).ig) (hI:bP A.n (s.aT j x sh)) (hL:MS.fU A.n (s.aT j x sh) s)
 (hg:gs[A.b+j]?=some g){es}(S:stepG P false g w=.go g1 w' es) (o:MW A.fb A.fo w w') (T:ShM A.fb A.fo w' sh) (U:EvM A.fb A.fo es) (hd:deafBehind d es=x.deaf)
 (hs:∃n g',iV P (kI A) n g1 g'/\GG P A j x (kk (A.b+j)) (OO (A.b+j)) g') (v:(s.sh.ms=0->sh.ms=0)\/(mayWake P g=true/\g1.status=.running))  sl :
 ∃ops m',runT P (crowd gs w sl) (A.b+j)=(.next m',ops)/\∃s' f' q' kk' OO' J' M' gs' z V,m'=crowd gs' z V/\MS.fU A.n s' s/\bG (bX P A Fin Z u) Z s' f' q' kk' OO' J' M' gs' z (t++ops):=by
 obtain⟨n,g',C,W⟩:=hs;have hb:=A.hb;have B:=bd (P:=P) (A:=A) (Fin:=Fin) (Z:=Z) u;have w2:=iJ h2;have p:cV P A Z s kk OO J M gs.size w t:=L.ex;have X:(A.b+j==0)=false:=by simp;omega
 have D:=runT_crowd_go (P:=P) (sl:=sl) (i:=A.b+j) hg (by rw[X];exact S)
 have E:bR P A s (A.b+j):=iA p.I hj (bC K).2.2.2.2.1;obtain⟨y1,y2,y3⟩:=p.KO U E g.frame.fn g.frame.place;have m:∀op∈MemOp.ofEvents (A.b+j) g.frame.fn g.frame.place es,op.g=A.b+j:=λop Y=>by obtain⟨e,_,rfl⟩:=zR Y;rfl
 obtain⟨m1,m2,c,e,c',m3,m4,_⟩:=oe o p.uW;have hP:=L.cL.sync (i:=A.b+j) (.inr ((p.hJ _).2 (vH hj (bC K).2.2.2.2.2.1))) m m1 (p.calm o) (p.kept o) y2 y1;have F:cV P A Z (s.aT j x sh) kk OO J M gs.size w' (t++MemOp.ofEvents (A.b+j) g.frame.fn g.frame.place es):=p.work hj K w2 ho R hI T m2 ⟨c',e,m4⟩ y3
 have r:Beside (bX P A Fin Z u) s (s.aT j x sh) f f q (upd q (A.b+j) n) kk kk OO OO J J w' (A.b+j) g g1:=my u hj K w2 (λ_ _=>rfl) (λi hi=>upd_ne q n hi) (λ_ _ _=>rfl) (λ_ _ _=>rfl) (λ_ h=>h) v (λ{i k O y} hA=>B.kz (s:=s) (i:=i) (k:=k) (O:=O) (g:=y) hA)
 have a:((s.aT j x sh).w j).jS=true:=by rw[aU];exact h2
 refine⟨_,_,D,s.aT j x sh,f,upd q (A.b+j) n,kk,OO,J,M,_,_,_,rfl,hL,?_⟩;refine bG.step B L hg m hP F (λl y G hA=>?_) r ⟨λG=>absurd G (mz hj a),λ_=>⟨mz hj a,?_,?_,g',?_,?_⟩,λhh=>absurd hh (pG hj a),λ_ hn _=>absurd (iK hj a) hn⟩
 . have H:l≠A.b+j:=λe=>Q (e ▸ G)
   exact B.sA F ((r.held l H).2 G) _ _ (r.Sn l _ _ _ H G hA)
 . show A.b+j<A.b+A.n+1;omega
 . rw[Deaf_own,N]
   show deafBehind d es=dI P A (s.aT j x sh) (A.b+j);rw[eD hj,aU];exact hd
 . exact .inr (.inl ⟨j,hj,rfl,by rw[aU];exact W⟩)
 . exact .inr (by rw[upd_same];exact C)
def xf  d  (u:bG (bX P A Fin Z d) Z s f q kk OO J M gs w t) (hj:j<A.n) (e:(s.w j).jS=true) (y:x.jS=true) (z:x.owns=(s.w j).owns) (h:A.dir=true->x.ig=(s.w j).ig) (B:bP A.n (s.aT j x sh)) (C:MS.fU A.n (s.aT j x sh) s)
 (D:gs[A.b+j]?=some g){es}(i:stepG P false g w=.go g1 w' es) (k:MW A.fb A.fo w w') (l:ShM A.fb A.fo w' sh) (m:EvM A.fb A.fo es) (hd:deafBehind (s.w j).deaf es=x.deaf)
 (E:∃n g',iV P (kI A) n g1 g'/\GG P A j x (kk (A.b+j)) (OO (A.b+j)) g') (a:(s.sh.ms=0->sh.ms=0)\/(mayWake P g=true/\g1.status=.running))  sl :
 ∃ops v,runT P (crowd gs w sl) (A.b+j)=(.next v,ops)/\∃s' f' q' kk' OO' J' M' gs' c o,v=crowd gs' c o/\MS.fU A.n s' s/\bG (bX P A Fin Z d) Z s' f' q' kk' OO' J' M' gs' c (t++ops):=by
 have p:=iK (P:=P) (A:=A) (s:=s) hj e;obtain⟨_,_,r,_⟩:=u.walk _ p;exact CB d u hj (iJ e) (r.trans (eD hj)) (pG hj e) y z h B C D i k l m hd E a sl
end
namespace Mu
section
variable{n:Nat}{pcs:Nat->Pc}{s:Sh}{i:Nat}
def Ox{f:Pc->Nat}(h:∀p,f p<=1)(pcs:Nat->Pc)  n :fj n (λi=>f (pcs i))<=n:=by
 have:=ED (f:=λi=>f (pcs i)) (c:=1) (λi=>h _) n;omega
def Inv.VZ(h:Inv n pcs s):s.w.N<=n+1/\s.ms<=1:=by
 have b:=Ox (f:=cE) (λp=>by cases p<;>simp[cE]) pcs n
 cases e:s.w.S with
 | false=>
   obtain⟨c,_,a⟩:=h.j2 e;have:s.w.K.toNat<=1:=by cases s.w.K<;>simp
   omega
 | true=>
   obtain⟨_,_,a,d⟩:=h.j3 e;have:(!s.w.L).toNat<=1:=by cases s.w.L<;>simp
   omega
def Inv.Oy(h:Inv n pcs s)(hi:i<n)(a:pcs i=.held):s.w.L=true:=by
 have:bZ (pcs i)<=fj n (λj=>bZ (pcs j)):=iI (λj=>bZ (pcs j)) hi;rw[h.j1,a,show bZ .held=1 from rfl]at this
 grind
def Inv.QT(h:Inv n pcs s)(hi:i<n){old sv}(a:pcs i=.add old sv):s.w.L=false/\s.w.S=true/\s.w.N≠0:=by
 have:cY (pcs i)<=fj n (λj=>cY (pcs j)):=iI (λj=>cY (pcs j)) hi;rw[a,show cY (.add old sv)=1 from rfl]at this;cases e:s.w.S with
 |false=>obtain⟨_,b,_⟩:=h.j2 e;omega
 | true=>
   obtain⟨_,_,c,d⟩:=h.j3 e
   grind
end
def Bh:Pc->Bool
 |.rd _=>true|.sq ..=>true|.sw ..=>true|.jZ ..=>true|.gi _=>true|.tq=>true|.up _=>true|.add ..=>true|.held=>true|_=>false
def EV:Pc->Bool
 |.out=>true|.iU _=>true|.vp=>true|.give=>true|_=>false
def PZ  old   l :Bh (nx old l)=true:=by unfold nx;split<;>rfl
def TG{old l p}(h:p∈hd old l):Bh p=true:=by
 unfold hd at h;rw[ZA]at h;rcases h with h|h
 . split at h
   . rw[lb]at h;subst h;split<;>rfl
   . cases h
 . rw[lb]at h;subst h;rfl
def TH{p q s s'}(b:p=.hQ\/(Bh p=true/\p≠.held))(h:(q,s')∈mv p s)(e:q≠.bad):Bh q=true:=by
 rcases b with rfl|⟨b,c⟩
 . simp only[mv]at h
   split at h<;>(rw[lb,zG]at h;obtain⟨rfl,rfl⟩:=h;rfl)
 cases p<;>simp only[Bh,KD]at b
 case rd l=>simp only[mv,lb,zG]at h;obtain⟨rfl,rfl⟩:=h;exact PZ _ _
 case sq old l=>simp only[mv,ZU,zG]at h;obtain⟨a,d,rfl,rfl⟩:=h;exact TG d
 case sw old l=>simp only[mv]at h;split at h<;>(rw[lb,zG]at h;obtain⟨rfl,rfl⟩:=h;rfl)
 case jZ old l=>
  simp only[mv]at h;split at h
  . simp_all
  split at h
  . rw[lb,zG]at h;obtain⟨rfl,rfl⟩:=h;split<;>rfl
  . rw[lb,zG]at h;obtain⟨rfl,rfl⟩:=h;rfl
 case gi sv=>
  simp only[mv]at h;split at h
  . cases h
  . rw[lb,zG]at h;obtain⟨rfl,rfl⟩:=h;split<;>rfl
 case tq=>
  simp only[mv,ZW,zG,aaR,or_false]at h;rcases h with⟨rfl,rfl⟩|⟨rfl,rfl⟩<;>rfl
 case up sv=>
  simp only[mv]at h;split at h
  . split at h
    . simp_all
    . rw[lb,zG]at h;obtain⟨rfl,rfl⟩:=h;rfl
  . rw[lb,zG]at h;obtain⟨rfl,rfl⟩:=h;exact PZ _ _
 case add old sv=>simp only[mv,lb,zG]at h;obtain⟨rfl,rfl⟩:=h;rfl
 simp_all
def TJ{p q s s'}(a:p=.held\/(EV p=true/\p≠.out))(h:(q,s')∈mv p s)(c:q≠.bad):EV q=true:=by
 rcases a with rfl|⟨a,b⟩
 . simp only[mv]at h
   split at h
   . simp_all
   . rw[lb,zG]at h
     obtain⟨rfl,rfl⟩:=h;split
     . rfl
     split
     . rfl
     split<;>rfl
 cases p<;>simp only[EV,KD]at a
 case out=>simp_all
 case iU old=>simp only[mv]at h;split at h<;>(rw[lb,zG]at h;obtain⟨rfl,rfl⟩:=h;rfl)
 case vp=>simp only[mv,lb,zG]at h;obtain⟨rfl,rfl⟩:=h;split<;>rfl
 case give=>simp only[mv,lb,zG]at h;obtain⟨rfl,rfl⟩:=h;rfl
def P1{p q s s'}(b:p≠.give)(h:(q,s')∈mv p s)(a:s.ms=0):s'.ms=0:=by
 cases p<;>simp only[mv]at h
 case out=>cases h
 case bad=>cases h
 case give=>simp_all
 case sq=>grind
 case tq=>grind
 all_goals repeat' split at h
 all_goals first
  |(cases h;done)
  |(rw[lb,zG]at h;obtain⟨_,rfl⟩:=h;first|exact a|(show s.ms-1=0;omega))
end Mu
def tY:AX->Bool
 |.hQ=>true|.rd _=>true|.sq ..=>true|.sw ..=>true|.jZ ..=>true|.gi _=>true|.tq=>true|.up _=>true|.add ..=>true|.held=>true|.iU _=>true|.vp=>true|.give=>true
 |_=>false
def KP{q p}(h:To q p):p.abs=q:=by cases h<;>rfl
def TK{q p}(h:To q p)(a:Mu.Bh q=true):Cv p=true/\p≠.ld/\p≠.la:=by cases h<;>simp_all [Mu.Bh,Cv]
def TL{q p}(h:To q p)(a:Mu.EV q=true):yJ p=true/\p≠.Gq/\p≠.ur/\p≠.ud:=by cases h<;>simp_all [Mu.EV,yJ]
def KQ{q p}(h:To q p):q≠.bad:=by cases h<;>simp
section
variable{P:acw}{nm:Co}(C:fY P nm)(X:fZ P nm){n:Nat}{pcs:Nat->Mu.Pc}{s:Mu.Sh}{i:Nat}{p:AX}{b o:Nat}{kind:acr}{Wd:abZ}{cs:acf}{g:ack}{w:World}{main:Bool}
include C X in
def CC(I:Mu.Inv n pcs s)(hi:i<n)(v:n<=900)(c:pcs i=p.abs)(f:tY p=true)(a:ShM b o w s)(h:nM P nm b o kind p cs g):
 lD P nm b o kind Wd cs g w main p.abs s\/((∃sv,p=.gi sv)/\s.ms=0/\stepG P main g w=.go {g with status:=.blocked} w #[]):=by
 obtain⟨x,k⟩:=I.VZ;have hb:s.w.N<=1000:=by omega
 have j:∀{q s'},(q,s')∈Mu.mv (pcs i) s->Mu.loc q:=λ{q s'} f=>by
  have:=(I.step hi f).j0 i hi
  rwa [Mu.ai]at this
 have d:Mu.loc (pcs i):=I.j0 i hi;rw[c]at j d;cases p<;>simp only[tY,KD]at f
 case hQ=>exact .inl (HJ C X a h)
 case rd l=>exact .inl (Oh C X a hb (j (q:=Mu.nx s.w l) (s':=s) (by simp[AX.abs,Mu.mv])) h)
 case sq old l=>exact .inl (Oi C X a d h)
 case sw old l=>exact .inl (Oj C X a d h)
 case jZ old l=>exact .inl (Kt C X a d h)
 case gi sv=>
  by_cases e:s.ms=0
  . exact .inr ⟨⟨sv,rfl⟩,e,Cu C X a e h⟩
  . exact .inl (HK C X a e h)
 case tq=>exact .inl (Ok C X a h)
 case up sv=>exact .inl (Ol C X a hb (λq s' m=>j m) h)
 case add old sv=>obtain⟨r,t,u⟩:=I.QT hi c;exact .inl (Ku C X a hb r t u h)
 case held=>exact .inl (HL C X a hb (I.Oy hi c) h)
 case iU old=>exact .inl (HM C X a h)
 case vp=>exact .inl (Kv C X a hb h)
 case give=>exact .inl (HN C X a (by omega) h)
end
section
variable{P:acw}{A:bL}{Fin:abL}{Z:Base}{s:MS P}{f:Nat->Node P}{q:aco}{kk:acv}{OO:acu}{J M:ach}{gs:abP}{w:World}{t:Trace}{j:Nat}{g:ack}
def Goes  P  (A:bL) (Fin:abL) (Z:Base) (f:A.b+A.n+1<=Z.lk) (s:MS P) (gs:abP) (w:World) (t:Trace) (sl:abN) (i:Nat):Prop:=∃ops e,runT P (crowd gs w sl) i=(.next e,ops)/\∃s' f' q' kk' OO' J' M' a c d,e=crowd a c d/\MS.fU A.n s' s/\bG (bX P A Fin Z f) Z s' f' q' kk' OO' J' M' a c (t++ops)
def EW  P  (A:bL) (s:MS P) (gs:abP) (w:World) (sl:abN) (i:Nat) (g:ack):Prop:=QQ P A s i/\runT P (crowd gs w sl) i=(.next (crowd (gs.setIfInBounds i (blk g)) w sl),#[])
def CD(e:gs[A.b+j]?=some g)(a:stepG P false g w=.go {g with status:=.blocked} w #[])  sl :runT P (crowd gs w sl) (A.b+j)=(.next (crowd (gs.setIfInBounds (A.b+j) (blk g)) w sl),#[]):=by
 have hb:=A.hb;have c:(A.b+j==0)=false:=by simp;omega
 have h:=runT_crowd_go (P:=P) (sl:=sl) (i:=A.b+j) e (by rw[c];exact a)
 have d:woken P g {g with status:=.blocked} w=id:=funext λo=>by unfold Go.Conc.woken;simp
 rw[d,Array.map_id]at h;exact h
variable(C:fY P A.nm)(X:fZ P A.nm)
include C X in
def Oz  G  (H:bG (bX P A Fin Z G) Z s f q kk OO J M gs w t) (hj:j<A.n){p Y}(a:s.w j=.lk p Y) (K:gs[A.b+j]?=some g) (V:GG P A j (.lk p Y) (kk (A.b+j)) (OO (A.b+j)) g) (W:p≠.la)  sl :
 Goes P A Fin Z G s gs w t sl (A.b+j)\/EW P A s gs w sl (A.b+j) g:=by
 have m:cV P A Z s kk OO J M gs.size w t:=H.ex;have a7:Cv p=true:=by have:=m.I.ok j hj;rw[a]at this;exact this
 have L:(s.w j).jS=true:=by rw[a];rfl
 have v:=iJ L;have l:(s.w j).pc=p.abs:=by rw[a];rfl
 have hn:=A.hn;have hb:=A.hb;have aC:(A.b+j==0)=false:=by simp;omega
 obtain⟨kind,c,rest,e,Q,R,S,T,o,r,U⟩:=V
 by_cases N:tY p=true
 . rcases CC (Wd:=kI A) (main:=false) C X m.I.mu hj hn l N m.mu R with⟨g1,w',es,qq,s',z,i,B,D,⟨hr,E,⟨k,d⟩,F⟩,a8,a9,ad,al⟩|⟨⟨sv,rfl⟩,u,i⟩
   . left
     have av:Mu.Bh qq=true:=Mu.TH (by cases p<;>simp_all [Cv,tY,AX.abs,Mu.Bh]) B (KQ D)
     obtain⟨k1,k2,k3⟩:=TK D av;have y:((bo.lk z Y).pc,s')∈Mu.mv (s.w j).pc s.sh:=by rw[l,show(bo.lk z Y).pc=z.abs from rfl,KP D];exact B
     have ax:(s.w j).deaf=1:=by rw[a];cases p<;>simp_all [bo.deaf,tY,Cv]
     have ay:(bo.lk z Y).deaf=1:=by cases z<;>simp_all [bo.deaf]
     refine xf (x:=.lk z Y) G H hj L rfl (by rw[a];rfl) (λ_=>by rw[a];rfl) (m.I.mv hj v rfl k1 y) (GJ m.I hj v rfl (by rw[a];rfl) y ?_) K i a8 a9 ad (by rw[al,ax,ay]) ⟨k,E,d,kind,c,rest,e,Q,F,S,T,o,r,U⟩ (.inl λu=>Mu.P1 ?_ B u) sl
     . cases z<;>simp_all [bo.ex]
     . cases p<;>simp_all [tY,Cv,AX.abs]
   . right
     exact⟨.inl ⟨j,sv,Y,hj,rfl,a,u⟩,CD K i sl⟩
 . cases p<;>simp only[tY,Cv,not_true_eq_false,KD]at N a7
   case ld=>obtain⟨g1,i,hr,E,⟨k,d⟩,F⟩:=AY (Wd:=kI A) (main:=false) (w:=w) C X R;left;exact xf (x:=.lk .hQ Y) (sh:=s.sh) G H hj L rfl (by rw[a];rfl) (λ_=>by rw[a];rfl) (m.I.Xg hj v rfl rfl l rfl) (KM hj v rfl (by rw[a];rfl) l rfl (by rw[a];rfl) rfl) K i (bf rfl) m.mu (λe O=>by simp at O;subst O;exact .inl (.inl rfl)) (by rw[a];rfl) ⟨k,E,d,kind,c,rest,e,Q,F,S,T,o,r,U⟩ (.inl λu=>u) sl
   case t1 sv=>obtain⟨g1,i,hr,E,⟨k,d⟩,F⟩:=Of (Wd:=kI A) (main:=false) (w:=w) C X R;left;exact xf (x:=.lk (.gi sv) Y) (sh:=s.sh) G H hj L rfl (by rw[a];rfl) (λ_=>by rw[a];rfl) (m.I.still hj v rfl rfl (by rw[l];rfl)) (lF hj v rfl (by rw[a];rfl) (by rw[l];rfl) (by rw[a];simp[bo.ex])) K i (bf rfl ⟨⟨w.tick,rfl⟩,rfl⟩) (m.mu.heap rfl) fE (by rw[a];rfl) ⟨k,E,d,kind,c,rest,e,Q,F,S,T,o,r,U⟩ (.inl λu=>u) sl
   case le=>
    obtain⟨g1,i,hr,E,⟨k,d⟩,F⟩:=Gv (Wd:=kI A) (main:=false) (w:=w) C X (λw h=>h.2.2) R
    left;exact xf (x:=.lk .la Y) (sh:=s.sh) G H hj L rfl (by rw[a];rfl) (λ_=>by rw[a];rfl) (m.I.still hj v rfl rfl (by rw[l];rfl)) (lF hj v rfl (by rw[a];rfl) (by rw[l];rfl) (by rw[a];simp[bo.ex])) K i (bf rfl) m.mu (λe O=>by simp at O;subst O;exact .inl (.inr rfl)) (by rw[a];rfl) ⟨k,E,d,kind,c,rest,e,Q,F,S,T,o,r,U⟩ (.inl λu=>u) sl
   case la=>exact absurd rfl W
end
section
variable{P:acw}{A:bL}{Fin:abL}{Z:Base}{s:MS P}{f:Nat->Node P}{q:aco}{kk:acv}{OO:acu}{J M:ach}{gs:abP}{w:World}{t:Trace}{j:Nat}{g:ack}
variable(C:fY P A.nm)(X:fZ P A.nm)
include C X in
def OA  B  (L:bG (bX P A Fin Z B) Z s f q kk OO J M gs w t) (hj:j<A.n){p Y}(a:s.w j=.un p Y) (Q:gs[A.b+j]?=some g) (R:GG P A j (.un p Y) (kk (A.b+j)) (OO (A.b+j)) g) (S:p≠.ur) (T:p≠.ue)  sl :
 Goes P A Fin Z B s gs w t sl (A.b+j):=by
 have m:cV P A Z s kk OO J M gs.size w t:=L.ex;have F:yJ p=true:=by have:=m.I.ok j hj;rw[a]at this;exact this
 have N:(s.w j).jS=true:=by rw[a];rfl
 have D:=iJ N;have i:(s.w j).pc=p.abs:=by rw[a];rfl
 have hn:=A.hn;have hb:=A.hb;obtain⟨kind,c,rest,U,O,V,W,G⟩:=R
 by_cases u:tY p=true
 . have a7:¬(p=.Gq\/p=.ur):=by rintro(rfl|rfl)<;>cases u
   have hN:=G a7
   rcases CC (Wd:=kI A) (main:=false) C X m.I.mu hj hn i u m.mu O with⟨g1,w',es,qq,s',o,l,y,z,⟨hr,H,⟨k,d⟩,K⟩,a8,a9,ad,al⟩|⟨⟨sv,rfl⟩,E,l⟩
   . have av:Mu.EV qq=true:=Mu.TJ (by cases p<;>simp_all [yJ,tY,AX.abs,Mu.EV]) y (KQ z)
     obtain⟨k1,k2,k3,k4⟩:=TL z av;have r:((bo.un o Y).pc,s')∈Mu.mv (s.w j).pc s.sh:=by rw[i,show(bo.un o Y).pc=o.abs from rfl,KP z];exact y
     have ax:(s.w j).deaf=1:=by rw[a];cases p<;>simp_all [bo.deaf,tY,yJ]
     have ay:(bo.un o Y).deaf=1:=by cases o<;>simp_all [bo.deaf]
     have aC:(s.w j).owns=false:=by rw[a];cases p<;>simp_all [bo.owns,tY,yJ]
     have aE:(bo.un o Y).owns=false:=by cases o<;>simp_all [bo.owns]
     refine xf (x:=.un o Y) B L hj N rfl (by rw[aC,aE]) (λ_=>by rw[a];rfl) (m.I.mv hj D rfl k1 r) (GJ m.I hj D rfl (by rw[a];rfl) r ?_) Q l a8 a9 ad (by rw[al,ax,ay]) ⟨k,H,d,kind,c,rest,U,K,V,λh=>absurd h (λh=>h.elim k2 k3),λ_=>hN⟩ ?_ sl
     . cases o<;>simp_all [bo.ex]
     . by_cases aL:p=.give
       . subst aL;exact .inr ⟨HT C X O,hr⟩
       . refine .inl λE=>Mu.P1 ?_ y E
         cases p<;>simp_all [tY,yJ,AX.abs]
   . exact absurd F (by simp[yJ])
 . cases p<;>simp only[tY,yJ,not_true_eq_false,KD]at u F
   case Gq=>
    obtain⟨v,hv⟩:=((bd (P:=P) (A:=A) (Fin:=Fin) (Z:=Z) B).wd m).2.2;obtain⟨g1,l,hr,H,⟨k,d⟩,K⟩:=wU (Wd:=kI A) (main:=false) (w:=w) C X (λw h=>h.2.2) hv O
    exact xf (x:=.un .ur Y) (sh:=s.sh) B L hj N rfl (by rw[a];rfl) (λ_=>by rw[a];rfl) (m.I.still hj D rfl rfl (by rw[i];rfl)) (lF hj D rfl (by rw[a];rfl) (by rw[i];rfl) (by rw[a];simp[bo.ex])) Q l (bf rfl) m.mu fE (by rw[a];rfl) ⟨k,H,d,kind,c,rest,U,K,V,λ_=>W (.inl rfl),λh=>absurd (.inr rfl) h⟩ (.inl λE=>E) sl
   case ud=>
    have hN:=G (by rintro(h|h)<;>cases h)
    obtain⟨g1,l,hr,H,⟨k,d⟩,K⟩:=Gs (Wd:=kI A) (main:=false) (w:=w) C X O;exact xf (x:=.un .held Y) (sh:=s.sh) B L hj N rfl (by rw[a];rfl) (λ_=>by rw[a];rfl) (m.I.still hj D rfl rfl (by rw[i];rfl)) (lF hj D rfl (by rw[a];rfl) (by rw[i];rfl) (by rw[a];simp[bo.ex])) Q l (bf rfl) m.mu (λe he=>by simp at he;subst he;exact .inl (.inl rfl)) (by rw[a];rfl) ⟨k,H,d,kind,c,rest,U,K,V,λh=>absurd h (by simp),λ_=>hN⟩ (.inl λE=>E) sl
   case ur=>exact absurd rfl S
   case ue=>exact absurd rfl T
end
def TT.QU{P m K O g1 a}(h:sx P (λ_=>True) g1 a)(e:TT P m K O a):TT P m K O g1:=.step (λb c d=>b=K/\c=O/\d=a) h.1 (λb c d f=>by obtain⟨rfl,rfl,rfl⟩:=f;exact e) (λw g=>⟨a,w,#[],K,O,h.2 _ w trivial,Eff.refl _ _ _,g,rfl,rfl,rfl⟩)
def TT.CE{P m K O g1 c}  h   a  {z:Node P}(b:oY z ⟨m,K,O,g1,TT.QU h a⟩):z=⟨m,K,O,c,a⟩:=by
 unfold TT.QU at b;cases b with
 |step _ _ _ _ d=>obtain⟨rfl,rfl,rfl⟩:=d;rfl
def TT.pre{P m K O}:∀{k g1 a},iV P (λ_=>True) k g1 a->(X:TT P m K O a)->∃T ,uX ⟨m,K,O,g1,T⟩ ⟨m,K,O,a,X⟩
 |0,g1,a,h,X=>by obtain rfl:g1=a:=h;exact⟨X,.refl _⟩
 | k + 1,g1,a,⟨d,c,h⟩,X=>by
   obtain⟨b,g⟩:=TT.pre h X;refine⟨TT.QU c b,λy hy f=>?_⟩;rcases hy with rfl|hy
   . exact f.elim
   . have:y=⟨m,K,O,d,b⟩\/Relation.TransGen oY y ⟨m,K,O,d,b⟩:=by
      cases hy with
      |single h=>exact .inl (TT.CE c b h)
      | tail i j=>
        have e:=TT.CE c b j
        simp_all
     exact g y this f
section
variable{P:acw}{A:bL}{Fin:abL}{Z:Base}{s:MS P}{f:Nat->Node P}{q:aco}{kk:acv}{OO:acu}{J M:ach}{gs:abP}{w:World}{t:Trace}{j:Nat}{g:ack}
def jT(hj:j<A.n){h X}(e:s.w j=.run h X):dw P A s (A.b+j):=.inr (.inl ⟨j,hj,rfl,by simp_all⟩)
def tZ(hj:j<A.n){h X}(e:s.w j=.run h X):¬ga P A s (A.b+j):=by
 have:=A.hb;rintro(⟨e,_⟩|⟨l,a,c,d⟩|⟨e,_⟩)
 . omega
 . simp_all
 . omega
def jG(hj:j<A.n){h X}(e:s.w j=.run h X):¬fe P A s (A.b+j):=by
 have:=A.hb;rintro(⟨e,_⟩|⟨l,a,c,d⟩)
 . omega
 simp_all
def nD(hj:j<A.n){h X}(e:s.w j=.run h X):cB P A Fin s (A.b+j)=ib P A j:=by
 have:=A.hb;unfold cB
 grind
variable(C:fY P A.nm)(X:fZ P A.nm)(F:lY P A.nm)
include C X F in
def OB  z  (D:bG (bX P A Fin Z z) Z s f q kk OO J M gs w t) (hj:j<A.n){Y}(E:s.w j=.un .ue Y) (hg:gs[A.b+j]?=some g) (W:GG P A j (.un .ue Y) (kk (A.b+j)) (OO (A.b+j)) g) (d:A.dir=false)  sl :
 Goes P A Fin Z z s gs w t sl (A.b+j):=by
 have p:cV P A Z s kk OO J M gs.size w t:=D.ex;have B:=bd (P:=P) (A:=A) (Fin:=Fin) (Z:=Z) z;have h1:(s.w j).jS=true:=by rw[E];rfl
 have u:=iJ h1;have hb:=A.hb;have a7:(A.b+j==0)=false:=by simp;omega
 obtain⟨kind,c,rest,hk,hM,hm,ay,a8⟩:=W;have G:=a8 (by simp)
 rw[show Ek P A Y.N=Y.N by simp[Ek,d]]at G
 obtain⟨g1,a9,hr,g2,H,K⟩:=AZ (Wd:=λ_=>True) (main:=false) (w:=w) C X hM
 obtain⟨k,ad⟩:=H.trans (lE F K hk);obtain⟨T,hU⟩:=TT.pre ad (Y.c _ _ _ G);obtain⟨x,v⟩:∃x:bo P,x=.run false ⟨Y.m,kk (A.b+j),OO (A.b+j),_,Y.c _ _ _ G⟩:=⟨_,rfl⟩;have V:x.work=true:=by rw[v];rfl
 have a:∀sh,((s.aT j x sh).w j)=.run false ⟨Y.m,kk (A.b+j),OO (A.b+j),_,Y.c _ _ _ G⟩:=λsh=>by rw[aU,v]
 have al:EvM A.fb A.fo #[⟨.mark .enable,false,true⟩]:=λe he=>by simp at he;subst he;exact .inl (.inr rfl)
 have L:=runT_crowd_go (P:=P) (sl:=sl) (i:=A.b+j) hg (by rw[a7];exact a9)
 have Q:bR P A s (A.b+j):=iA p.I hj (bC u).2.2.2.2.1;obtain⟨y1,y2,y3⟩:=p.KO al Q g.frame.fn g.frame.place;have o:∀op∈MemOp.ofEvents (A.b+j) g.frame.fn g.frame.place #[⟨.mark .enable,false,true⟩],op.g=A.b+j:=λop av=>by obtain⟨e,_,rfl⟩:=zR av;rfl
 have hJ:J (A.b+j):=(p.hJ _).2 (vH hj (bC u).2.2.2.2.2.1);have hP:=D.cL.sync (i:=A.b+j) (.inr hJ) o rfl ⟨⟨.refl _,rfl⟩,λ_ _=>rfl⟩ (λb=>.inl rfl) y2 y1
 have hI:bP A.n (s.aT j x s.sh):=p.I.still hj u V (by rw[v];rfl) (by rw[v,E];rfl)
 have hL:MS.fU A.n (s.aT j x s.sh) s:=Be hj u V ⟨_,_,by rw[v];rfl,by rw[E];rfl,.single (oY.c8 Y.N Y.h0 Y.ht Y.c G)⟩
 have R:cV P A Z (s.aT j x s.sh) kk OO J M gs.size w (t++MemOp.ofEvents (A.b+j) g.frame.fn g.frame.place #[⟨.mark .enable,false,true⟩]):=p.work hj u V (by rw[v,E];rfl) (λh=>by rw[d]at h;cases h) hI p.mu (λ_ _=>rfl) p.uW y3
 have r:Beside (bX P A Fin Z z) s (s.aT j x s.sh) f (bQ f (A.b+j) ⟨Y.m,kk (A.b+j),OO (A.b+j),g1,T⟩) q q kk kk OO OO J J w (A.b+j) g g1:=my z hj u V (λi hi=>au _ _ hi) (λi hi=>rfl) (λ_ _ _=>rfl) (λ_ _ _=>rfl) (λ_ h=>h) (.inl λh=>h) (λ{i k O y} K=>B.kz (s:=s) (i:=i) (k:=k) (O:=O) (g:=y) K)
 have S:=iK (P:=P) (A:=A) (s:=s) hj h1;refine⟨_,_,L,s.aT j x s.sh,bQ f (A.b+j) ⟨Y.m,kk (A.b+j),OO (A.b+j),g1,T⟩,q,kk,OO,J,M,_,_,_,rfl,hL,?_⟩;refine bG.step B D hg o hP R (λl y hl K=>?_) r ⟨λ_=>?_,λh=>absurd h (tZ hj (a _)),λh=>absurd h (jG hj (a _)),λh=>absurd (jT hj (a _)) h⟩
 . have U:l≠A.b+j:=λe=>(D.held l hl).2.1 (by rw[e];exact S)
   exact B.sA R ((r.held l U).2 hl) _ _ (r.Sn l _ _ _ U hl K)
 . rw[an]
   refine⟨by show A.b+j<A.b+A.n+1;omega,rfl,?_,rfl,rfl,hr,?_,.inr hJ,λl b X' h3 h4 h5=>?_⟩
   . show Y.m=cB P A Fin (s.aT j x s.sh) (A.b+j)
     rw[nD hj (a _)];exact hm
   . obtain⟨_,_,ax,_⟩:=D.walk _ S
     rw[Deaf_own,ax];show deafBehind (dI P A s (A.b+j)) _=0;rw[eD hj,E];rfl
   . obtain rfl:l=j:=by omega
     rw[a]at h5;cases h5;exact hU
end
section
variable{Z:Base}{kk:acv}{OO:acu}{J M:ach}{w:World}{t:Trace}
def iL(kk:acv)(lk i:Nat):acv:=bQ kk i ((kk i).join (kk lk))
def ij(OO:acu)(lk i mb:Nat)(x:Own):acu:=bQ (bQ OO i ((OO i).set mb x)) lk aj.bot
def cx.TM(h:cx Z kk OO J M w t){i mb x}(hi:i≠Z.lk)(L:OO Z.lk mb=some x)(ho:∀c,OO Z.lk c≠none->c=mb)(N:Z.la.block<w.heap.size)(hd:Deaf t i=0)(hold:∀m a,m<Z.N0->touchAt t m=some a->a.loc.isMemory=true -> ¬Z.Shun a.loc->Knows t i m)(V:∀m a,Z.N0<=m->t.act? m≠some (.mark (.release a)))  fn   pos :
 cx Z (iL kk Z.lk i) (ij OO Z.lk i mb x) J M w (t++MemOp.ofEvents i fn pos #[⟨.mark (.acquire Z.la),false,true⟩]):=by
 obtain⟨u,S⟩:∃u,u=MemOp.ofEvents i fn pos #[⟨.mark (.acquire Z.la),false,true⟩]:=⟨_,rfl⟩;have G:u=#[⟨i,fn,pos,.mark (.acquire Z.la)⟩]:=by rw[S,ofEvents_eq];simp[MemAct.ofEvent]
 rw[<-S];have A:j8 u:=λop d=>by grind
 have W:∀op∈u,op.act.touch?=none:=λop d=>by rw[G]at d;simp at d;subst d;rfl
 have H:∀op∈u,op.g=i:=λop d=>by grind
 have I:∀m a,Z.N0<=m->(t++u).act? m≠some (.mark (.release a)):=λm a O e=>by
  rcases qu e with⟨o,_⟩|⟨op,d,o⟩
  . grind
  grind
 have X:OO i mb=none:=h.je Z.lk i mb x (zj hi) L;have eK:∀l,l≠i->iL kk Z.lk i l=kk l:=λl Y=>au _ _ Y
 have q:iL kk Z.lk i i=(kk i).join (kk Z.lk):=an _ _ _;have eO:∀l,l≠i->l≠Z.lk->ij OO Z.lk i mb x l=OO l:=λl o B=>by unfold ij;rw[au _ _ B,au _ _ o]
 have C:ij OO Z.lk i mb x i=(OO i).set mb x:=by unfold ij;rw[au _ _ hi,an]
 have D:ij OO Z.lk i mb x Z.lk=aj.bot:=by unfold ij;rw[an]
 refine h.tK (λa b=>a=b\/(a=Z.lk/\b=i)) rfl ⟨⟨.refl _,rfl⟩,λ_ _=>rfl⟩ (λb=>.inl rfl) (λop d=>by rw[G]at d;simp at d;subst d;simpa[MemAct.low]using N) (λa b e n y P O hz E=>?_) (λl b n v K=>?_) (λl b sv K=>?_) (λl b y f=>?_) (λa l b y r f=>?_)
  (λsaid=>noRace_append (h.clean said) H λn a Q op d b hb _=>by grind) (λop d a Q=>by grind) (λm op a d Q=>by grind)
  (λn a Q O h=>h.elim (λ⟨j,o,B⟩=>.inr (.inl ⟨j,o,B.app _⟩)) (λ⟨p,o,B⟩=>.inr (.inr (.inl ⟨p,o,B.app _⟩))))
 . rcases e with rfl|⟨rfl,rfl⟩
   . exact E.app u
   . refine(nX hi).2 ?_
     unfold HB at E;rw[ZG rfl]at E
     rcases E with E|⟨p,h0,o,B,h3⟩
     . exact(hold n y E P O hz).app u
     . exact mR (y:=⟨b,fn,pos,.mark (.acquire Z.la)⟩) (m:=0) A (by grind) rfl hd o B (λk E=>I k _ (by omega)) h3
 . by_cases e:l=i
   . subst e;rw[q]at K
     exact(ao.ny K).elim (λh=>⟨l,.inl rfl,h⟩) (λh=>⟨Z.lk,.inr ⟨rfl,rfl⟩,h⟩)
   grind
 . by_cases e:l=i
   . subst e;rw[q]at K
     exact(ao.Gi K).elim (λh=>⟨l,.inl rfl,h⟩) (λh=>⟨Z.lk,.inr ⟨rfl,rfl⟩,h⟩)
   grind
 . by_cases e:l=i
   . subst e;rw[C]at f
     by_cases z:b=mb
     . subst z
       simp only[aj.set,ZD,kn]at f;subst f;exact⟨Z.lk,.inr ⟨rfl,rfl⟩,L,λsv R=>by rw[q];exact(ao.wJ (h.sat l) (h.sat Z.lk)).2 b sv R⟩
     . simp only[aj.set,z,LK]at f
       exact⟨l,.inl rfl,f,λsv R=>by rw[q];exact(ao.sm _ _).2 b sv R⟩
   . by_cases T:l=Z.lk
     . subst T;rw[D]at f;cases f
     . rw[eO l e T]at f;grind
 . by_cases F:a=Z.lk
   . subst F;rw[D]at f;cases f
   by_cases s:l=Z.lk
   . subst s;rw[D];rfl
   by_cases U:a=i
   . subst U
     rw[C]at f;rw[eO l (zj r) s]
     by_cases z:b=mb
     . subst z;exact h.je Z.lk l b x (zj s) L
     . simp only[aj.set,z,LK]at f;exact h.je a l b y r f
   . rw [eO a U F]at f
     by_cases el:l=i
     . subst el
       rw[C]
       by_cases z:b=mb
       . subst z
         have:=h.je Z.lk a b x (zj F) L
         simp_all
       . simp only[aj.set,z,LK];exact h.je a l b y r f
     . rw[eO l el s];exact h.je a l b y r f
end
section
variable{Z:Base}{kk:acv}{OO:acu}{J M:ach}{w:World}{t:Trace}
def og(kk:acv)(lk i:Nat):acv:=bQ kk lk (kk i)
def fF(OO:acu)(lk i mb fb:Nat)(x:Own):acu:=bQ (bQ OO i (((OO i).del mb).del fb)) lk (aj.bot.set mb x)
def cx.TN(h:cx Z kk OO J M w t){i mb fb x}(hi:i≠Z.lk)(T:OO i mb=some x)(ho:∀c,OO Z.lk c=none)(N:Z.la.block<w.heap.size)(hd:Deaf t i=0)  fn   pos :
 cx Z (og kk Z.lk i) (fF OO Z.lk i mb fb x) J M w (t++MemOp.ofEvents i fn pos #[⟨.mark (.releaseMerge Z.la),false,true⟩]):=by
 obtain⟨u,R⟩:∃u,u=MemOp.ofEvents i fn pos #[⟨.mark (.releaseMerge Z.la),false,true⟩]:=⟨_,rfl⟩;have F:u=#[⟨i,fn,pos,.mark (.releaseMerge Z.la)⟩]:=by rw[R,ofEvents_eq];simp[MemAct.ofEvent]
 rw[<-R];have s:j8 u:=λop d=>by grind
 have U:∀op∈u,op.act.touch?=none:=λop d=>by rw[F]at d;simp at d;subst d;rfl
 have G:∀op∈u,op.g=i:=λop d=>by grind
 have z:u[0]?=some ⟨i,fn,pos,.mark (.releaseMerge Z.la)⟩:=by grind
 have eK:∀l,l≠Z.lk->og kk Z.lk i l=kk l:=λl V=>au _ _ V
 have W:og kk Z.lk i Z.lk=kk i:=an _ _ _;have eO:∀l,l≠i->l≠Z.lk->fF OO Z.lk i mb fb x l=OO l:=λl H I=>by unfold fF;rw[au _ _ I,au _ _ H]
 have k:fF OO Z.lk i mb fb x i=((OO i).del mb).del fb:=by unfold fF;rw[au _ _ hi,an]
 have A:fF OO Z.lk i mb fb x Z.lk=aj.bot.set mb x:=by unfold fF;rw[an]
 have K:∀b y,(((OO i).del mb).del fb) b=some y->b≠mb/\OO i b=some y:=λb y f=>by
  by_cases q:b=fb
  . simp[aj.del,q]at f
  by_cases r:b=mb
  . simp[aj.del,r]at f
  . exact⟨r,by simpa[aj.del,q,r]using f⟩
 have L:∀b y,(aj.bot.set mb x) b=some y->b=mb/\y=x:=λb y f=>by
  by_cases e:b=mb
  . subst e;simp only[aj.set,ZD,kn]at f;simp_all
  . simp only[aj.set,e,LK]at f;cases f
 have B:∀b,OO i b=none->(((OO i).del mb).del fb) b=none:=λb X=>by
  by_cases q:b=fb
  . simp[aj.del,q]
  by_cases r:b=mb
  . grind
  . simpa[aj.del,q,r]using X
 refine h.tK (λa b=>a=b\/(a=i/\b=Z.lk)) rfl ⟨⟨.refl _,rfl⟩,λ_ _=>rfl⟩ (λb=>.inl rfl) (λop d=>by rw[F]at d;simp at d;subst d;simpa[MemAct.low]using N) (λa b e n y Y hm hz S=>?_) (λl b n v hv=>?_) (λl b sv hv=>?_) (λl b y f=>?_) (λa l b y o f=>?_)
  (λsaid=>noRace_append (h.clean said) G λn a O op d b hb _=>by grind) (λop d a O=>by grind) (λm op a d O=>by grind)
  (λn a O hm h=>h.elim (λ⟨j,H,I⟩=>.inr (.inl ⟨j,H,I.app _⟩)) (λ⟨p,H,I⟩=>.inr (.inr (.inl ⟨p,H,I.app _⟩))))
 . rcases e with rfl|⟨rfl,rfl⟩
   . exact S.app u
   . have P:Knows t a n:=(nX hi).1 S
     unfold HB;rw[ZG rfl];exact .inr ⟨t.size+0,by have:=h.n0;omega,by rw[act?_of (dp z)],heard_new s z hd,lx P z rfl⟩
 . grind
 . grind
 . by_cases r:l=Z.lk
   . subst r;rw[A]at f
     grind
   by_cases e:l=i
   . subst e;rw[k]at f
     grind
   . rw[eO l e r]at f;grind
 . by_cases C:a=Z.lk
   . subst C;rw[A]at f
     obtain⟨rfl,rfl⟩:=L b y f
     by_cases el:l=i
     . subst el;rw[k]
       by_cases q:b=fb
       . simp[aj.del,q]
       . simp[aj.del,q]
     . rw[eO l el (zj o)];exact h.je i l b y (zj el) T
   by_cases D:l=Z.lk
   . subst D;rw[A]
     have Q:b≠mb:=by
      by_cases E:a=i
      . subst E;rw[k]at f;grind
      . rw[eO a E C]at f
        intro e;subst e;have:=h.je a i b y E f
        grind
     simp only[aj.set,Q,LK];rfl
   by_cases E:a=i
   . subst E
     rw[k]at f;rw[eO l (zj o) D];exact h.je a l b y o (K b y f).2
   . rw[eO a E C]at f
     by_cases el:l=i
     . subst el;rw[k];exact B b (h.je a l b y o f)
     . rw[eO l el D];exact h.je a l b y o f
end
section
variable{P:acw}{A:bL}{Fin:abL}{Z:Base}{s:MS P}{f:Nat->Node P}{q:aco}{kk:acv}{OO:acu}{J M:ach}{gs:abP}{gsz:Nat}{w:World}{t u:Trace}{j:Nat}{g:ack}{x:bo P}{xo:Own}
def HU{x:bo P}(h:x.owns=true):x.pc=.held:=by
 cases x with
 |run b X=>cases b<;>simp_all [bo.owns,bo.pc]
 |un p Y=>cases p<;>simp_all [bo.owns,bo.pc,AX.abs]
 |_=>simp_all [bo.owns]
def CG(I:bP A.n s)(hj:j<A.n)(a:(s.w j).pc=.held){l}(b:l<A.n)(c:(s.w l).owns=true):l=j:=by
 by_cases e:l=j
 . exact e
 . have g:=I.mu.j1
   have d:=Mu.fX Mu.bZ (λi=>(s.w i).pc) j .out hj
   have f:Mu.bZ (Mu.set (λi=>(s.w i).pc) j .out l)<=Mu.fj A.n (λi=>Mu.bZ (Mu.set (λi=>(s.w i).pc) j .out i)):=Mu.iI (λi=>Mu.bZ (Mu.set (λi=>(s.w i).pc) j .out i)) b
   rw[Mu.ah _ _ e,HU c]at f;have h:Mu.bZ .held=1:=rfl;have k:Mu.bZ .out=0:=rfl;rw[a]at d;have:s.sh.w.L.toNat<=1:=by cases s.sh.w.L<;>simp
   omega
def kA(A:bL)(Z:Base)(OO:acu)(i:Nat)(x:Own)(a:Nat->abX):acu:=bQ (ij OO Z.lk i A.mb x) i ((ij OO Z.lk i A.mb x i).set A.fb (.part a))
def bL.Tk.NS{f}(h:A.Tk j f){l}(a:f l≠none):A.dir=true/\l=A.cell j:=by
 unfold bL.Tk at h;split at h
 . grind
 . subst h;exact absurd rfl a
def cV.take{p}(H:A.Tk j p)(hZ:A.b+A.n+1<=Z.lk)(h:cV P A Z s kk OO J M gsz w t)(hj:j<A.n)(f:(s.w j).work=true)(K:x.work=true)(L:∀l,l<A.n->(s.w l).owns=false)(F:x.owns=true)(V:bP A.n (s.aT j x s.sh))(W:∀op∈u,op.act.touch?=none/\∀a,op.act≠.mark (.release a)):
 cV P A Z (s.aT j x s.sh) (iL kk Z.lk (A.b+j)) (kA A Z OO (A.b+j) xo p) J M gsz w (t++u):=by
 have S:A.b+j≠Z.lk:=by omega
 have r:x.busy=(s.w j).busy:=by rw[(bC f).2.2.2.2.2.1,(bC K).2.2.2.2.2.1]
 have N:∀l,l≠A.b+j->iL kk Z.lk (A.b+j) l=kk l:=λl d=>au _ _ d
 have O:iL kk Z.lk (A.b+j) (A.b+j)=(kk (A.b+j)).join (kk Z.lk):=an _ _ _;have eO:∀l,l≠A.b+j->l≠Z.lk->kA A Z OO (A.b+j) xo p l=OO l:=λl f K=>by unfold kA ij;rw[au _ _ f,au _ _ K,au _ _ f]
 have z:kA A Z OO (A.b+j) xo p (A.b+j)=((OO (A.b+j)).set A.mb xo).set A.fb (.part p):=by unfold kA ij;rw[an,au _ _ S,an]
 have B:kA A Z OO (A.b+j) xo p Z.lk=aj.bot:=by unfold kA ij;rw[au _ _ (zj S),an]
 have C:bR P A s (A.b+j):=iA h.I hj (bC f).2.2.2.2.1
 have T:∀i,OO i A.fb=none:=λi=>by
  cases e:OO i A.fb with
  |none=>rfl
  | some y=>
    obtain⟨l,_,d,_,ho,_⟩:=h.tok i y e
    grind
 have g:∀{c n:Nat},(∀i,(kk i).cell c n=none)->(iL kk Z.lk (A.b+j) (A.b+j)).cell c n=none:=λ{c n} X=>by
  rw[O];cases e:((kk (A.b+j)).join (kk Z.lk)).cell c n with
  |none=>rfl
  |some v=>rcases ao.ny e with h|h<;>rw[X]at h<;>cases h
 refine⟨V,h.size,h.dd,h.off,λhd l d=>?_,h.zx,h.mu,h.gr,h.uW,h.yK,λi=>?_,λi=>?_,λi y D=>?_,λl d k=>?_,λk=>?_,λc U=>?_,
  λi=>by rw[h.hJ i];exact(od hj r i).symm,h.uY u,h.mr u,h.jR u (λop o a Q=>by simp_all),h.oc u (λop o a Q=>by simp_all),h.pD u,h.jh u (λop o=>(W op o).2),λi d hb=>?_,h.su,h.jF,h.eT,h.la,by simp;exact ZH h.n0 (aas _ _)⟩
 . by_cases e:l=j
   . subst e
     rw[aU];exact⟨λE=>by(rw[zy F]at E;cases E),λR=>by simp[bo.rel,F]at R⟩
   . rw[cr e]
     refine⟨λE=>⟨λi=>?_,λm a Y Q q q'=>(dQ Q).elim (λf=>((h.yx hd l d).1 E).2 m a Y f.1 q q') (λ⟨op,o,f⟩=>by simp_all)⟩,λR=>?_⟩
     . have f:=((h.yx hd l d).1 E).1
       grind
     . rw[N _ (by omega)];exact(h.yx hd l d).2 R
 . by_cases e:i=A.b+j
   . subst e;rw[z]
     have:=h.gg (A.b+j);simp only[aj.set,A.d1,A.d3,zj A.d4,A.d6,LK];exact this
   by_cases G:i=Z.lk
   . subst G;rw[B];exact⟨λ_=>rfl,rfl⟩
   . rw[eO i e G];exact h.gg i
 . by_cases e:i=A.b+j
   . subst e
     exact⟨g λi=>(h.eo i).1,g λi=>(h.eo i).2.1,g λi=>(h.eo i).2.2.1,g λi=>(h.eo i).2.2.2⟩
   . rw[N i e];exact h.eo i
 . by_cases e:i=A.b+j
   . subst e;rw[z]at D
     simp only[aj.set,ZD,kn]at D;exact⟨j,p,hj,rfl,by rw[aU];exact F,D.symm,λ_=>H.NS⟩
   by_cases G:i=Z.lk
   . subst G;rw[B]at D;cases D
   simp_all
 . by_cases e:l=j
   . subst e;rw[z];simp[aj.set]
   . rw[cr e,L l d]at k;cases k
 . have:=k j hj
   rw[aU,F]at this;cases this
 . rw[B]at U;exact absurd rfl U
 . have e:i≠A.b+j:=λe=>hb (e ▸ C)
   rw[N i e,eO i e d];exact h.Cx i d hb
end
section
variable{P:acw}{A:bL}{Fin:abL}{Z:Base}{s:MS P}{f:Nat->Node P}{q:aco}{kk:acv}{OO:acu}{J M:ach}{gs:abP}{w:World}{t:Trace}{j:Nat}{g:ack}
variable(C:fY P A.nm)(X:fZ P A.nm)(F:lY P A.nm)
include C X F in
def OC  hZ  (H:bG (bX P A Fin Z hZ) Z s f q kk OO J M gs w t) (hj:j<A.n){Y}(S:s.w j=.lk .la Y) (hg:gs[A.b+j]?=some g) (b6:GG P A j (.lk .la Y) (kk (A.b+j)) (OO (A.b+j)) g)  sl :
 Goes P A Fin Z hZ s gs w t sl (A.b+j):=by
 have d:cV P A Z s kk OO J M gs.size w t:=H.ex;have B:=bd (P:=P) (A:=A) (Fin:=Fin) (Z:=Z) hZ;have r:(s.w j).jS=true:=by rw[S];rfl
 have w1:=iJ r;have b7:(s.w j).pc=.held:=by rw[S];rfl
 have hb:=A.hb;have o:A.b+j≠Z.lk:=by omega
 have b8:(A.b+j==0)=false:=by simp;omega
 have U:∀l,l<A.n->(s.w l).owns=false:=λl E=>by
  cases e:(s.w l).owns with
  |false=>rfl
  |true=>obtain rfl:=CG d.I hj b7 E e;rw[S]at e;cases e
 have L:∀i,OO i A.fb=none:=λi=>by
  cases e:OO i A.fb with
  |none=>rfl
  |some y=>obtain⟨l,_,E,_,ho,_⟩:=d.tok i y e;rw[U l E]at ho;cases ho
 obtain⟨xo,a,a9,b9,bb⟩:=d.NQ U;obtain⟨kind,c,rest,e,hk,hM,hm,hO,al,bm,hN⟩:=b6;obtain⟨cc,ee,av⟩:=d.uW
 have ax:e=(ee,cc.size):=by have hs:=(H.cL.sat (A.b+j)).sh _ _ al;simp only[World.shape?,av]at hs;exact(ZR hs).symm
 obtain⟨p,V,ay⟩:∃p,A.Tk j p/\∀n v,p n=some v->A.dir=true/\n=A.cell j/\cc[n]?=some v:=by
  unfold bL.Tk
  by_cases hd:A.dir=true
  . have:=bm hd
    rw[ax]at this;refine⟨λi=>if i=A.cell j then some cc[A.cell j]else none,by rw[ZG hd];exact⟨_,rfl⟩,λn v G=>?_⟩
    simp only at G;split at G
    . next e=>subst e;exact⟨hd,rfl,by rw[<-G];exact ZP this⟩
    . cases G
  . exact⟨KG,by rw[ZB hd],λn v G=>by cases G⟩
 have aC:(kk Z.lk).Le ((kk (A.b+j)).join (kk Z.lk)):=ao.wJ (H.cL.sat (A.b+j)) (H.cL.sat Z.lk);have u:=hN ((kk (A.b+j)).join (kk Z.lk)) xo a p (ao.sm _ _) (b9.mono aC) bb (H.cL.je Z.lk (A.b+j) _ _ (zj o) a9) V;obtain⟨g1,aE,hr,g2,aL,hA⟩:=Gu (Wd:=λ_=>True) (main:=false) (w:=w) C X hM
 obtain⟨k,bw⟩:=aL.trans (sF F hA hk);rw[<-d.la]at aE;have W:iL kk Z.lk (A.b+j) (A.b+j)=(kk (A.b+j)).join (kk Z.lk):=an _ _ _;have bA:kA A Z OO (A.b+j) xo p (A.b+j)=((OO (A.b+j)).set A.mb xo).set A.fb (.part p):=by unfold kA ij;rw[an,au _ _ o,an]
 rw[<-W,<-bA]at u;obtain⟨T,hU⟩:=TT.pre bw (Y.c _ _ _ u);obtain⟨x,hx⟩:∃x:bo P,x=.run true ⟨Y.m,iL kk Z.lk (A.b+j) (A.b+j),kA A Z OO (A.b+j) xo p (A.b+j),_,Y.c _ _ _ u⟩:=⟨_,rfl⟩;have w2:x.work=true:=by rw[hx];rfl
 have z:∀sh,((s.aT j x sh).w j)=.run true ⟨Y.m,iL kk Z.lk (A.b+j) (A.b+j),kA A Z OO (A.b+j) xo p (A.b+j),_,Y.c _ _ _ u⟩:=λsh=>by rw[aU,hx]
 have aO:=runT_crowd_go (P:=P) (sl:=sl) (i:=A.b+j) hg (by rw[b8];exact aE)
 have b0:=iK (P:=P) (A:=A) (s:=s) hj r
 have K:Deaf t (A.b+j)=0:=by obtain⟨_,_,K,_⟩:=H.walk _ b0;rw[K];show dI P A s (A.b+j)=0;rw[eD hj,S];rfl
 have Q:bR P A s (A.b+j):=iA d.I hj (bC w1).2.2.2.2.1;have hJ:J (A.b+j):=(d.hJ _).2 (vH hj (bC w1).2.2.2.2.2.1);have b1:∀op∈MemOp.ofEvents (A.b+j) g.frame.fn g.frame.place #[⟨.mark (.acquire Z.la),false,true⟩],op.g=A.b+j:=λop D=>by obtain⟨e,_,rfl⟩:=zR D;rfl
 have b2:∀op∈MemOp.ofEvents (A.b+j) g.frame.fn g.frame.place #[⟨.mark (.acquire Z.la),false,true⟩],op.act.touch?=none/\∀a,op.act≠.mark (.release a):=λop D=>by obtain⟨e,he,rfl⟩:=zR D;simp at he;subst he;exact⟨rfl,λa h=>by simp[MemAct.ofEvent]at h⟩
 have b3:A.fb<w.heap.size:=by obtain⟨c,e,r⟩:=d.uW;exact(zs.1 r).1
 have bB:=H.cL.TM o a9 (λc hc=>(d.NR c hc).1) (by rw[d.la];exact b3) K (λm a hm ha b4 hz=>d.old _ Q m a hm ha b4 hz) d.norel g.frame.fn g.frame.place
 have a7:∀l,ij OO Z.lk (A.b+j) A.mb xo l A.fb=none:=λl=>by
  unfold ij
  by_cases e1:l=Z.lk
  . subst e1;rw[an];rfl
  by_cases e2:l=A.b+j
  . subst e2;rw[au _ _ e1,an];simp only[aj.set,A.d5,LK];exact L _
  . rw[au _ _ e1,au _ _ e2];exact L _
 have b5:A.dir=true->(∀i,(kk i).cell A.fb (A.cell j)=none)/\∀m a R,touchAt t m=some a->a.loc=.cell R->R.block=A.fb/\R.off=A.cell j->m<Z.N0:=λhd=>(d.yx hd j hj).1 (by rw[S];rfl)
 have a8:∀n,p n≠none->A.dir=true/\n=A.cell j:=λn hn=>V.NS hn
 have hP:=bB.S8 (f:=p) o a7 (λn v G i=>by
  obtain⟨hd,rfl,_⟩:=ay n v G;have r:=(b5 hd).1
  by_cases ei:i=A.b+j
  . subst ei
    rw[W];cases q:((kk (A.b+j)).join (kk Z.lk)).cell A.fb (A.cell j)with
    |none=>rfl
    |some v=>rcases ao.ny q with h|h<;>rw[r]at h<;>cases h
  . unfold iL;rw[au _ _ ei];exact r i) (λR r h2=>d.jF R ⟨r,.inr (.inr ⟨(a8 _ h2).1,j,hj,(a8 _ h2).2⟩)⟩) (by
  refine⟨cc,ee,av,?_,λn v G=>(ay n v G).2.2⟩
  rw[W];refine(ao.sm _ _).2 _ _ ?_;rw[al,ax]) (λm a R ha E r h2=>by
  obtain⟨hd,h3⟩:=a8 _ h2
  rcases dQ ha with⟨h4,_⟩|⟨op,D,h4⟩
  . exact(d.old _ Q m a ((b5 hd).2 m a R h4 E ⟨r,h3⟩) h4 (by rw[E];rfl) (by rw[E];exact d.jF R ⟨r,.inr (.inr ⟨hd,j,hj,h3⟩)⟩)).app _
  . rw[(b2 op D).1]at h4;cases h4) d.eT.2.1
 have hI:bP A.n (s.aT j x s.sh):=d.I.still hj w1 w2 (by rw[hx];rfl) (by rw[hx,S];rfl)
 have hL:MS.fU A.n (s.aT j x s.sh) s:=Be hj w1 w2 ⟨_,_,by rw[hx];rfl,by rw[S];rfl,.single (oY.c8 Y.N Y.h0 Y.ht Y.c u)⟩
 have c5:=d.take (xo:=xo) V hZ hj w1 w2 U (by rw[hx];rfl) hI b2
 have c6:Beside (bX P A Fin Z hZ) s (s.aT j x s.sh) f (bQ f (A.b+j) ⟨Y.m,iL kk Z.lk (A.b+j) (A.b+j),kA A Z OO (A.b+j) xo p (A.b+j),g1,T⟩) q q kk (iL kk Z.lk (A.b+j)) OO (kA A Z OO (A.b+j) xo p) J J w (A.b+j) g g1:=my hZ hj w1 w2 (λi hi=>au _ _ hi) (λi hi=>rfl) (λi hi _=>au _ _ hi) (λi hi ht=>by unfold kA ij;rw[au _ _ hi,au _ _ (show i≠Z.lk by omega),au _ _ hi]) (λ_ h=>h) (.inl λh=>h) (λ{i k O y} hA=>B.kz (s:=s) (i:=i) (k:=k) (O:=O) (g:=y) hA)
 refine⟨_,_,aO,s.aT j x s.sh,bQ f (A.b+j) ⟨Y.m,iL kk Z.lk (A.b+j) (A.b+j),kA A Z OO (A.b+j) xo p (A.b+j),g1,T⟩,q,iL kk Z.lk (A.b+j),kA A Z OO (A.b+j) xo p,J,M,_,_,_,rfl,hL,?_⟩;refine bG.step B H hg b1 hP c5 (λl y E hA=>?_) c6 ⟨λ_=>?_,λh=>absurd h (tZ hj (z _)),λh=>absurd h (jG hj (z _)),λh=>absurd (jT hj (z _)) h⟩
 . have c7:l≠A.b+j:=λe=>(H.held l E).2.1 (by rw[e];exact b0)
   exact B.sA d E _ _ hA
 . rw[an]
   refine⟨by show A.b+j<A.b+A.n+1;omega,rfl,?_,rfl,rfl,hr,?_,.inr hJ,λl b X' h3 h4 h5=>?_⟩
   . show Y.m=cB P A Fin (s.aT j x s.sh) (A.b+j)
     rw[nD hj (z _)];exact hm
   . rw[Deaf_own,K];rfl
   . obtain rfl:l=j:=by omega
     rw[z]at h5;cases h5;exact hU
end

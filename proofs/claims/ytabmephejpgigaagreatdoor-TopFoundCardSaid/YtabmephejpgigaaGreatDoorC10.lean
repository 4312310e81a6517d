import Derived.Conc.CrowdComm
import Derived.Test.YtabmephejpgigaaGreatDoorC9
set_option linter.all false
namespace Go.cr
section
open Go.Conc
open Go.ConcN (sumTo upd sumTo_upd upd_ne upd_same)
structure bJ where
 b:Nat
 n:Nat
 cl:Nat
 cF:Nat
 fb:Nat
 fo:Nat
 gb:Nat
 mb:Nat
 GI:sT->Prop
 res:Nat->AV
 val:Nat->Value
 nm:BV
 ng:Nt
 hb:0<b/\(cl=0\/cl=b+n)
 hn:n<=900
 d1:cF≠fb
 d2:cF≠gb
 d3:cF≠mb
 d4:fb≠gb
 d5:fb≠mb
 d6:gb≠mb
def bJ.dir(A:bJ):Bool:=A.cl==0
def bJ.cell(A:bJ)(j:Nat):Nat:=A.fo+2+j
def JL{A:bJ}(h:A.dir=true):A.cl=0:=by simpa[bJ.dir]using h
def uz{A:bJ}(h:A.dir=false):A.cl=A.b+A.n:=by have:=A.hb;simp[bJ.dir]at h;omega
def gg:aaG:=λ_ _ _=>False
def JM:Nat->aaR:=λ_=>none
def bJ.Tk(A:bJ)(j:Nat)(f:Nat->aaR):Prop:=if A.dir then ∃v,f=λi=>if i=A.cell j then some v else none else f=JM
def bD(fo:Nat):Nat->aaR:=λi=>if i=fo then some (.int .i32 0)else if i=fo+1 then some (.int .u32 0)else none
section
variable(P:abm)(A:bJ)(Fin:aaG)
def O8(j:Nat)(k:ao)(O:ai)(g:abd)(N:aaG):Prop:=
 ∃ kind c rest e,kind≠.early/\g=G (Frame.enter P A.nm.lock #[.pointer (some ⟨A.fb,A.fo,none⟩)] kind) (c::rest)/\O A.fb=none/\k.sh A.fb=some e/\(A.dir=true->A.cell j<e.2)/\
   ∀b x a f,k.Le b->jY b x a->A.GI a->O A.mb=none->A.Tk j f->N b ((O.set A.mb x).set A.fb (.part f)) (jG kind c rest (.tuple #[]))
def FV(j:Nat)(k:ao)(O:ai)(g:abd)(N:aaG):Prop:=
 ∃ kind c rest f x a,kind≠.early/\g=G (Frame.enter P A.nm.unlock #[.pointer (some ⟨A.fb,A.fo,none⟩)] kind) (c::rest)/\O A.fb=some (.part f)/\O A.mb=some x/\jY k x a/\A.GI a/\(A.dir=true->k.cell A.fb (A.cell j)=some (A.val j))/\
   N k ((O.del A.mb).del A.fb) (jG kind c rest (.tuple #[]))
def kD:Mo:=⟨false,false,λk O g N=>N=gg/\∃a fn tmps todo,P.funcs[a]?=some fn/\fn.results=#[]/\g=G (Frame.enter P A.ng.done #[.pointer (some ⟨A.gb,0,none⟩)] .deferred) [kg P a tmps todo,cA P]⟩
def Dw(N:aaG):aaG:=if A.dir then T P (kD P A) gg else N
def gW(j:Nat):Mo:=⟨false,false,λk O g N=>O8 P A j k O g N\/FV P A j k O g (Dw P A N)\/(A.dir=false/\N=gg/\O A.fb=none/\∃a z v,(∀w,Sat k O w->stepG P false g w=.comm a #[scase A.cF v z] true .send w #[])/\V k v (A.res j)/\T P (kD P A) gg k O (Go.Conc.served a undef))⟩
def qV:Mo:=⟨false,false,λk O g N=>N=gg/\∃a n,mayWake P g=true/\(∀w s r b,Sat k O w->w.heap[A.cF]?=some (.chan 0 #[] false s r b)->stepG P false g w=.go a {w with heap:=w.heap.setIfInBounds A.cF (.chan 0 #[] true s r b)} #[⟨.obj A.cF,false,true⟩,⟨.obj A.cF,true,true⟩])/\QuitsD P n 0 a⟩
def wA:Mo:=⟨false,false,λk O g N=>N=gg/\∃c rest,g=G (Frame.enter P A.ng.wait #[.pointer (some ⟨A.gb,0,none⟩)] .normal) (c::rest)/\∀a,k.Le a->T P (qV P A) gg a O (jG .normal c rest (.tuple #[]))⟩
def SB(k:ao)(O:ai)(c:Frame)(rest:aaY):Prop:=(∃e,k.sh A.fb=some e)/\∀b x a,k.Le b->(∀j,j<A.n->b.cell A.fb (A.cell j)=some (A.val j))->jY b x a->A.GI a->Fin b ((O.set A.mb x).set A.fb (.part (bD A.fo))) (jG .normal c rest (.tuple #[]))
def dB(k:ao)(O:ai)(g a:abd)(z:Value):Prop:=∀w,Sat k O w->stepG P true g w=.comm a #[rcase A.cF z] true (.recv true) w #[]
def qC:Nat->abf->Mo
 | 0,R=>⟨true,false,λk O g N=>N=gg/\∃b z,dB P A k O g b z/\dB P A k O b b z/\b.status=.running/\(∃e,k.sh A.fb=some e)/\
    ∀c x a,k.Le c->jY c x a->A.GI a->Fin c ((O.set A.mb x).set A.fb (.part (bD A.fo))) (Go.Conc.served b (.tuple #[z,.bool false]))⟩
 | m + 1,R=>⟨true,false,λk O g N=>N=gg/\∃b z,dB P A k O g b z/\dB P A k O b b z/\b.status=.running/\
     ∀j∈R,∀c v,k.Le c->V c v (A.res j)->T P (qC m (R.erase j)) gg c O (Go.Conc.served b (.tuple #[v,.bool true]))⟩
def ot:Nat->Mo
 |0=>if A.dir then⟨true,false,λk O g N=>N=gg/\∃c rest,g=G (Frame.enter P A.ng.wait #[.pointer (some ⟨A.gb,0,none⟩)] .normal) (c::rest)/\SB A Fin k O c rest⟩else⟨true,false,λk O g N=>N=gg/\∃a child,(∀w,Sat k O w->stepG P true g w=.spawn a child w #[])/\T P (wA P A) gg k ai.bot child/\T P (qC P A Fin A.n (List.range A.n)) gg k O a⟩
 | m + 1=>⟨true,false,λk O g N=>N=gg/\∃c rest,g=G (Frame.enter P A.ng.add #[.pointer (some ⟨A.gb,0,none⟩),.int .i64 1] .normal) (c::rest)/\
     T P ⟨true,false,λk O g N=>N=gg/\∃a child,(∀w,Sat k O w->stepG P true g w=.spawn a child w #[])/\T P (gW P A (A.n-(m+1))) gg k ai.bot child/\T P (ot m) gg k O a⟩ gg k O (jG .normal c rest (.tuple #[]))⟩
def Ee(m:Nat):Mo:=⟨true,false,λk O g N=>N=gg/\∃a child,(∀w,Sat k O w->stepG P true g w=.spawn a child w #[])/\T P (gW P A (A.n-(m+1))) gg k ai.bot child/\T P (ot P A Fin m) gg k O a⟩
structure GW where
 m:Mo
 k:ao
 O:ai
 g:abd
 N:aaG
 h0:g.status=.running
 ht:m.cY k O g N
 c:∀k' O' g',N k' O' g'->TT P m k' O' g'
variable {P} in
def GW.node(y:GW P):Node P:=⟨y.m,y.k,y.O,y.g,.cY y.N y.h0 y.ht y.c⟩
inductive bo where
 |idle
 |run (h:Bool) (X:Node P)
 |lk (p:As) (Y:GW P)
 |un (p:As) (Y:GW P)
 |wait
 |xY
 |dn (p:FT)
 |gone
inductive jz where
 |none|dS|wt (p:FT)|jc|gone
inductive oE where
 |add (j:Nat)|bs (j:Nat) (p:FT)|spawn (j:Nat)|recv|parked|off
structure MS where
 d:Bool
 ms:oE
 sp:Nat
 w:Nat->bo P
 c:jz
 sh:Mu.Sh
 gc:Nat
 gv:Nat
 gm:Nat
def As.abs:As->Mu.Pc
 |.ld=>.out|.gT=>.gT|.rd l=>.rd l|.sq o l=>.sq o l|.sw o l=>.sw o l|.jX o l=>.jX o l|.t1 sv=>.fU sv|.fU sv=>.fU sv|.tq=>.tq|.up sv=>.up sv|.add o sv=>.add o sv
 |.le=>.held|.la=>.held|.back=>.held|.FG=>.held|.ur=>.held|.ud=>.held|.held=>.held|.iP o=>.iP o|.uS=>.uS|.give=>.give|.ue=>.out|.BZ=>.out
variable{P}
def bo.pc:bo P->Mu.Pc
 |.run true _=>.held
 |.lk p _=>p.abs
 |.un p _=>p.abs
 |_=>.out
def bo.owns:bo P->Bool
 |.run h _=>h
 |.un .FG _=>true
 |.un .ur _=>true
 |_=>false
def B1:As->Bool
 |.ld=>true|.gT=>true|.rd _=>true|.sq ..=>true|.sw ..=>true|.jX ..=>true|.t1 _=>true|.fU _=>true|.tq=>true|.up _=>true|.add ..=>true|.le=>true|.la=>true
 |_=>false
def yn:As->Bool
 |.FG=>true|.ur=>true|.ud=>true|.held=>true|.iP _=>true|.uS=>true|.give=>true|.ue=>true
 |_=>false
def bo.deaf:bo P->Nat
 |.lk .ld _=>0|.lk .la _=>0|.lk _ _=>1
 |.un .FG _=>0|.un .ur _=>0|.un .ud _=>0|.un _ _=>1
 |.dn .d1=>0|.dn .d2=>0|.dn _=>1
 |_=>0
def r8:FT->Nat
 |.a0=>0|.a2=>1|.a4=>1|.ae=>1
 |.w0=>0|.w1=>1|.we=>1|.wa=>0|.w2 _=>1|.w3=>1|.w4=>1|.w5=>1
 |_=>0
def bo.bZ:bo P->Nat
 |.idle=>0|.run ..=>20|.lk ..=>20|.un ..=>20|.wait=>19|.xY=>18
 |.dn .d1=>12|.dn .d2=>11|.dn .d4=>10|.dn .d5=>4|.dn .d6=>3|.dn _=>2|.gone=>0
def jz.bZ(gc:Nat):jz->Nat
 |.none=>0|.dS=>14
 |.wt .w0=>13|.wt .w1=>10|.wt (.w2 k)=>if gc=k then 9 else 11|.wt .w3=>8|.wt .w4=>7|.wt .w5=>6|.wt .we=>5|.wt _=>4
 |.jc=>3|.gone=>0
def oE.bZ:oE->Nat
 |.add j=>40*j+200|.bs j .a0=>40*j+199|.bs j .a2=>40*j+198|.bs j .a4=>40*j+197|.bs j _=>40*j+196
 |.spawn j=>40*j+225|.recv=>100|.parked=>99|.off=>0
def MS.bZ(n:Nat)(s:MS P):Nat:=s.ms.bZ+sumTo n (λj=>(s.w j).bZ)+s.c.bZ s.gc
def AB(n:Nat):Nat:=4*(6*(18*n+1)+16)+20
def bo.ex(n:Nat):bo P->Nat
 |.run ..=>2*AB n|.lk .ld _=>AB n|.lk (.t1 _) _=>1|.lk .le _=>2|.lk .la _=>1
 |.un .FG _=>5|.un .ur _=>4|.un .ud _=>3|.un .ue _=>1|_=>0
def MS.inner(n:Nat)(s:MS P):Nat:=4*Mu.meas n (λj=>(s.w j).pc) s.sh+sumTo n (λj=>(s.w j).ex n)
def bo.nd:bo P->Option (Node P)
 |.run _ X=>some X|.lk _ Y=>some Y.node|.un _ Y=>some Y.node|_=>none
end
def GX{P}(a b:Option (Node P)):Prop:=∃x y,a=some x/\b=some y/\Relation.TransGen oC x y
def JN{P}:∀a:Option (Node P),Acc GX a:=by
 have key:∀x:Node P,Acc (Relation.TransGen oC) x->Acc GX (some x):=by
  intro x b;induction b with
  |intro x _ c=>exact⟨_,λy ⟨u,v,d,f,h⟩=>by simp_all⟩
 intro a;cases a with
 |none=>exact⟨_,λy ⟨u,v,_,e,_⟩=>by cases e⟩
 |some x=>exact key x ((WellFounded.intro BS).transGen.apply x)
def JO{α:Type}(R:α->α->Prop)(n:Nat)(f' f:Nat->α):Prop:=∃i,i<n/\(∀j,j≠i->f' j=f j)/\R (f' i) (f i)
def B2{α R}(d:∀a,Acc R a):∀  n  (f:Nat->α),Acc (JO R n) f
 |0,f=>⟨_,λy ⟨i,e,_⟩=>by omega⟩
 | n + 1,f=>by
   have key:∀x:α,Acc R x->∀f:Nat->α,f n=x->Acc (JO R (n+1)) f:=by
    intro x g;induction g with
    | intro x _ h=>
      intro f m;have j:=B2 d n f;induction j with
      | intro f _ b=>
        refine⟨_,λf' ⟨i,e,c,k⟩=>?_⟩;by_cases l:i=n
        . grind
        . exact b f' ⟨i,by omega,c,k⟩ (by grind)
   simp_all
def MS.fL{P}(n:Nat)(s' s:MS P):Prop:=s'.bZ n<s.bZ n\/(s'.bZ n=s.bZ n/\(JO GX n (λj=>(s'.w j).nd) (λj=>(s.w j).nd)\/((λj=>(s'.w j).nd)=(λj=>(s.w j).nd)/\s'.inner n<s.inner n)))
def Nx{P}  n :WellFounded (MS.fL (P:=P) n):=by
 have c:WellFounded (JO (GX (P:=P)) n):=⟨B2 JN n⟩;have d:=(Prod.lex ⟨Nat.lt,Nat.lt_wfRel.wf⟩ (Prod.lex ⟨JO (GX (P:=P)) n,c⟩ ⟨Nat.lt,Nat.lt_wfRel.wf⟩)).wf;refine Subrelation.wf (r:=InvImage _ (λs:MS P=>(s.bZ n,(λj=>(s.w j).nd),s.inner n))) ?_ (InvImage.wf _ d);intro s' s h;rcases h with h|⟨h,b|⟨b,a⟩⟩
 . exact Prod.Lex.left _ _ h
 . show Prod.Lex _ _ (_,_) (_,_)
   grind
 . show Prod.Lex _ _ (_,_) (_,_)
   rw[h,b];exact Prod.Lex.right _ (Prod.Lex.right _ a)
section
variable{P:abm}
def bo.iq:bo P->Bool
 |.xY=>true|.dn _=>true|.gone=>true|_=>false
def bo.gX:bo P->Bool
 |.idle=>false|.run h _=>h|.lk ..=>false|_=>true
def bo.rel(x:bo P):Bool:=x.gX && !x.owns
def bo.cnt:bo P->Nat
 |.run ..=>1|.lk ..=>1|.un ..=>1|.wait=>1|.xY=>1|.dn .d1=>1|.dn .d2=>1|.dn .d4=>1|_=>0
def bo.busy:bo P->Bool
 |.run ..=>true|.lk ..=>true|.un ..=>true|.wait=>true|.xY=>true|.dn .d1=>true|_=>false
def bo.last:bo P->Bool
 |.dn .d5=>true|.dn .d6=>true|.dn .d7=>true|_=>false
def bo.jd:bo P->Bool
 |.idle=>true|_=>false
def bo.ok:bo P->Bool
 |.lk p _=>B1 p
 |.un p _=>yn p
 |.dn p=>(match p with|.d1=>true|.d2=>true|.d4=>true|.d5=>true|.d6=>true|.d7=>true|_=>false)
 |_=>true
def jz.busy:jz->Bool
 |.dS=>true|.wt _=>true|.jc=>true|_=>false
def jz.ok:jz->Bool
 |.wt p=>(match p with|.w0=>true|.w1=>true|.w2 _=>true|.w3=>true|.w4=>true|.w5=>true|.we=>true|.wa=>true|_=>false)
 |_=>true
def jz.waits:jz->Bool
 |.wt .w3=>true|.wt .w4=>true|_=>false
def jz.JP:jz->Bool
 |.wt .w5=>true|.wt .we=>true|.wt .wa=>true|.jc=>true|.gone=>true|_=>false
def jz.isNone:jz->Bool
 |.none=>true|_=>false
def jz.dV:jz->Bool
 |.gone=>true|_=>false
def oE.pend:oE->Nat
 |.bs _ .a4=>1|.bs _ .ae=>1|.spawn _=>1|_=>0
structure bN(n:Nat)(s:MS P):Prop where
 g1:s.gc=sumTo n (λj=>(s.w j).cnt)+s.ms.pend
 g2:s.gv<=1
 Ef:s.gv=1->s.c.waits=true/\s.gm=0
 g3:∀j,j<n->(s.w j=.dn .d5\/s.w j=.dn .d6)->s.gv=1/\s.gc=0
 FW:∀i j,i<n->j<n->(s.w i).last=true->(s.w j).last=true->i=j
 g4:∀j,j<n->s.w j=.dn .d7->s.gv=0/\s.gc=0/\s.gm=0/\s.c.waits=true
 g5:s.gm<=1/\(s.gm=1->s.c.waits=true/\s.gv=0/\s.gc=0/\∀j,j<n->(s.w j).last=false)
 g6:s.c.waits=true->s.gv=0->s.gm=0->∃j,j<n/\s.w j=.dn .d7
 g7:s.gv=1->s.gc=0->∃j,j<n/\(s.w j=.dn .d5\/s.w j=.dn .d6)
 g8:s.c.JP=true->s.gc=0/\s.gv=0/\s.gm=0/\∀j,j<n->s.w j=.gone
 g9:∀k,s.c=.wt (.w2 k)->k≠0
 ok:∀j,j<n->(s.w j).ok=true
 Rm:s.c.ok=true
 sp:s.sp<=n
 idle:∀j,j<n->((s.w j).jd=true↔s.sp<=j)
 ms:match s.ms with
  |.add j=>s.sp+j=n/\s.c=.none
  |.bs j p=>s.sp+j=n/\s.c=.none/\1<=j/\(p=.a0\/p=.a2\/p=.a4\/p=.ae)
  |.spawn j=>s.sp+j+1=n/\s.c=.none
  |.recv=>s.sp=n/\s.c≠.none
  |.parked=>s.sp=n/\s.c≠.none/\s.c≠.gone/\∀j,j<n->s.w j≠.wait
  |.off=>s.sp=n/\s.c≠.none
 early:s.d=false->s.c=.none->∀j,j<n->(s.w j).iq=false
 mu:Mu.Inv n (λj=>(s.w j).pc) s.sh
end
variable(P:abm)(A:bJ)(Fin:aaG)
def MS.rem(n:Nat)(s:MS P):abf:=(List.range n).filter λj=>!(s.w j).iq
def dq(s:MS P)(i:Nat):Prop:=(i=0/\(match s.ms with|.add _=>True|.spawn _=>True|.recv=>True|_=>False))\/(∃j,j<A.n/\i=A.b+j/\(match s.w j with|.run ..=>True|.xY=>True|_=>False))\/(i=A.cl/\(match s.c with|.dS=>True|.jc=>True|_=>False))
def fS(s:MS P)(i:Nat):Prop:=(i=0/\(match s.ms with|.bs ..=>True|_=>False))\/(∃j,j<A.n/\i=A.b+j/\(match s.w j with|.lk ..=>True|.un ..=>True|.dn _=>True|_=>False))\/(i=A.cl/\(match s.c with|.wt _=>True|_=>False))
def eL(s:MS P)(i:Nat):Prop:=(i=0/\s.ms=.parked)\/(∃j,j<A.n/\i=A.b+j/\s.w j=.wait)
def cx(s:MS P)(i:Nat):Mo:=
 if i=0 then(match s.ms with|.add j=>ot P A Fin j|.spawn j=>Ee P A Fin j|_=>qC P A Fin (MS.rem P A.n s).length (MS.rem P A.n s))
 else if i<A.b+A.n then(match s.w (i-A.b)with|.run ..=>gW P A (i-A.b)|_=>kD P A)else(match s.c with|.dS=>wA P A|_=>qV P A)
def Eg(s:MS P)(i:Nat):(cx P A Fin s i).main=(i==0):=by
 have c:∀m R,(qC P A Fin m R).main=true:=λm R=>by cases m<;>rfl
 have b:∀m,(ot P A Fin m).main=true:=λm=>by
  cases m with
  |zero=>unfold ot;grind
  |succ m=>rfl
 unfold cx;by_cases a:i=0
 . subst a
   simp only[YD,beq_self_eq_true];split
   . exact b _
   . rfl
   simp_all
 . have:(i==0)=false:=by simp_all
   rw[YA a,this];split
   . split<;>rfl
   . split<;>rfl
def FX(j:Nat)(x:bo P)(k:ao)(O:ai)(g:abd):Prop:=
 match x with
 |.lk p Y=>∃kind c rest e,kind≠.early/\np P A.nm A.fb A.fo kind p (c::rest) g/\Y.m=gW P A j/\O A.fb=none/\k.sh A.fb=some e/\(A.dir=true->A.cell j<e.2)/\∀b x a f,k.Le b->jY b x a->A.GI a->O A.mb=none->A.Tk j f->Y.N b ((O.set A.mb x).set A.fb (.part f)) (jG kind c rest (.tuple #[]))
 | .un p Y=>∃kind c rest,kind≠.early/\np P A.nm A.fb A.fo kind p (c::rest) g/\Y.m=gW P A j/\
    ((p=.FG\/p=.ur)->∃f x a,O A.fb=some (.part f)/\O A.mb=some x/\jY k x a/\A.GI a/\(A.dir=true->k.cell A.fb (A.cell j)=some (A.val j))/\Dw P A Y.N k ((O.del A.mb).del A.fb) (jG kind c rest (.tuple #[])))/\
    (¬(p=.FG\/p=.ur)->Dw P A Y.N k O (jG kind c rest (.tuple #[])))
 |.dn p=>∃d fn tmps todo,P.funcs[d]?=some fn/\fn.results=#[]/\qA P A.ng A.gb .deferred p [kg P d tmps todo,cA P] g
 |_=>False
def Rn(x:jz)(k:ao)(O:ai)(g:abd):Prop:=
 match x with
 |.wt p=>∃c rest,qA P A.ng A.gb .normal p (c::rest) g/\if A.dir then SB A Fin k O c rest else ∀a,k.Le a->T P (qV P A) gg a O (jG .normal c rest (.tuple #[]))
 |_=>False
def Ud(x:oE)(k:ao)(O:ai)(g:abd):Prop:=
 match x with
 |.bs j p=>∃c rest,qA P A.ng A.gb .normal p (c::rest) g/\T P (Ee P A Fin (j-1)) gg k O (jG .normal c rest (.tuple #[]))
 |_=>False
def SC(s:MS P)(i:Nat)(k:ao)(O:ai)(g:abd):Prop:=(i=0/\Ud P A Fin s.ms k O g)\/(∃j,j<A.n/\i=A.b+j/\FX P A j (s.w j) k O g)\/(i=A.cl/\Rn P A Fin s.c k O g)
def PW(s:MS P)(i:Nat):Prop:=(∃j sv Y,j<A.n/\i=A.b+j/\s.w j=.lk (.fU sv) Y/\s.sh.ms=0)\/(i=A.cl/\s.c=.wt .w4/\s.gm=0)
def U4(s:MS P)(i:Nat)(k:ao)(O:ai)(g:abd):Prop:=
 (i=0/\∃a z,g=parked a #[rcase A.cF z] (.recv true)/\dB P A k O a a z/\a.status=.running/\(qC P A Fin (MS.rem P A.n s).length (MS.rem P A.n s)).cY k O a gg)\/
 (∃j,j<A.n/\i=A.b+j/\∃a z v,g=parked a #[scase A.cF v z] .send/\V k v (A.res j)/\O A.fb=none/\T P (kD P A) gg k O (Go.Conc.served a undef)/\A.dir=false)
def dC(s:MS P)(i:Nat):Nat:=
 if i=0 then(match s.ms with|.bs _ p=>r8 p|.off=>(match s.c with|.wt p=>r8 p|_=>0)|_=>0)
 else if i<A.b+A.n then(s.w (i-A.b)).deaf else(match s.c with|.wt p=>r8 p|_=>0)
def kF(w:World):Prop:=(∃v,w.cell? ⟨A.gb,0,none⟩=some v)/\(∃v,w.cell? ⟨A.gb,1,none⟩=some v)/\∃v,w.cell? ⟨A.fb,A.fo,none⟩=some v
def xZ(A:bJ):Loc->Prop
 |.cell a=>a.spot=none/\((a.block=A.fb/\(a.off=A.fo\/a.off=A.fo+1))\/(a.block=A.gb/\(a.off=0\/a.off=1)))
 |.obj r=>r=A.cF/\A.dir=false
 |_=>False
def dL(s:MS P)(i:Nat):Prop:=(∃j,j<A.n/\i=A.b+j/\(s.w j).busy=true)\/(i=A.cl/\s.c.busy=true)
def bQ(s:MS P)(i:Nat):Prop:=i=0\/(∃j,j<s.sp/\i=A.b+j)\/(i=A.cl/\s.c≠.none)
abbrev uX(s:MS P):Prop:=(A.dir=true->s.c≠.none->s.ms=.off)/\(A.dir=true->s.ms≠.recv/\s.ms≠.parked/\s.c≠.dS/\s.c≠.jc/\s.c≠.gone)/\(A.dir=false->s.ms≠.off)
structure cS(Z:Base)(s:MS P)(kk:abl)(OO:abk)(J M:aba)(gsz:Nat)(w:World)(t:Trace):Prop where
 I:bN A.n s
 size:gsz=A.b+s.sp+(if s.c.isNone||A.dir then 0 else 1)
 dd:s.d=A.dir
 off:uX P A s
 ya:A.dir=true->∀j,j<A.n->((s.w j).gX=false->(∀i,(kk i).cell A.fb (A.cell j)=none)/\∀m a ad,touchAt t m=some a->a.loc=.cell ad->ad.block=A.fb/\ad.off=A.cell j->m<Z.N0)/\((s.w j).rel=true->(kk (A.b+j)).cell A.fb (A.cell j)=some (A.val j))
 yV:A.dir=false->∃x tm,w.heap[A.cF]?=some (.chan 0 #[] s.c.dV x x tm)
 mu:ShM A.fb A.fo w s.sh
 gr:qz A.gb w s.gc s.gv s.gm
 uA:∃c e,w.heap[A.fb]?=some (.cells c e (0,0))
 yo:∃c e,w.heap[A.gb]?=some (.cells c e (0,0))
 fT:∀i,(A.dir=false->OO i A.cF=none)/\OO i A.gb=none
 dT:∀i,(kk i).cell A.fb A.fo=none/\(kk i).cell A.fb (A.fo+1)=none/\(kk i).cell A.gb 0=none/\(kk i).cell A.gb 1=none
 tok:∀i x,OO i A.fb=some x->∃j f,j<A.n/\i=A.b+j/\(s.w j).owns=true/\x=.part f/\∀l,f l≠none->A.dir=true/\l=A.cell j
 yp:∀j,j<A.n->(s.w j).owns=true->OO (A.b+j) A.fb≠none
 MV:(∀j,j<A.n->(s.w j).owns=false)->∃x a,OO Z.lk A.mb=some x/\jY (kk Z.lk) x a/\A.GI a
 MX:∀c,OO Z.lk c≠none->c=A.mb/\∀j,j<A.n->(s.w j).owns=false
 hJ:∀i,J i↔dL P A s i
 hM:∀p,M p->t.heard p/\Z.N0<=p/\((t.act? p=some (.mark (.releaseMerge ⟨A.gb,0,none⟩))/\(s.c=.none\/s.c=.dS\/∃q,s.c=.wt q))\/(s.c=.gone/\t.act? p=some (.close A.cF)))
 shut:s.c=.gone->∃p,M p/\t.act? p=some (.close A.cF)/\t.heard p
 quiet:∀m a,touchAt t m=some a->xZ A a.loc->a.kind=.plain->∀i,bQ P A s i->Knows t i m
 said:∀m a,touchAt t m=some a->xZ A a.loc->a.kind=.said->Knows t (if s.c.isNone then 0 else A.cl) m
 old:∀i,bQ P A s i->∀m a,m<Z.N0->touchAt t m=some a->a.loc.isMemory=true -> ¬Z.Shun a.loc->Knows t i m
 norel:∀m a,Z.N0<=m->t.act? m≠some (.mark (.release a))
 B3:∀i,i≠Z.lk -> ¬bQ P A s i->kk i=ao.bot/\OO i=ai.bot
 rS:∀a,xZ A a->(∃c,a=.cell c/\c.block=A.gb)->Z.Shun a
 jA:∀c:Addr,c.block=A.fb/\(c.off=A.fo\/c.off=A.fo+1\/(A.dir=true/\∃j,j<A.n/\c.off=A.cell j)) -> ¬Z.Shun (.cell c)
 eD:(A.dir=false->Z.W0.heap.size<=A.cF)/\Z.W0.heap.size<=A.fb/\Z.W0.heap.size<=A.gb
 la:Z.la=⟨A.fb,A.fo,none⟩
 n0:Z.N0<=t.size
def Node.PX{P:abm}:Node P->Prop
 |⟨_,_,_,_,.cY ..⟩=>True
 |_=>False
def uB{P:abm}(x X:Node P):Prop:=∀y,(y=x\/Relation.TransGen oC y x)->y.PX->(y=X\/Relation.TransGen oC y X)
def uB.sub{P:abm}{x y X:Node P}(h:uB x X)(a:oC y x):uB y X:=λz b c=>h z (b.elim (λe=>.inr (by rw[e];exact .single a)) (λe=>.inr (e.tail a))) c
def uB.refl{P:abm}(X:Node P):uB X X:=λy a _=>a
def Ny(s:MS P)(i:Nat)(x:Node P):Prop:=∀j h X,j<A.n->i=A.b+j->s.w j=.run h X->uB x X
def bV(Z:Base)(a:A.b+A.n+1<=Z.lk):qx P where
 S:=MS P
 r:=MS.fL A.n
 wf:=Nx A.n
 mo:=cx P A Fin
 main:=Eg P A Fin
 top:=A.b+A.n+1
 lk:=Z.lk
 R8:=a
 Live:=dq P A
 Walk:=fS P A
 At:=SC P A Fin
 yO:=PW P A
 nE:=eL P A
 DV:=U4 P A Fin
 deaf:=dC P A
 Wd:=kF A
 Ex:=cS P A Z
 Nj:=Ny P A
 tie:=λs i x y hs h j b X c d e=>(h j b X c d e).sub hs
end
section
open Go.Conc
open Go.ConcN (sumTo upd sumTo_upd upd_ne upd_same)
def wB{t}(u:Trace){p x}(h:t.act? p=some x)(b:t.heard p):(t++u).act? p=some x/\(t++u).heard p:=by have a:=lt_of_act? h;exact⟨by rw[act?_old a];exact h,(heard_old a).2 b⟩
structure B4  b o  (w w':World):Prop where
 cell:∀l,l=o\/l=o+1->w'.cell? ⟨b,l,none⟩=w.cell? ⟨b,l,none⟩
 fz:∀l,w'.frozen? ⟨b,l,none⟩=w.frozen? ⟨b,l,none⟩
def B4.of_heap{b o w w'}(h:w'.heap[b]?=w.heap[b]?):B4 b o w w':=⟨λl _=>by simp only[World.cell?,h],λl=>by simp only[World.frozen?,h]⟩
def ShM.same{b o w w' s}(h:ShM b o w s)(e:B4 b o w w'):ShM b o w' s:=⟨by rw[e.cell _ (.inl rfl)];exact h.cw,by rw[e.cell _ (.inr rfl)];exact h.cs,λi=>by rw[e.fz];exact h.fz i⟩
def qz.same{b w w' c v m}(h:qz b w c v m)(e:B4 b 0 w w'):qz b w' c v m:=⟨by rw[e.cell _ (.inl rfl)];exact h.cw,by rw[e.cell _ (.inr rfl)];exact h.cs,λi=>by rw[e.fz];exact h.fz i⟩
def dI{t u m a}(h:touchAt (t++u) m=some a):(touchAt t m=some a/\m<t.size)\/∃op∈u,op.act.touch?=some a:=by
 obtain⟨x,d,b⟩:=touch_of h;rcases getElem?_append_cases d with⟨e,c⟩|⟨_,f⟩
 . exact .inl ⟨by rw[touchAt_of c];exact b,e⟩
 grind
def pW{t u:Trace}{m x}(h:(t++u).act? m=some x):(t.act? m=some x/\m<t.size)\/∃op∈u,op.act=x:=by
 unfold Trace.act? at h;obtain⟨y,b,rfl⟩:=YI.1 h;rcases getElem?_append_cases b with⟨c,a⟩|⟨_,d⟩
 . exact .inl ⟨by simp[Trace.act?,a],c⟩
 grind
section
variable{P:abm}{A:bJ}{Fin:aaG}{Z:Base}{s:MS P}{kk kk':abl}{OO OO':abk}{J M:aba}{gsz:Nat}{w w':World}{t:Trace}
def cS.jM(h:cS P A Z s kk OO J M gsz w t)  u  (j:∀op∈u,∀a,op.act.touch?=some a->xZ A a.loc->a.kind≠.plain):∀m a,touchAt (t++u) m=some a->xZ A a.loc->a.kind=.plain->∀i,bQ P A s i->Knows (t++u) i m:=λm a c d e i f=>by
 rcases dI c with⟨b,_⟩|⟨op,g,b⟩
 . exact(h.quiet m a b d e i f).app u
 grind
def cS.nI(h:cS P A Z s kk OO J M gsz w t)  u  (i:∀op∈u,∀a,op.act.touch?=some a->xZ A a.loc->a.kind≠.said):∀m a,touchAt (t++u) m=some a->xZ A a.loc->a.kind=.said->Knows (t++u) (if s.c.isNone then 0 else A.cl) m:=λm a d e f=>by
 rcases dI d with⟨b,_⟩|⟨op,g,b⟩
 . exact(h.said m a b e f).app u
 grind
def cS.o6(h:cS P A Z s kk OO J M gsz w t)  u :∀i,bQ P A s i->∀m a,m<Z.N0->touchAt (t++u) m=some a->a.loc.isMemory=true -> ¬Z.Shun a.loc->Knows (t++u) i m:=λi g m a e j b k=>by
 have c:m<t.size:=YU e h.n0
 have l:touchAt t m=some a:=by obtain⟨x,f,d⟩:=touch_of j;rw[aan c]at f;rw[touchAt_of f];exact d
 exact(h.old i g m a e l b k).app u
def cS.je(h:cS P A Z s kk OO J M gsz w t)  u  (f:∀op∈u,∀a,op.act≠.mark (.release a)):∀m a,Z.N0<=m->(t++u).act? m≠some (.mark (.release a)):=λm a c e=>by
 rcases pW e with⟨b,_⟩|⟨op,d,b⟩
 . exact h.norel m a c b
 simp_all
def cS.uC(h:cS P A Z s kk OO J M gsz w t)  u :∀p,M p->(t++u).heard p/\Z.N0<=p/\(((t++u).act? p=some (.mark (.releaseMerge ⟨A.gb,0,none⟩))/\(s.c=.none\/s.c=.dS\/∃q,s.c=.wt q))\/(s.c=.gone/\(t++u).act? p=some (.close A.cF))):=λp e=>by
 obtain⟨b,i,a⟩:=h.hM p e;rcases a with⟨a,d⟩|⟨a,d⟩
 . obtain⟨f,g⟩:=wB u a b
   simp_all
 obtain⟨f,g⟩:=wB u d b
 simp_all
def cS.lX(h:cS P A Z s kk OO J M gsz w t)  u :s.c=.gone->∃p,M p/\(t++u).act? p=some (.close A.cF)/\(t++u).heard p:=λa=>by
 obtain⟨p,e,b,d⟩:=h.shut a;obtain⟨f,g⟩:=wB u b d
 grind
def Eh(I:bN A.n s){i}(d:dq P A s i):bQ P A s i:=by
 rcases d with⟨h,_⟩|⟨j,b,c,f⟩|⟨b,c⟩
 . exact .inl h
 . refine .inr (.inl ⟨j,?_,c⟩)
   have a:=I.idle j b;cases e:s.w j with
   |idle=>simp_all
   |_=>rw[e]at a;simp[bo.jd]at a;omega
 refine .inr (.inr ⟨b,λe=>?_⟩)
 simp_all
def JQ{i}(a:dq P A s i):i<A.b+A.n+1:=by
 have:=A.hb;rcases a with⟨h,_⟩|⟨j,c,d,e⟩|⟨c,d⟩<;>omega
def cS.Nz(h:cS P A Z s kk OO J M gsz w t){i l}(a:aR (OO i) A.fb l):A.dir=true/\∃j,j<A.n/\(i=A.b+j/\(s.w j).owns=true)/\l=A.cell j:=by
 obtain⟨x,c⟩:=a.own;obtain⟨j,f,d,e,k,rfl,p⟩:=h.tok i x c;rcases a with⟨o,q⟩|⟨m,q,_⟩|⟨g,q,r⟩
 . simp_all
 . simp_all
 rw[c]at q;cases q;grind
def yW{x:bo P}(h:x.owns=true):x.gX=true:=by cases x<;>simp_all [bo.owns,bo.gX]
def yq(h:cS P A Z s kk OO J M gsz w t){i e}(n:iO (kk i) (OO i) w.heap.size e){a}(p:(MemAct.ofEvent e).touch?=some a):¬xZ A a.loc:=λb=>by
 have q:A.fb<w.heap.size:=by obtain⟨c,e,k⟩:=h.uA;grind
 have u:A.gb<w.heap.size:=by obtain⟨c,e,k⟩:=h.yo;grind
 have g:∀l,(l=A.fo\/l=A.fo+1) -> ¬aR (OO i) A.fb l:=λl f m=>by obtain⟨_,_,_,_,e⟩:=h.Nz m;unfold bJ.cell at e;omega
 have j:∀l,¬aR (OO i) A.gb l:=λl=>dK (h.fT i).2
 obtain⟨v,y,z,B⟩:=h.dT i
 rcases jE n p with⟨C,f,m⟩|⟨r,f,d⟩
 . rw[f]at b
   obtain⟨_,b⟩:=b
   grind
 rw[f]at b;obtain⟨b,hd⟩:r=A.cF/\A.dir=false:=b;subst b
 rcases d with⟨o,d⟩|d
 . rw[(h.fT i).1 hd]at d;cases d
 obtain⟨x,D,k⟩:=h.yV hd
 simp_all
def yr{k O B e}(b:iO k O B e)  a :MemAct.ofEvent e≠.mark (.release a):=by
 obtain⟨loc,wr,c⟩:=e;cases loc with
 |mark m=>simp only[iO]at b;cases m<;>simp_all [jD,mz,MemAct.ofEvent]
 |cell d=>simp[MemAct.ofEvent]
 |obj r=>cases wr<;>cases c<;>simp[MemAct.ofEvent]
 |_=>simp[iO]at b
def cS.own(h:cS P A Z s kk OO J M gsz w t)(hZ:A.b+A.n+1<=Z.lk){i}(V:dq P A s i){k' O' es}(D:Eff (kk i) (OO i) w k' O' w' es)  u
 (H:∀op∈u,∃e,iO (kk i) (OO i) w.heap.size e/\op.act=.ofEvent e):cS P A Z s (bP kk i k') (bP OO i O') J M gsz w' (t++u):=by
 have K:i≠Z.lk:=by have:=JQ V;omega
 have Q:=Eh h.I V;have W:A.fb<w.heap.size:=by obtain⟨c,e,d⟩:=h.uA;grind
 have X:A.gb<w.heap.size:=by obtain⟨c,e,d⟩:=h.yo;grind
 have hC:A.dir=false->A.cF<w.heap.size:=λhd=>by obtain⟨x,tm,d⟩:=h.yV hd;grind
 have R:=D.keep A.gb X (h.fT i).2
 have S:B4 A.fb A.fo w w'/\∃c e,w'.heap[A.fb]?=some (.cells c e (0,0)):=by
  cases q:OO i A.fb with
  |none=>have:=D.keep A.fb W q;exact⟨.of_heap this,by rw[this];exact h.uA⟩
  | some x=>
    obtain⟨j,f,_,_,_,rfl,hf⟩:=h.tok i x q;obtain⟨c,e,d⟩:=h.uA;obtain⟨c',N,h3,h4⟩:=D.part A.fb f W q c e d;refine⟨⟨λl V=>?_,λl=>?_⟩,c',e,N⟩
    . simp only[World.cell?,d,N];rw[h4 l (Zm λhh=>by have:=(hf l hh).2;unfold bJ.cell at this;omega)]
    simp only[World.frozen?,d,N]
 have p:∀c,c<w.heap.size->OO i c=none->O' c=none:=λc hc hn=>by
  cases q:O' c with
  |none=>rfl
  | some x=>
    rcases D.own c x q with⟨y,hy,_⟩|hy
    . simp_all
    omega
 have z:∀l,(l=A.fo\/l=A.fo+1) -> ¬aR (OO i) A.fb l:=λl V hc=>by obtain⟨_,_,_,_,e⟩:=h.Nz hc;unfold bJ.cell at e;omega
 have a7:∀l,l<A.n->(s.w l).gX=false -> ¬aR (OO i) A.fb (A.cell l):=λl _ O hc=>by
  obtain⟨_,j,_,⟨_,T⟩,e⟩:=h.Nz hc;obtain rfl:l=j:=by unfold bJ.cell at e;omega
  rw[yW T]at O;cases O
 have E:∀c l,c<w.heap.size -> ¬aR (OO i) c l->(kk i).cell c l=none->k'.cell c l=none:=λc l hc ax hn=>by
  cases q:k'.cell c l with
  |none=>rfl
  | some v=>
    rcases D.cell c l v q with d|d|d
    . simp_all
    . simp_all
    omega
 obtain⟨a8,a9,al,av⟩:=h.dT i
 have U:∀op∈u,∀a,op.act.touch?=some a -> ¬xZ A a.loc:=λop k a G=>by obtain⟨e,B,C⟩:=H op k;rw[C]at G;exact yq h B G
 refine⟨h.I,h.size,h.dd,h.off,λhd l F=>⟨λO=>⟨λj=>?_,λm a ad G e e'=>?_⟩,λhr=>?_⟩,λhd=>by rw[D.keep A.cF (hC hd) ((h.fT i).1 hd)];exact h.yV hd,h.mu.same S.1,h.gr.same (.of_heap R),S.2,by rw[R];exact h.yo,λj=>?_,λj=>?_,λj x Y=>?_,λj hj T=>?_,λT=>?_,λc hc=>?_,h.hJ,h.uC u,h.lX u,
  h.jM u (λop k a G hs=>absurd hs (U op k a G)),h.nI u (λop k a G hs=>absurd hs (U op k a G)),h.o6 u,h.je u (λop k a=>by obtain⟨e,B,C⟩:=H op k;rw[C];exact yr B a),λj hj hb=>?_,h.rS,h.jA,h.eD,h.la,by simp;exact YO h.n0 (Zs _ _)⟩
 . have d:=((h.ya hd l F).1 O).1 j
   by_cases e:j=i
   . subst e;rw[an];simp_all
   rw[ar _ _ e];exact d
 . rcases dI G with⟨d,_⟩|⟨op,k,d⟩
   . exact((h.ya hd l F).1 O).2 m a ad d e e'
   obtain⟨ev,B,C⟩:=H op k;rw[C]at d
   rcases jE B d with⟨ad,L,hc⟩|⟨r,L,_⟩
   . rw[e]at L
     cases L;rw[e'.1,e'.2]at hc
     rcases hc with hc|hc|⟨_,v,hc⟩
     . simp_all
     . omega
     have:=((h.ya hd l F).1 O).1 i
     simp_all
   simp_all
 . have d:=(h.ya hd l F).2 hr
   by_cases e:A.b+l=i
   . rw[e,an];rw[e]at d;exact D.le.1 _ _ _ d
   rw[ar _ _ e];exact d
 . by_cases e:j=i
   . subst e;rw[an];exact⟨λhd=>p _ (hC hd) ((h.fT j).1 hd),p _ X (h.fT j).2⟩
   rw[ar _ _ e];exact h.fT j
 . by_cases e:j=i
   . subst e;rw[an]
     exact⟨E _ _ W (z _ (.inl rfl)) a8,E _ _ W (z _ (.inr rfl)) a9,E _ _ X (dK (h.fT j).2) al,E _ _ X (dK (h.fT j).2) av⟩
   rw[ar _ _ e];exact h.dT j
 . by_cases e:j=i
   . subst e;rw[an]at Y
     rcases D.own _ x Y with⟨y,hy,hb⟩|hy
     . obtain⟨l,f,d,N,h3,rfl,h4⟩:=h.tok j y hy
       cases x with
       |obj o=>exact hb.elim
       |tail m=>exact hb.elim
       |part g=>exact⟨l,g,d,N,h3,rfl,λa q=>h4 a (hb a q)⟩
     omega
   rw[ar _ _ e]at Y;exact h.tok j x Y
 . have d:=h.yp j hj T
   by_cases e:A.b+j=i
   . rw[e,an]
     rw[e]at d;cases q:OO i A.fb with
     |none=>simp_all
     | some x=>
       obtain⟨_,f,_,_,_,rfl,_⟩:=h.tok i x q;obtain⟨f',N⟩:=D.tok _ f q
       grind
   rw[ar _ _ e];exact d
 . rw[ar _ _ (zj K),ar _ _ (zj K)];exact h.MV T
 . rw[ar _ _ (zj K)]at hc;exact h.MX c hc
 have e:j≠i:=λe=>hb (e ▸ Q)
 rw[ar _ _ e,ar _ _ e];exact h.B3 j hj hb
def cS.still(h:cS P A Z s kk OO J M gsz w t)  u  (i:∀op∈u,op.act.touch?=none/\∀a,op.act≠.mark (.release a)):cS P A Z s kk OO J M gsz w (t++u):=
 ⟨h.I,h.size,h.dd,h.off,λhd l c=>⟨λf=>⟨((h.ya hd l c).1 f).1,λm a j d e k=>(dI d).elim (λg=>((h.ya hd l c).1 f).2 m a j g.1 e k) (λ⟨op,b,g⟩=>by simp_all)⟩,(h.ya hd l c).2⟩,h.yV,h.mu,h.gr,h.uA,h.yo,h.fT,h.dT,h.tok,h.yp,h.MV,h.MX,h.hJ,h.uC u,h.lX u,h.jM u (λop b a d=>by simp_all),h.nI u (λop b a d=>by simp_all),
   h.o6 u,h.je u (λop b=>(i op b).2),h.B3,h.rS,h.jA,h.eD,h.la,by simp;exact YO h.n0 (Zs _ _)⟩
def bf  y :yP (bV P A Fin Z y) where
 own:=λa m _ he u _ _ o=>cS.own a y m he u o
 slip:=λa u _ hu=>cS.still a u hu
 draw:=λ{s kk OO J M n w t} a d=>by have a:cS P A Z s kk OO J M n w t:=a;exact⟨a.I,a.size,a.dd,a.off,a.ya,a.yV,a.mu.heap rfl,a.gr.same (.of_heap rfl),a.uA,a.yo,a.fT,a.dT,a.tok,a.yp,a.MV,a.MX,a.hJ,a.hM,a.shut,a.quiet,a.said,a.old,a.norel,a.B3,a.rS,a.jA,a.eD,a.la,a.n0⟩
 rW := λ{s kk OO J M n w t j g} a B k O b=>by
  have a:cS P A Z s kk OO J M n w t:=a
  have q:s.c.dV=false:=by
   rcases B with⟨_,hm⟩|⟨l,m,_,hw⟩
   . have:=a.I.ms
     rw[hm]at this;have:=this.2.2.1;cases e:s.c<;>simp_all [jz.dV]
   cases e:s.c with
   | gone=>
     have:=(a.I.g8 (by rw[e];rfl)).2.2.2 l m
     simp_all
   |_=>rfl
  have hd:A.dir=false:=by
   cases e:A.dir with
   |false=>rfl
   | true=>
     rcases b with⟨h0,_⟩|⟨l,_,_,h,z,v,_,_,_,_,hd⟩
     . have:=A.hb
       rcases B with⟨_,hm⟩|⟨l,m,f,hw⟩
       . exact absurd hm (a.off.2.1 e).2.1
       omega
     simp_all
  obtain⟨x,C,r⟩:=a.yV hd;rw[q]at r;rcases b with⟨_,h,z,rfl,_⟩|⟨l,_,_,h,z,v,rfl,_⟩
  . exact again_recv_open r
  exact again_send_open r
 wd:=λ{s kk OO J M n w t} a=>by have a:cS P A Z s kk OO J M n w t:=a;exact⟨⟨_,a.gr.cw⟩,⟨_,a.gr.cs⟩,⟨_,a.mu.cw⟩⟩
 kq:=λ{s i k O g} b=>by
  rcases b with⟨_,b⟩|⟨j,_,_,b⟩|⟨_,b⟩
  . cases e:s.ms with
    |bs j p=>rw[e]at b;obtain⟨c,rest,f,_⟩:=b;exact f.running
    |_=>rw[e]at b;exact b.elim
  . cases e:s.w j with
    |lk p Y=>rw[e]at b;obtain⟨kind,c,rest,_,_,f,_⟩:=b;exact f.running
    |un p Y=>rw[e]at b;obtain⟨kind,c,rest,_,f,_⟩:=b;exact f.running
    |dn p=>rw[e]at b;obtain⟨D,fn,tmps,todo,_,_,f⟩:=b;exact f.running
    |_=>rw[e]at b;exact b.elim
  cases e:s.c with
  |wt p=>rw[e]at b;obtain⟨c,rest,f,_⟩:=b;exact f.running
  |_=>rw[e]at b;exact b.elim
end
end
section
open Go.Conc
open Go.ConcN (sumTo upd sumTo_upd upd_ne upd_same)
variable{P:abm}
def MS.aT(s:MS P)(j:Nat)(x:bo P)(sh:Mu.Sh):MS P:={s with w:=λi=>if i=j then x else s.w i,sh:=sh}
section
variable{s:MS P}{j n:Nat}{x:bo P}{sh:Mu.Sh}
def aU:(s.aT j x sh).w j=x:=by simp[MS.aT]
def cd{i}(h:i≠j):(s.aT j x sh).w i=s.w i:=by simp[MS.aT,h]
def FY:(λi=>((s.aT j x sh).w i).pc)=Mu.set (λi=>(s.w i).pc) j x.pc:=by
 funext i;by_cases h:i=j
 . subst h;rw[aU,Mu.aj]
 rw[cd h,Mu.ah _ _ h]
def sa(F:bo P->Nat)(hj:j<n):sumTo n (λi=>F ((s.aT j x sh).w i))+F (s.w j)=sumTo n (λi=>F (s.w i))+F x:=by
 have e:(λi=>F ((s.aT j x sh).w i))=upd (λi=>F (s.w i)) j (F x):=by
  funext i;by_cases h:i=j
  . subst h;rw[aU,upd_same]
  rw[cd h,upd_ne _ _ h]
 rw[e];have:=sumTo_upd (λi=>F (s.w i)) (F x) id hj
 simp_all
def bo.work:bo P->Bool
 |.run ..=>true|.lk ..=>true|.un ..=>true|_=>false
def bt{x:bo P}(h:x.work=true):x.cnt=1/\x.bZ=20/\x.iq=false/\x.last=false/\x.jd=false/\x.busy=true/\x≠.gone/\x≠.wait/\∀p,x≠.dn p:=by cases x<;>simp_all [bo.work,bo.cnt,bo.bZ,bo.iq,bo.last,bo.jd,bo.busy]
def bo.AE:bo P->Bool
 |.run ..=>true|.lk ..=>true|.un ..=>true|.xY=>true|.dn .d1=>true|.dn .d2=>true|.dn .d4=>true|_=>false
def wC{x:bo P}(h:x.AE=true):x.cnt=1/\x.last=false/\x.jd=false/\x≠.gone/\x≠.wait/\∀p,(p=.d5\/p=.d6\/p=.d7)->x≠.dn p:=by
 cases x with
 |dn p=>cases p<;>simp_all [bo.AE,bo.cnt,bo.last,bo.jd]
 |_=>simp_all [bo.AE,bo.cnt,bo.last,bo.jd]
def bN.same(I:bN n s)(hj:j<n)(o:(s.w j).AE=true)(q:x.AE=true)(r:x.iq=(s.w j).iq\/s.d=true)(G:x.ok=true)(t:Mu.Inv n (Mu.set (λi=>(s.w i).pc) j x.pc) sh):bN n (s.aT j x sh):=by
 obtain⟨H,a4,u,J,K,L⟩:=wC o;obtain⟨M,N,v,O,Q,g⟩:=wC q;have m:=sa (s:=s) (x:=x) (sh:=sh) bo.cnt hj
 have look:∀{i:Nat}{y:bo P},(s.aT j x sh).w i=y->x≠y->i≠j/\s.w i=y:=λ{i y} h z=>by
  by_cases e:i=j
  . subst e;rw[aU]at h;simp_all
  rw[cd e]at h;simp_all
 have back:∀{i:Nat}{y:bo P},s.w i=y->(s.w j)≠y->(s.aT j x sh).w i=y:=λ{i y} h z=>by
  by_cases e:i=j
  . simp_all
  rw[cd e];exact h
 have b:∀{i:Nat},((s.aT j x sh).w i).last=(s.w i).last:=λ{i}=>by
  by_cases e:i=j
  . grind
  rw[cd e]
 refine⟨?_,I.g2,I.Ef,λi a h=>?_,λi l a A h f=>?_,λi a h=>?_,⟨I.g5.1,λh=>?_⟩,λh f k=>?_,λh f=>?_,λh=>?_,I.g9,λi a=>?_,I.Rm,I.sp,λi a=>?_,?_,λhd h i a=>?_,by rw[FY];exact t⟩
 . have:=I.g1
   show s.gc=sumTo n (λi=>((s.aT j x sh).w i).cnt)+s.ms.pend;omega
 . exact I.g3 i a (h.imp (λh=>(look h (g _ (by simp))).2) (λh=>(look h (g _ (by simp))).2))
 . rw[b]at h f;exact I.FW i l a A h f
 . exact I.g4 i a (look h (g _ (by simp))).2
 . obtain⟨B,C,D,E⟩:=I.g5.2 h
   exact⟨B,C,D,λi a=>by grind⟩
 . obtain⟨i,a,F⟩:=I.g6 h f k
   grind
 . obtain⟨i,a,F⟩:=I.g7 h f
   grind
 . obtain⟨_,_,_,E⟩:=I.g8 h
   simp_all
 . by_cases e:i=j
   . grind
   rw[cd e];exact I.ok i a
 . by_cases e:i=j
   . subst e
     rw[aU,v];have:=I.idle i a;rw[u]at this;exact this
   rw[cd e];exact I.idle i a
 . have:=I.ms
   show match s.ms with
   |.add l=>s.sp+l=n/\s.c=.none
   |.bs l p=>s.sp+l=n/\s.c=.none/\1<=l/\(p=.a0\/p=.a2\/p=.a4\/p=.ae)
   |.spawn l=>s.sp+l+1=n/\s.c=.none
   |.recv=>s.sp=n/\s.c≠.none
   |.parked=>s.sp=n/\s.c≠.none/\s.c≠.gone/\∀i,i<n->(s.aT j x sh).w i≠.wait
   |.off=>s.sp=n/\s.c≠.none
   grind
 by_cases e:i=j
 . subst e;rw[aU,r.resolve_right λe=>by have hd:s.d=false:=hd;grind];exact I.early hd h i a
 rw[cd e];exact I.early hd h i a
def yX{x:bo P}(h:x.work=true):x.AE=true:=by cases x<;>simp_all [bo.work,bo.AE]
def bN.work(I:bN n s)(hj:j<n)(a:(s.w j).work=true)(b:x.work=true)(c:x.ok=true)(d:Mu.Inv n (Mu.set (λi=>(s.w i).pc) j x.pc) sh):bN n (s.aT j x sh):=I.same hj (yX a) (yX b) (.inl (by rw[(bt a).2.2.1,(bt b).2.2.1])) c d
def PY(F:bo P->Nat)(hj:j<n)(h:F x=F (s.w j)):sumTo n (λi=>F ((s.aT j x sh).w i))=sumTo n (λi=>F (s.w i)):=by have:=sa (s:=s) (x:=x) (sh:=sh) F hj;omega
def B5(hj:j<n)(a:(s.w j).work=true)(b:x.work=true):(s.aT j x sh).bZ n=s.bZ n:=by
 have:=PY (s:=s) (x:=x) (sh:=sh) bo.bZ hj (by rw[(bt a).2.1,(bt b).2.1]);show s.ms.bZ+sumTo n (λi=>((s.aT j x sh).w i).bZ)+s.c.bZ s.gc=_;rw[this];rfl
def AF(hj:j<n)(a:(s.w j).work=true)(b:x.work=true)(h:GX x.nd (s.w j).nd):MS.fL n (s.aT j x sh) s:=.inr ⟨B5 hj a b,.inl ⟨j,hj,λi c=>by show((s.aT j x sh).w i).nd=_;rw[cd c],by simp only[aU];exact h⟩⟩
def vi(hj:j<n)(a:(s.w j).work=true)(b:x.work=true)(h:x.nd=(s.w j).nd)(hi:4*Mu.meas n (Mu.set (λi=>(s.w i).pc) j x.pc) sh+x.ex n<4*Mu.meas n (λi=>(s.w i).pc) s.sh+(s.w j).ex n):MS.fL n (s.aT j x sh) s:=by
 refine .inr ⟨B5 hj a b,.inr ⟨?_,?_⟩⟩
 . funext i
   by_cases e:i=j
   . subst e;rw[aU];exact h
   rw[cd e]
 have:=sa (s:=s) (x:=x) (sh:=sh) (bo.ex n) hj;show 4*Mu.meas n (λi=>((s.aT j x sh).w i).pc) sh+sumTo n (λi=>((s.aT j x sh).w i).ex n)<4*Mu.meas n (λi=>(s.w i).pc) s.sh+sumTo n (λi=>(s.w i).ex n);rw[FY];omega
def FZ(I:bN n s)(hj:j<n)(a:(s.w j).work=true)(b:x.work=true)(h:x.nd=(s.w j).nd)(c:(x.pc,sh)∈Mu.mv (s.w j).pc s.sh)(d:x.ex n<=3):MS.fL n (s.aT j x sh) s:=by
 have:=(Mu.GG (pcs:=λi=>(s.w i).pc) hj (I.mu.j0 j hj) c).1;exact vi hj a b h (by omega)
def bN.mv(I:bN n s)(hj:j<n)(a:(s.w j).work=true)(b:x.work=true)(c:x.ok=true)(d:(x.pc,sh)∈Mu.mv (s.w j).pc s.sh):bN n (s.aT j x sh):=I.work hj a b c (I.mu.step hj d)
def jf  pcs   i :Mu.set pcs i (pcs i)=pcs:=by
 funext l;by_cases e:l=i
 . subst e;exact Mu.aj _ _ _
 exact Mu.ah _ _ e
def ly(hj:j<n)(a:(s.w j).work=true)(b:x.work=true)(h:x.nd=(s.w j).nd)(c:x.pc=(s.w j).pc)(d:x.ex n<(s.w j).ex n):MS.fL n (s.aT j x s.sh) s:=by
 refine vi hj a b h ?_;rw[c,jf (λi=>(s.w i).pc)];omega
def bN.still(I:bN n s)(hj:j<n)(a:(s.w j).work=true)(b:x.work=true)(c:x.ok=true)(d:x.pc=(s.w j).pc):bN n (s.aT j x s.sh):=I.work hj a b c (by rw[d,jf (λi=>(s.w i).pc)];exact I.mu)
def fA(F:Mu.Pc->Nat){pcs i}(a:pcs i=.out)(h:F .gT=F .out):(λl=>F (Mu.set pcs i .gT l))=λl=>F (pcs l):=by
 funext l;by_cases e:l=i
 . subst e;rw[Mu.aj,a,h]
 rw[Mu.ah _ _ e]
def NA{n pcs s i}(h:Mu.Inv n pcs s)(a:pcs i=.out):Mu.Inv n (Mu.set pcs i .gT) s:=by
 obtain⟨⟨m,c,d,f,g⟩,j,o⟩:=h;refine⟨⟨λl k=>?_,?_,?_,?_,?_⟩,j,λl k old sv b=>?_⟩
 . by_cases e:l=i
   . subst e;rw[Mu.aj];trivial
   rw[Mu.ah _ _ e];grind
 . rw[fA Mu.bW a rfl];exact c
 . rw[fA Mu.eY a rfl,fA Mu.cC a rfl,fA Mu.mF a rfl,fA Mu.cV a rfl,fA Mu.cB a rfl];exact d
 . rw[fA Mu.eY a rfl,fA Mu.cC a rfl,fA Mu.mF a rfl,fA Mu.cV a rfl,fA Mu.cB a rfl];exact f
 . rw[fA Mu.gV a rfl];exact g
 by_cases e:l=i
 . subst e;rw[Mu.aj]at b;cases b
 rw[Mu.ah _ _ e]at b;grind
def B6{n pcs s i}(hi:i<n)(a:pcs i=.out):Mu.meas n (Mu.set pcs i .gT) s=Mu.meas n pcs s+(6*(18*n+1)+16):=by
 have C:=Mu.fP Mu.fV pcs i .gT hi;have R:=Mu.fP (Mu.jq s.w) pcs i .gT hi;rw[a]at C R;have b:Mu.fV .out=0:=rfl;have c:Mu.fV .gT=6:=rfl;have d:Mu.jq s.w .out=0:=rfl;have e:Mu.jq s.w .gT=16:=rfl;rw[b,c]at C;rw[d,e]at R;have f:Mu.phi n (Mu.set pcs i .gT) s=Mu.phi n pcs s+6:=by unfold Mu.phi;omega
 unfold Mu.meas
 grind
def JR(hj:j<n)(a:(s.w j).work=true)(b:x.work=true)(h:x.nd=(s.w j).nd)(c:(s.w j).pc=.out)(d:x.pc=.gT)(e:(s.w j).ex n=AB n)(f:x.ex n=0):MS.fL n (s.aT j x s.sh) s:=by refine vi hj a b h ?_;rw[d,B6 hj c,e,f];unfold AB;omega
def bN.Wa(I:bN n s)(hj:j<n)(a:(s.w j).work=true)(b:x.work=true)(c:x.ok=true)(d:(s.w j).pc=.out)(e:x.pc=.gT):bN n (s.aT j x s.sh):=I.work hj a b c (by rw[e];exact NA I.mu d)
end
end
open Go.Conc
open Go.ConcN (sumTo upd sumTo_upd upd_ne upd_same)
section
variable{P:abm}{A:qx P}{Z:Base}{s s':A.S}{f f':Nat->Node P}{q q':abg}{kk kk':abl}{OO OO':abk}{J J' M M':aba}{gs:aaJ}{w w':World}{t u:Trace}{i:Nat}{g g1:abd}
structure Beside(A:qx P)(s s':A.S)(f f':Nat->Node P)(q q':abg)(kk kk':abl)(OO OO':abk)(J J':aba)(w':World)(i:Nat)(g g1:abd):Prop where
 ef:∀j,j≠i->f' j=f j
 eq:∀j,j≠i->q' j=q j
 ek:∀j,j≠i->j<A.top->kk' j=kk j
 eO:∀j,j≠i->j<A.top->OO' j=OO j
 eJ:∀j,j≠i->A.Live s j->J j->J' j
 live:∀j,j≠i->(A.Live s' j↔A.Live s j)
 walk:∀j,j≠i->(A.Walk s' j↔A.Walk s j)
 held:∀j,j≠i->(A.nE s' j↔A.nE s j)
 mo:∀j,j≠i->A.Live s j->A.mo s' j=A.mo s j
 at':∀j k O x,j≠i->A.Walk s j->A.At s j k O x->A.At s' j k O x
 deaf:∀j,j≠i->A.Walk s j->A.deaf s' j=A.deaf s j
 yO:∀j,j≠i->A.Walk s j->A.yO s j->A.yO s' j\/∀x,A.At s j (kk j) (OO j) x->woken P g g1 w' (blk x)=x
 Ro:∀j k O x,j≠i->A.nE s j->A.DV s j k O x->A.DV s' j k O x
 tie:∀j x,j≠i->A.Live s j->A.Nj s j x->A.Nj s' j x
structure Self(P:abm)(A:qx P)(s':A.S)(f':Nat->Node P)(q':abg)(kk':abl)(OO':abk)(J':aba)(t':Trace)(i:Nat)(g1:abd):Prop where
 live:A.Live s' i->i<A.top/\g1=(f' i).g/\(f' i).m=A.mo s' i/\(f' i).k=kk' i/\(f' i).O=OO' i/\(f' i).g.status=.running/\Deaf t' i=0/\(i=0\/J' i)/\A.Nj s' i (f' i)
 walk:A.Walk s' i -> ¬A.Live s' i/\i<A.top/\Deaf t' i=A.deaf s' i/\∃g',A.At s' i (kk' i) (OO' i) g'/\Jn P A.Wd (A.yO s' i) (q' i) g1 g'
 held:A.nE s' i -> ¬A.Live s' i/\¬A.Walk s' i/\i<A.top/\Deaf t' i=0/\g1.status=.blocked/\A.DV s' i (kk' i) (OO' i) g1
 rest:¬A.Live s' i -> ¬A.Walk s' i -> ¬A.nE s' i->i≠0/\QuitsD P (q' i) (Deaf t' i) g1
def bC.step(B:yP A)(v:bC A Z s f q kk OO J M gs w t)(hi:gs[i]?=some g)(C:∀op∈u,op.g=i)(U:cq Z kk' OO' J' M' w' (t++u))(V:A.Ex s' kk' OO' J' M' gs.size w' (t++u))
 (W:∀j x,A.nE s j->A.DV s j (kk j) (OO j) x->x.again w'=x) (hb:Beside A s s' f f' q q' kk kk' OO OO' J J' w' i g g1) (E:Self P A s' f' q' kk' OO' J' (t++u) i g1):
 bC A Z s' f' q' kk' OO' J' M' ((gs.map (woken P g g1 w')).setIfInBounds i g1) w' (t++u):=by
 have X:i<gs.size:=(zs.1 hi).1;have F:=v.Nk B (i:=i) (a:=g) (a':=g1) (x:=g1) (w':=w') W;have p:((gs.map (woken P g g1 w')).setIfInBounds i g1)[i]?=some g1:=zU (by simp_all)
 have G:∀j,j≠i->Deaf (t++u) j=Deaf t j:=λj d=>Deaf_other t (zj d) _ C
 refine⟨v.lk,U,λj d=>?_,λj d=>?_,λj d=>?_,λj x I N O Q=>?_,λj d=>?_,by simp_all⟩
 . by_cases e:j=i
   . subst e
     obtain⟨l,n,m⟩:=E.live d
     simp_all
   have b:=(hb.live j e).1 d;obtain⟨l,n,pm,m,D,z,r,R⟩:=v.live j b;rw[hb.ef j e,hb.ek j e l,hb.eO j e l,G j e,hb.mo j e b];exact⟨l,F.live j e b,pm,m,D,z,r,R.1.imp id (hb.eJ j e b),hb.tie j _ e b R.2⟩
 . by_cases e:j=i
   . subst e
     obtain⟨l,n,m,g',D,z⟩:=E.walk d
     grind
   have b:=(hb.walk j e).1 d;obtain⟨l,n,m,x,Y,D,z,r⟩:=v.walk j b;refine⟨λh=>l ((hb.live j e).1 h),n,by rw[G j e,hb.deaf j e b];exact m,?_⟩
   rw[hb.ek j e n,hb.eO j e n,hb.eq j e];obtain⟨y,y',o,K,r3⟩:=F.walk j e b
   by_cases hd:∃x,A.yO s j/\y=blk x/\A.At s j (kk j) (OO j) x/\q j=0
   . obtain⟨x0,S,H,d3,d4⟩:=hd
     rcases hb.yO j e b S with h|h
     . exact⟨y,x0,o,hb.at' j _ _ _ e b d3,.inl ⟨h,H,d4⟩⟩
     have c:((gs.map (woken P g g1 w')).setIfInBounds i g1)[j]?=some (woken P g g1 w' x):=by grind
     obtain⟨T,a2⟩:=B.kq z
     rcases r with⟨_,rfl,_⟩|r
     . rw[h _ z]at c
       rw[c]at o;have:=YX o;rw[H]at this;have k:Y.status=.blocked:=by rw[this];rfl
       simp_all
     rw[woken_run (r.first T)]at c
     rw[c]at o;have hh:=YX o;have k:x.status=.blocked:=by rw[hh,H];rfl
     rw[r.first T]at k;cases k
   rcases r3 with⟨S,rfl,H⟩|r3
   . simp_all
   exact⟨y,y',o,hb.at' j _ _ _ e b K,.inr r3⟩
 . by_cases e:j=i
   . subst e
     obtain⟨l,n,m,D,z,r⟩:=E.held d
     simp_all
   have b:=(hb.held j e).1 d;obtain⟨l,n,m,D,_⟩:=v.held j b;obtain⟨x,o,K,r3⟩:=F.held j e b;refine⟨λh=>l ((hb.live j e).1 h),λh=>n ((hb.walk j e).1 h),m,by simp_all,x,o,K,?_⟩
   rw[hb.ek j e m,hb.eO j e m];exact hb.Ro j _ _ _ e b r3
 . by_cases e:j=i
   . subst e
     rw[p]at I;obtain rfl:=YX I;exact E.rest N O Q
   rw[hb.eq j e,G j e];exact F.rest j x e I (λh=>N ((hb.live j e).2 h)) (λh=>O ((hb.walk j e).2 h)) (λh=>Q ((hb.held j e).2 h))
 have L:gs.size<=j:=by simp_all
 rw[G j (by omega)];exact v.above j L
end
def knows_own{t u i m op}(h:u[m]?=some op)(a:op.g=i):Knows (t++u) i (t.size+m):=⟨t.size+m,op,di h,a,.inl rfl⟩
section
variable{Z:Base}{kk:abl}{OO:abk}{J M:aba}{w w':World}{t u:Trace}{i:Nat}
def AG(kk:abl)(OO:abk)(B:Nat)(t:Trace)(i:Nat)(u:Trace):Prop:=∀op∈u,∀a,op.act.touch?=some a->a.kind=.atomic/\(a.loc.isMemory=true->Jd kk OO B a.loc)/\∀n b,touchAt t n=some b->b.loc=a.loc->b.kind=.plain->Knows t i n
def cq.O9(h:cq Z kk OO J M w t)(d:∀op∈u,op.g=i)(y:w'.heap.size=w.heap.size)(z:Calm Z w w')(hb:∀b,Kept kk OO w w' b)(A:∀op∈u,op.act.low w.heap.size)(q:AG kk OO w.heap.size t i u)
 (l:∀m op a,u[m]?=some op->op.act.touch?=some a->a.loc.isMemory=true->Told Z J M (t++u) (t.size+m) a):cq Z kk OO J M w' (t++u):=
 h.sZ (λa b=>a=b) y z hb A (λa b e n x _ _ _ B=>by subst e;exact B.app u) (λj b n v h=>⟨j,rfl,h⟩) (λj b s h=>⟨j,rfl,h⟩) (λj b x h=>⟨j,rfl,h,λ_ h=>h⟩) h.jb
  (fun said=>noRace_append (h.clean said) d λn a o op c b hb C=>by
    obtain⟨f,k,D⟩:=q op c b hb;obtain⟨E,_,_,F⟩:=C
    simp_all)
  (λop c a o r=>(q op c a o).2.1 r) l
  (λn a o r h=>h.elim (λ⟨j,f,k⟩=>.inr (.inl ⟨j,f,k.app _⟩)) (λ⟨p,f,k⟩=>.inr (.inr (.inl ⟨p,f,k.app _⟩))))
def cq.sync(h:cq Z kk OO J M w t)(hJ:i=0\/J i)(c:∀op∈u,op.g=i)(f:w'.heap.size=w.heap.size)(j:Calm Z w w')(hb:∀b,Kept kk OO w w' b)(k:∀op∈u,op.act.low w.heap.size)(l:AG kk OO w.heap.size t i u):cq Z kk OO J M w' (t++u):=
 h.O9 c f j hb k l λm op a d n o=>by
  have e:Knows (t++u) i (t.size+m):=knows_own d (c op (Ze d));rcases hJ with rfl|hJ
  . exact .inl e
  . exact .inr (.inl ⟨i,hJ,e⟩)
end
section
variable{P:abm}{A:bJ}{Z:Base}{s:MS P}{kk:abl}{OO:abk}{J M:aba}{gsz:Nat}{w w':World}{t u:Trace}{j:Nat}{x:bo P}{sh:Mu.Sh}
def nJ(hj:j<A.n)(h:x.busy=(s.w j).busy)  i :dL P A (s.aT j x sh) i↔dL P A s i:=by
 have:∀l,((s.aT j x sh).w l).busy=(s.w l).busy:=λl=>by
  by_cases e:l=j
  . subst e;rw[aU,h]
  . rw[cd e]
 unfold dL;simp only[this];rfl
def JS{a:Touch}{l ad}(h:xZ A a.loc)(e:a.loc=.cell ad)(b:ad.block=A.fb/\ad.off=A.cell l):False:=by rw[e]at h;obtain⟨_,h⟩:=h;have:=A.d4;rw[b.1,b.2]at h;unfold bJ.cell at h;omega
def cS.Ei(h:cS P A Z s kk OO J M gsz w t){s':MS P}(d:A.dir=true->∀l,l<A.n->(s'.w l).gX=(s.w l).gX/\(s'.w l).owns=(s.w l).owns)(p:∀op∈u,∀a,op.act.touch?=some a->xZ A a.loc):
 A.dir=true->∀j,j<A.n->((s'.w j).gX=false->(∀i,(kk i).cell A.fb (A.cell j)=none)/\∀m a ad,touchAt (t++u) m=some a->a.loc=.cell ad->ad.block=A.fb/\ad.off=A.cell j->m<Z.N0)/\((s'.w j).rel=true->(kk (A.b+j)).cell A.fb (A.cell j)=some (A.val j)):=λhd l c=>by
 obtain⟨q,r⟩:=d hd l c;rw[bo.rel,q,r];exact⟨λk=>⟨((h.ya hd l c).1 k).1,λm a ad v e o=>(dI v).elim (λf=>((h.ya hd l c).1 k).2 m a ad f.1 e o) (λ⟨op,g,f⟩=>(JS (p op g a f) e o).elim)⟩,(h.ya hd l c).2⟩
def cS.wD(h:cS P A Z s kk OO J M gsz w t)(hj:j<A.n)(k:x.busy=(s.w j).busy)(E:x.owns=(s.w j).owns)(o:A.dir=true->x.gX=(s.w j).gX)(F:bN A.n (s.aT j x sh))(p:ShM A.fb A.fo w' sh)
 (d:∀b,b≠A.fb->w'.heap[b]?=w.heap[b]?) (q:∃c e,w'.heap[A.fb]?=some (.cells c e (0,0))) (z:∀op∈u,(∀a,op.act.touch?=some a->a.kind=.atomic/\xZ A a.loc)/\∀a,op.act≠.mark (.release a)):
 cS P A Z (s.aT j x sh) kk OO J M gsz w' (t++u):=by
 have m:∀l,((s.aT j x sh).w l).owns=(s.w l).owns:=λl=>by
  by_cases e:l=j
  . subst e;rw[aU,E]
  . rw[cd e]
 refine⟨F,h.size,h.dd,h.off,h.Ei (λhd l _=>⟨?_,m l⟩) (λop g a r=>((z op g).1 a r).2),λhd=>by rw[d _ A.d1];exact h.yV hd,p,h.gr.same (.of_heap (d _ (zj A.d4))),q,by rw[d _ (zj A.d4)];exact h.yo,h.fT,h.dT,λi y G=>?_,λl B v=>h.yp l B (by simp_all),λv=>h.MV λl B=>by simp_all,λc H=>?_,
  λi=>by rw[h.hJ i];exact(nJ hj k i).symm,h.uC u,h.lX u,h.jM u (λop g a r _ I=>?_),h.nI u (λop g a r _ I=>?_),h.o6 u,h.je u (λop g=>(z op g).2),h.B3,h.rS,h.jA,h.eD,h.la,by simp;exact YO h.n0 (Zs _ _)⟩
 . by_cases e:l=j
   . subst e;rw[aU,o hd]
   . rw[cd e]
 . obtain⟨l,f,C,D,L,K⟩:=h.tok i y G
   exact⟨l,f,C,D,by simp_all,K⟩
 . obtain⟨C,D⟩:=h.MX c H
   simp_all
 . grind
 grind
def cS.work(h:cS P A Z s kk OO J M gsz w t)(hj:j<A.n)(k:(s.w j).work=true)(l:x.work=true)(m:x.owns=(s.w j).owns)(f:A.dir=true->x.gX=(s.w j).gX)(o:bN A.n (s.aT j x sh))(g:ShM A.fb A.fo w' sh)
 (d:∀b,b≠A.fb->w'.heap[b]?=w.heap[b]?) (i:∃c e,w'.heap[A.fb]?=some (.cells c e (0,0))) (p:∀op∈u,(∀a,op.act.touch?=some a->a.kind=.atomic/\xZ A a.loc)/\∀a,op.act≠.mark (.release a)):
 cS P A Z (s.aT j x sh) kk OO J M gsz w' (t++u):=
 h.wD hj (by rw[(bt k).2.2.2.2.2.1,(bt l).2.2.2.2.2.1]) m f o g d i p
end
section
variable{P:abm}
def AH {y s fr f l e cs} (b:FR y s fr) (h:aZ s=some (f,l)) (c:Ext P f e):mayWake P (G fr cs)=true:=by
 obtain⟨ops,i,rest,kk,o,as,d,g,p,j,q,a,r⟩:=dg b h;obtain⟨fn,k,t,u,v,w⟩:=c.ex;have m:fr.mode = .run:=by rw[a];rfl
 have n:fr.todo = .inRegion ops (i :: rest) :: kk:=by rw[a];rfl
 unfold mayWake;simp only[G,m,n,g,YW,j,Frame.eval,k,Option.any_some]
 grind
def GY{n b o kind cs g}(C:fQ P n)(X:fR P n)(h:np P n b o kind .give cs g):mayWake P g=true:=by
 obtain⟨c,y,fr,d,e,i,a,f,rfl⟩:=h;rcases e with rfl|rfl
 . exact AH a (C.UH b o kind) X.nG
 exact AH a (C.UI b o kind) X.nG
def nK{b o w w'}(h:MW b o w w')(a:∃c e,w.heap[b]?=some (.cells c e (0,0))):
 w'.heap.size=w.heap.size/\(∀r,r≠b->w'.heap[r]?=w.heap[r]?)/\∃c e c',w.heap[b]?=some (.cells c e (0,0))/\w'.heap[b]?=some (.cells c' e (0,0))/\c'.size=c.size/\∀n,n≠o->n≠o+1->c'[n]?=c[n]?:=by
 obtain⟨c,e,a⟩:=a;rcases h.2 with h|⟨i,v,f,g,h⟩
 . grind
 refine⟨by simp_all,λr d=>?_,c,e,c.setIfInBounds i v,a,?_,by simp,λn j k=>?_⟩
 . rw[h];simp only[World.setCell,Zi,YA (zj d)]
 . rw[h];simp[World.setCell,Zi,a]
 grind
end
section
variable{P:abm}{A:bJ}{Z:Base}{s:MS P}{kk:abl}{OO:abk}{J M:aba}{gsz:Nat}{w w':World}{t:Trace}{j:Nat}{x:bo P}{sh:Mu.Sh}
def cS.calm(h:cS P A Z s kk OO J M gsz w t)(a:MW A.fb A.fo w w'):Calm Z w w':=by obtain⟨d,c,_⟩:=nK a h.uA;have:=h.eD.2.1;exact⟨a.1,λb hb=>c b (by omega)⟩
def cS.kept(h:cS P A Z s kk OO J M gsz w t)(a:MW A.fb A.fo w w'):∀b,Kept kk OO w w' b:=λb=>by
 obtain⟨u,d,c,e,f,j,k,l,v⟩:=nK a h.uA;by_cases hb:b=A.fb
 . subst hb
   refine .inr (.inr ⟨c,f,e,j,k,l,λi x m=>by obtain⟨_,g,_,_,_,rfl,o⟩:=h.tok i x m;exact⟨g,rfl,λn p=>by have:=(o n p).2;unfold bJ.cell at this;grind⟩,λn=>?_⟩);by_cases q:n=A.fo
   . subst q;exact .inr λi=>(h.dT i).1
   by_cases r:n=A.fo+1
   . subst r;exact .inr λi=>(h.dT i).2.1
   simp_all
 exact .inl (d b hb)
def cS.SD(h:cS P A Z s kk OO J M gsz w t){n}(a:n=A.fo\/n=A.fo+1):Jd kk OO w.heap.size (.cell ⟨A.fb,n,none⟩):=by
 have b:A.fb<w.heap.size:=by obtain⟨c,e,f⟩:=h.uA;grind
 refine⟨b,λi=>⟨λd=>?_,?_⟩⟩
 . obtain⟨_,_,_,_,e⟩:=h.Nz d
   have e:n=A.fo+2+_:=e;omega
 rcases a with rfl|rfl
 . exact(h.dT i).1
 exact(h.dT i).2.1
def mX{b o e}(d:(e.loc=.mark .disable\/e.loc=.mark .enable)\/∃i,(i=o\/i=o+1)/\e.loc=.cell ⟨b,i,none⟩/\e.sync=true):
 (∀a,(MemAct.ofEvent e).touch?=some a->a.kind=.atomic/\∃i,(i=o\/i=o+1)/\a.loc=.cell ⟨b,i,none⟩)/\(∀a,MemAct.ofEvent e≠.mark (.release a))/\∀B,b<B->(MemAct.ofEvent e).low B:=by
 obtain⟨loc,wr,j⟩:=e;rcases d with(h|h)|⟨i,k,h,c⟩
 . simp only at h;subst h
   simp[MemAct.ofEvent,MemAct.touch?,MemAct.low]
 . simp only at h;subst h
   simp[MemAct.ofEvent,MemAct.touch?,MemAct.low]
 simp only at h c;subst h;subst c;refine⟨λa f=>?_,by simp[MemAct.ofEvent],λB g=>by simpa[MemAct.ofEvent,MemAct.low,Loc.low]using g⟩;simp only[MemAct.ofEvent,MemAct.touch?,kn]at f
 grind
def cS.JU(h:cS P A Z s kk OO J M gsz w t){es}(p:EvM A.fb A.fo es){i}(hi:bQ P A s i)  fn   pos :
 AG kk OO w.heap.size t i (MemOp.ofEvents i fn pos es)/\(∀op∈MemOp.ofEvents i fn pos es,op.act.low w.heap.size)/\∀op∈MemOp.ofEvents i fn pos es,(∀a,op.act.touch?=some a->a.kind=.atomic/\xZ A a.loc)/\∀a,op.act≠.mark (.release a):=by
 have v:A.fb<w.heap.size:=by obtain⟨c,e,f⟩:=h.uA;grind
 refine⟨λop d a k=>?_,λop d=>?_,λop d=>?_⟩<;>obtain⟨e,l,rfl⟩:=zH d<;>obtain⟨o,q,x⟩:=mX (p e l)
 . obtain⟨f,n,g,j⟩:=o a k
   refine⟨f,λ_=>by rw[j];exact h.SD g,λm b hb r u=>h.quiet m b hb ?_ u i hi⟩
   rw[r,j];exact⟨rfl,.inl ⟨rfl,g⟩⟩
 . grind
 refine⟨λa k=>?_,q⟩
 obtain⟨f,n,g,j⟩:=o a k;exact⟨f,by rw[j];exact⟨rfl,.inl ⟨rfl,g⟩⟩⟩
end
structure eE{P}(A:bJ)(s s':MS P)  i :Prop where
 w:∀l,l<A.n->A.b+l≠i->s'.w l=s.w l
 c:i≠A.cl->s'.c=s.c
 ms:i≠0->s'.ms=s.ms
 sp:s'.sp=s.sp
 d:s'.d=s.d
 iq:(∀l,l<A.n->(s'.w l).iq=(s.w l).iq)\/((dq P A s 0->∃m,s.ms=.add m\/s.ms=.spawn m)/\s.ms≠.parked)
section
variable{P:abm}{A:bJ}{Fin:aaG}{Z:Base}{s s':MS P}{f f':Nat->Node P}{q q':abg}{kk kk':abl}{OO OO':abk}{J J' M:aba}{gs:aaJ}{gsz:Nat}{w w':World}{t u:Trace}{i:Nat}{g g1:abd}
def wE(h:∀l,l<A.n->(s'.w l).iq=(s.w l).iq):MS.rem P A.n s'=MS.rem P A.n s:=by unfold MS.rem;exact ZN λl a=>by grind
def eE.live(h:eE A s s' i){j}(hj:j≠i):dq P A s' j↔dq P A s j:=by
 constructor<;>rintro(⟨b,a⟩|⟨l,a,d,f⟩|⟨b,a⟩)
 . exact .inl ⟨b,by rw[<-h.ms (λe=>hj (b.trans e.symm))];exact a⟩
 . exact .inr (.inl ⟨l,a,d,by rw[<-h.w l a (λe=>hj (d.trans e))];exact f⟩)
 . exact .inr (.inr ⟨b,by rw[<-h.c (λe=>hj (b.trans e.symm))];exact a⟩)
 . exact .inl ⟨b,by rw[h.ms (λe=>hj (b.trans e.symm))];exact a⟩
 . exact .inr (.inl ⟨l,a,d,by rw[h.w l a (λe=>hj (d.trans e))];exact f⟩)
 exact .inr (.inr ⟨b,by rw[h.c (λe=>hj (b.trans e.symm))];exact a⟩)
def eE.walk(h:eE A s s' i){j}(hj:j≠i):fS P A s' j↔fS P A s j:=by
 constructor<;>rintro(⟨b,a⟩|⟨l,a,d,f⟩|⟨b,a⟩)
 . exact .inl ⟨b,by rw[<-h.ms (λe=>hj (b.trans e.symm))];exact a⟩
 . exact .inr (.inl ⟨l,a,d,by rw[<-h.w l a (λe=>hj (d.trans e))];exact f⟩)
 . exact .inr (.inr ⟨b,by rw[<-h.c (λe=>hj (b.trans e.symm))];exact a⟩)
 . exact .inl ⟨b,by rw[h.ms (λe=>hj (b.trans e.symm))];exact a⟩
 . exact .inr (.inl ⟨l,a,d,by rw[h.w l a (λe=>hj (d.trans e))];exact f⟩)
 exact .inr (.inr ⟨b,by rw[h.c (λe=>hj (b.trans e.symm))];exact a⟩)
def eE.held(h:eE A s s' i){j}(hj:j≠i):eL P A s' j↔eL P A s j:=by
 constructor<;>rintro(⟨b,a⟩|⟨l,a,c,d⟩)
 . exact .inl ⟨b,by rw[<-h.ms (λe=>hj (b.trans e.symm))];exact a⟩
 . exact .inr ⟨l,a,c,by rw[<-h.w l a (λe=>hj (c.trans e))];exact d⟩
 . exact .inl ⟨b,by rw[h.ms (λe=>hj (b.trans e.symm))];exact a⟩
 exact .inr ⟨l,a,c,by rw[h.w l a (λe=>hj (c.trans e))];exact d⟩
def lz  K  (t:eE A s s' i) (L:∀j,j≠i->f' j=f j) (M:∀j,j≠i->q' j=q j) (N:∀j,j≠i->j<A.b+A.n+1->kk' j=kk j) (Q:∀j,j≠i->j<A.b+A.n+1->OO' j=OO j) (R:∀j,j≠i->J j->J' j)
 (o:((s.sh.ms=0->s'.sh.ms=0)/\(s.gm=0->s'.gm=0))\/(mayWake P g=true/\(g1.status=.running\/g1.status=.finished))) (S:∀{i k O y},SC P A Fin s i k O y->y.status=.running/\y.offers=none):
 Beside (bV P A Fin Z K) s s' f f' q q' kk kk' OO OO' J J' w' i g g1:=by
 have hb:=A.hb;have wl:∀{j l:Nat},l<A.n->j≠i->j=A.b+l->s'.w l=s.w l:=λ{j l} E a e=>t.w l E (λh=>a (e.trans h))
 have x:∀{j:Nat},j≠i->j=0->s'.ms=s.ms:=λa e=>t.ms (λh=>a (e.trans h.symm))
 have H:∀{j:Nat},j≠i->j=A.cl->s'.c=s.c:=λa e=>t.c (λh=>a (e.trans h.symm))
 refine⟨L,M,N,Q,λj a _ h=>R j a h,λj a=>t.live a,λj a=>t.walk a,λj a=>t.held a,λj a E=>?_,λj k O y a _ F=>?_,λj a I=>?_,λj a I hd=>?_,λj k O y a T F=>?_,λj y a _ U=>?_⟩
 . show cx P A Fin s' j=cx P A Fin s j
   unfold cx;by_cases d:j=0
   . rcases t.iq with u|⟨u,_⟩
     . simp only[YG d,x a d,wE u]
     subst d;obtain⟨m,e|e⟩:=u E<;>simp only[YD,x a rfl,e]
   rcases E with⟨G,_⟩|⟨l,p,r,_⟩|⟨G,_⟩
   . omega
   . have e:j-A.b=l:=by omega
     grind
   grind
 . rcases F with⟨d,h⟩|⟨l,p,r,B⟩|⟨d,h⟩
   . exact .inl ⟨d,by grind⟩
   . exact .inr (.inl ⟨l,p,r,by grind⟩)
   exact .inr (.inr ⟨d,by grind⟩)
 . show dC P A s' j=dC P A s j
   unfold dC;rcases I with⟨d,h1⟩|⟨l,p,r,_⟩|⟨d,_⟩
   . grind
   . grind
   grind
 . rcases o with⟨o,v⟩|⟨hm,u⟩
   . refine .inl ?_
     rcases hd with⟨l,sv,Y,p,r,B,C⟩|⟨d,B,C⟩
     . exact .inl ⟨l,sv,Y,p,r,by grind,o C⟩
     exact .inr ⟨d,by grind,v C⟩
   refine .inr λy V=>?_
   obtain⟨W,a2⟩:=S V;have H:(mayWake P g && g1.status !=.blocked && g1.status !=.waiting)=true:=by grind
   unfold Go.Conc.woken;rw[YG H,yQ W a2]
 . rcases F with⟨d,D,z,p,r,B,C⟩|h
   . rcases t.iq with u|⟨_,u⟩
     . exact .inl ⟨d,D,z,p,r,B,by rw[wE u];exact C⟩
     rcases T with⟨_,h7⟩|⟨l,_,h7,_⟩
     . simp_all
     omega
   exact .inr h
 exact λl b X p r B=>U l b X p r (by grind)
variable{j:Nat}{x:bo P}{sh:Mu.Sh}
def wD(hj:j<A.n)(h:x.iq=(s.w j).iq\/((dq P A s 0->∃m,s.ms=.add m\/s.ms=.spawn m)/\s.ms≠.parked)):eE A s (s.aT j x sh) (A.b+j):=⟨λl _ a=>cd (by omega),λ_=>rfl,λ_=>rfl,rfl,rfl,h.imp_left λh l _=>by
 by_cases e:l=j
 . subst e;rw[aU,h]
 rw[cd e]⟩
def pe  c  (hj:j<A.n) (d:x.iq=(s.w j).iq) (e:∀i,i≠A.b+j->f' i=f i) (l:∀i,i≠A.b+j->q' i=q i) (m:∀i,i≠A.b+j->i<A.b+A.n+1->kk' i=kk i) (o:∀i,i≠A.b+j->i<A.b+A.n+1->OO' i=OO i) (p:∀i,i≠A.b+j->J i->J' i)
 (a:(s.sh.ms=0->sh.ms=0)\/(mayWake P g=true/\g1.status=.running)) (r:∀{i k O y},SC P A Fin s i k O y->y.status=.running/\y.offers=none):
 Beside (bV P A Fin Z c) s (s.aT j x sh) f f' q q' kk kk' OO OO' J J' w' (A.b+j) g g1:=
 lz c (wD hj (.inl d)) e l m o p (a.imp (λh=>⟨h,id⟩) λh=>⟨h.1,.inl h.2⟩) r
def lY  c  (hj:j<A.n) (d:(s.w j).work=true) (e:x.work=true) (h:∀i,i≠A.b+j->f' i=f i) (l:∀i,i≠A.b+j->q' i=q i) (m:∀i,i≠A.b+j->i<A.b+A.n+1->kk' i=kk i) (o:∀i,i≠A.b+j->i<A.b+A.n+1->OO' i=OO i) (p:∀i,J i->J' i)
 (a:(s.sh.ms=0->sh.ms=0)\/(mayWake P g=true/\g1.status=.running)) (r:∀{i k O y},SC P A Fin s i k O y->y.status=.running/\y.offers=none):
 Beside (bV P A Fin Z c) s (s.aT j x sh) f f' q q' kk kk' OO OO' J J' w' (A.b+j) g g1:=
 pe c hj (by rw[(bt e).2.2.1,(bt d).2.2.1]) h l m o (λi _=>p i) a r
end
def bo.jN{P}:bo P->Bool
 |.lk ..=>true|.un ..=>true|_=>false
def iE{P}{x:bo P}(h:x.jN=true):x.work=true:=by cases x<;>simp_all [bo.jN,bo.work]
section
variable{P:abm}{A:bJ}{Fin:aaG}{Z:Base}{s:MS P}{f:Nat->Node P}{q:abg}{kk:abl}{OO:abk}{J M:aba}{gs:aaJ}{w w':World}{t:Trace}{j:Nat}{x:bo P}{sh:Mu.Sh}{g g1:abd}
def vl(hj:j<A.n)(h:(s.w j).busy=true):dL P A s (A.b+j):=.inl ⟨j,hj,rfl,h⟩
def ir(I:bN A.n s)(hj:j<A.n)(h:(s.w j).jd=false):bQ P A s (A.b+j):=by
 refine .inr (.inl ⟨j,?_,rfl⟩);have:=I.idle j hj
 simp_all
def iF(hj:j<A.n)(h:(s.w j).jN=true):fS P A s (A.b+j):=.inr (.inl ⟨j,hj,rfl,by cases e:s.w j<;>simp_all [bo.jN]⟩)
def lZ(hj:j<A.n)(h:(s.w j).jN=true):¬dq P A s (A.b+j):=by
 have:=A.hb;rintro(⟨e,_⟩|⟨l,a,c,d⟩|⟨e,_⟩)
 . omega
 . obtain rfl:l=j:=by omega
   cases e:s.w l<;>simp_all [bo.jN]
 . omega
def pf(hj:j<A.n)(h:(s.w j).jN=true):¬eL P A s (A.b+j):=by
 have:=A.hb;rintro(⟨e,_⟩|⟨l,c,d,a⟩)
 . omega
 . obtain rfl:l=j:=by omega
   rw[a]at h;cases h
def dY(hj:j<A.n):dC P A s (A.b+j)=(s.w j).deaf:=by
 have:=A.hb;unfold dC
 grind
def B7  u  (L:bC (bV P A Fin Z u) Z s f q kk OO J M gs w t) (hj:j<A.n) (K:(s.w j).work=true){d}(N:Deaf t (A.b+j)=d) (Q:¬eL P A s (A.b+j)) (h2:x.jN=true) (ho:x.owns=(s.w j).owns) (R:A.dir=true->x.gX=(s.w j).gX) (hI:bN A.n (s.aT j x sh)) (hL:MS.fL A.n (s.aT j x sh) s)
 (hg:gs[A.b+j]?=some g){es}(S:stepG P false g w=.go g1 w' es) (o:MW A.fb A.fo w w') (T:ShM A.fb A.fo w' sh) (U:EvM A.fb A.fo es) (hd:deafBehind d es=x.deaf)
 (hs:∃n g',iQ P (kF A) n g1 g'/\FX P A j x (kk (A.b+j)) (OO (A.b+j)) g') (v:(s.sh.ms=0->sh.ms=0)\/(mayWake P g=true/\g1.status=.running))  sl :
 ∃ops m',runT P (crowd gs w sl) (A.b+j)=(.next m',ops)/\∃s' f' q' kk' OO' J' M' gs' z V,m'=crowd gs' z V/\MS.fL A.n s' s/\bC (bV P A Fin Z u) Z s' f' q' kk' OO' J' M' gs' z (t++ops):=by
 obtain⟨n,g',C,W⟩:=hs;have hb:=A.hb;have B:=bf (P:=P) (A:=A) (Fin:=Fin) (Z:=Z) u;have w2:=iE h2;have p:cS P A Z s kk OO J M gs.size w t:=L.ex;have X:(A.b+j==0)=false:=by simp;omega
 have D:=runT_crowd_go (P:=P) (sl:=sl) (i:=A.b+j) hg (by rw[X];exact S)
 have E:bQ P A s (A.b+j):=ir p.I hj (bt K).2.2.2.2.1;obtain⟨y1,y2,y3⟩:=p.JU U E g.frame.fn g.frame.place;have m:∀op∈MemOp.ofEvents (A.b+j) g.frame.fn g.frame.place es,op.g=A.b+j:=λop Y=>by obtain⟨e,_,rfl⟩:=zH Y;rfl
 obtain⟨m1,m2,c,e,c',m3,m4,_⟩:=nK o p.uA;have hP:=L.cJ.sync (i:=A.b+j) (.inr ((p.hJ _).2 (vl hj (bt K).2.2.2.2.2.1))) m m1 (p.calm o) (p.kept o) y2 y1;have F:cS P A Z (s.aT j x sh) kk OO J M gs.size w' (t++MemOp.ofEvents (A.b+j) g.frame.fn g.frame.place es):=p.work hj K w2 ho R hI T m2 ⟨c',e,m4⟩ y3
 have r:Beside (bV P A Fin Z u) s (s.aT j x sh) f f q (upd q (A.b+j) n) kk kk OO OO J J w' (A.b+j) g g1:=lY u hj K w2 (λ_ _=>rfl) (λi hi=>upd_ne q n hi) (λ_ _ _=>rfl) (λ_ _ _=>rfl) (λ_ h=>h) v (λ{i k O y} hA=>B.kq (s:=s) (i:=i) (k:=k) (O:=O) (g:=y) hA)
 have a:((s.aT j x sh).w j).jN=true:=by rw[aU];exact h2
 refine⟨_,_,D,s.aT j x sh,f,upd q (A.b+j) n,kk,OO,J,M,_,_,_,rfl,hL,?_⟩;refine bC.step B L hg m hP F (λl y G hA=>?_) r ⟨λG=>absurd G (lZ hj a),λ_=>⟨lZ hj a,?_,?_,g',?_,?_⟩,λhh=>absurd hh (pf hj a),λ_ hn _=>absurd (iF hj a) hn⟩
 . have H:l≠A.b+j:=λe=>Q (e ▸ G)
   exact B.rW F ((r.held l H).2 G) _ _ (r.Ro l _ _ _ H G hA)
 . show A.b+j<A.b+A.n+1;omega
 . rw[Deaf_own,N]
   show deafBehind d es=dC P A (s.aT j x sh) (A.b+j);rw[dY hj,aU];exact hd
 . exact .inr (.inl ⟨j,hj,rfl,by rw[aU];exact W⟩)
 . exact .inr (by rw[upd_same];exact C)
def wF  d  (u:bC (bV P A Fin Z d) Z s f q kk OO J M gs w t) (hj:j<A.n) (e:(s.w j).jN=true) (y:x.jN=true) (z:x.owns=(s.w j).owns) (h:A.dir=true->x.gX=(s.w j).gX) (B:bN A.n (s.aT j x sh)) (C:MS.fL A.n (s.aT j x sh) s)
 (D:gs[A.b+j]?=some g){es}(i:stepG P false g w=.go g1 w' es) (k:MW A.fb A.fo w w') (l:ShM A.fb A.fo w' sh) (m:EvM A.fb A.fo es) (hd:deafBehind (s.w j).deaf es=x.deaf)
 (E:∃n g',iQ P (kF A) n g1 g'/\FX P A j x (kk (A.b+j)) (OO (A.b+j)) g') (a:(s.sh.ms=0->sh.ms=0)\/(mayWake P g=true/\g1.status=.running))  sl :
 ∃ops v,runT P (crowd gs w sl) (A.b+j)=(.next v,ops)/\∃s' f' q' kk' OO' J' M' gs' c o,v=crowd gs' c o/\MS.fL A.n s' s/\bC (bV P A Fin Z d) Z s' f' q' kk' OO' J' M' gs' c (t++ops):=by
 have p:=iF (P:=P) (A:=A) (s:=s) hj e;obtain⟨_,_,r,_⟩:=u.walk _ p;exact B7 d u hj (iE e) (r.trans (dY hj)) (pf hj e) y z h B C D i k l m hd E a sl
end
namespace Mu
section
variable{n:Nat}{pcs:Nat->Pc}{s:Sh}{i:Nat}
def NB{f:Pc->Nat}(h:∀p,f p<=1)(pcs:Nat->Pc)  n :eQ n (λi=>f (pcs i))<=n:=by
 have:=DU (f:=λi=>f (pcs i)) (c:=1) (λi=>h _) n;omega
def Inv.U5(h:Inv n pcs s):s.w.N<=n+1/\s.ms<=1:=by
 have b:=NB (f:=cB) (λp=>by cases p<;>simp[cB]) pcs n
 cases e:s.w.S with
 | false=>
   obtain⟨c,_,a⟩:=h.j2 e;have:s.w.K.toNat<=1:=by cases s.w.K<;>simp
   omega
 | true=>
   obtain⟨_,_,a,d⟩:=h.j3 e;have:(!s.w.L).toNat<=1:=by cases s.w.L<;>simp
   omega
def Inv.NC(h:Inv n pcs s)(hi:i<n)(a:pcs i=.held):s.w.L=true:=by
 have:bW (pcs i)<=eQ n (λj=>bW (pcs j)):=iD (λj=>bW (pcs j)) hi;rw[h.j1,a,show bW .held=1 from rfl]at this
 grind
def Inv.PZ(h:Inv n pcs s)(hi:i<n){old sv}(a:pcs i=.add old sv):s.w.L=false/\s.w.S=true/\s.w.N≠0:=by
 have:cV (pcs i)<=eQ n (λj=>cV (pcs j)):=iD (λj=>cV (pcs j)) hi;rw[a,show cV (.add old sv)=1 from rfl]at this;cases e:s.w.S with
 |false=>obtain⟨_,b,_⟩:=h.j2 e;omega
 | true=>
   obtain⟨_,_,c,d⟩:=h.j3 e
   grind
end
def AI:Pc->Bool
 |.rd _=>true|.sq ..=>true|.sw ..=>true|.jX ..=>true|.fU _=>true|.tq=>true|.up _=>true|.add ..=>true|.held=>true|_=>false
def Ej:Pc->Bool
 |.out=>true|.iP _=>true|.uS=>true|.give=>true|_=>false
def Pa  old   l :AI (nx old l)=true:=by unfold nx;split<;>rfl
def SE{old l p}(h:p∈hd old l):AI p=true:=by
 unfold hd at h;rw[YH]at h;rcases h with h|h
 . split at h
   . rw[lb]at h;subst h;split<;>rfl
   cases h
 rw[lb]at h;subst h;rfl
def SF{p q s s'}(b:p=.gT\/(AI p=true/\p≠.held))(h:(q,s')∈mv p s)(e:q≠.bad):AI q=true:=by
 rcases b with rfl|⟨b,c⟩
 . simp only[mv]at h
   split at h<;>(rw[lb,zG]at h;obtain⟨rfl,rfl⟩:=h;rfl)
 cases p<;>simp only[AI,LK]at b
 case rd l=>simp only[mv,lb,zG]at h;obtain⟨rfl,rfl⟩:=h;exact Pa _ _
 case sq old l=>simp only[mv,YN,zG]at h;obtain⟨a,d,rfl,rfl⟩:=h;exact SE d
 case sw old l=>simp only[mv]at h;split at h<;>(rw[lb,zG]at h;obtain⟨rfl,rfl⟩:=h;rfl)
 case jX old l=>
  simp only[mv]at h;split at h
  . simp_all
  split at h
  . rw[lb,zG]at h;obtain⟨rfl,rfl⟩:=h;split<;>rfl
  rw[lb,zG]at h;obtain⟨rfl,rfl⟩:=h;rfl
 case fU sv=>
  simp only[mv]at h;split at h
  . cases h
  rw[lb,zG]at h;obtain⟨rfl,rfl⟩:=h;split<;>rfl
 case tq=>
  simp only[mv,YQ,zG,ZK,or_false]at h;rcases h with⟨rfl,rfl⟩|⟨rfl,rfl⟩<;>rfl
 case up sv=>
  simp only[mv]at h;split at h
  . split at h
    . simp_all
    rw[lb,zG]at h;obtain⟨rfl,rfl⟩:=h;rfl
  rw[lb,zG]at h;obtain⟨rfl,rfl⟩:=h;exact Pa _ _
 case add old sv=>simp only[mv,lb,zG]at h;obtain⟨rfl,rfl⟩:=h;rfl
 simp_all
def SG{p q s s'}(a:p=.held\/(Ej p=true/\p≠.out))(h:(q,s')∈mv p s)(c:q≠.bad):Ej q=true:=by
 rcases a with rfl|⟨a,b⟩
 . simp only[mv]at h
   split at h
   . simp_all
   rw[lb,zG]at h;obtain⟨rfl,rfl⟩:=h;split
   . rfl
   split
   . rfl
   split<;>rfl
 cases p<;>simp only[Ej,LK]at a
 case out=>simp_all
 case iP old=>simp only[mv]at h;split at h<;>(rw[lb,zG]at h;obtain⟨rfl,rfl⟩:=h;rfl)
 case uS=>simp only[mv,lb,zG]at h;obtain⟨rfl,rfl⟩:=h;split<;>rfl
 case give=>simp only[mv,lb,zG]at h;obtain⟨rfl,rfl⟩:=h;rfl
def Pb{p q s s'}(b:p≠.give)(h:(q,s')∈mv p s)(a:s.ms=0):s'.ms=0:=by
 cases p<;>simp only[mv]at h
 case out=>cases h
 case bad=>cases h
 case give=>simp_all
 case sq=>grind
 case tq=>grind
 all_goals repeat' split at h
 all_goals first
  |(cases h;done)
  |(rw[lb,zG]at h;obtain⟨_,rfl⟩:=h;first|exact a|(show s.ms-1=0;omega))
end Mu
def tv:As->Bool
 |.gT=>true|.rd _=>true|.sq ..=>true|.sw ..=>true|.jX ..=>true|.fU _=>true|.tq=>true|.up _=>true|.add ..=>true|.held=>true|.iP _=>true|.uS=>true|.give=>true
 |_=>false
def JV{q p}(h:To q p):p.abs=q:=by cases h<;>rfl
def SH{q p}(h:To q p)(a:Mu.AI q=true):B1 p=true/\p≠.ld/\p≠.la:=by cases h<;>simp_all [Mu.AI,B1]
def SI{q p}(h:To q p)(a:Mu.Ej q=true):yn p=true/\p≠.FG/\p≠.ur/\p≠.ud:=by cases h<;>simp_all [Mu.Ej,yn]
def JW{q p}(h:To q p):q≠.bad:=by cases h<;>simp
section
variable{P:abm}{nm:BV}(C:fQ P nm)(X:fR P nm){n:Nat}{pcs:Nat->Mu.Pc}{s:Mu.Sh}{i:Nat}{p:As}{b o:Nat}{kind:abi}{Wd:aaT}{cs:aaY}{g:abd}{w:World}{main:Bool}
include C X in
def B8(I:Mu.Inv n pcs s)(hi:i<n)(v:n<=900)(c:pcs i=p.abs)(f:tv p=true)(a:ShM b o w s)(h:np P nm b o kind p cs g):
 lu P nm b o kind Wd cs g w main p.abs s\/((∃sv,p=.fU sv)/\s.ms=0/\stepG P main g w=.go {g with status:=.blocked} w #[]):=by
 obtain⟨x,k⟩:=I.U5;have hb:s.w.N<=1000:=by omega
 have j:∀{q s'},(q,s')∈Mu.mv (pcs i) s->Mu.loc q:=λ{q s'} f=>by
  have:=(I.step hi f).j0 i hi
  rwa [Mu.aj]at this
 have d:Mu.loc (pcs i):=I.j0 i hi;rw[c]at j d;cases p<;>simp only[tv,LK]at f
 case gT=>exact .inl (GM C X a h)
 case rd l=>exact .inl (No C X a hb (j (q:=Mu.nx s.w l) (s':=s) (by simp[As.abs,Mu.mv])) h)
 case sq old l=>exact .inl (Np C X a d h)
 case sw old l=>exact .inl (Nq C X a d h)
 case jX old l=>exact .inl (JC C X a d h)
 case fU sv=>
  by_cases e:s.ms=0
  . exact .inr ⟨⟨sv,rfl⟩,e,B0 C X a e h⟩
  exact .inl (GN C X a e h)
 case tq=>exact .inl (Nr C X a h)
 case up sv=>exact .inl (Ns C X a hb (λq s' m=>j m) h)
 case add old sv=>obtain⟨r,t,u⟩:=I.PZ hi c;exact .inl (JD C X a hb r t u h)
 case held=>exact .inl (GO C X a hb (I.NC hi c) h)
 case iP old=>exact .inl (GP C X a h)
 case uS=>exact .inl (JE C X a hb h)
 case give=>exact .inl (GQ C X a (by omega) h)
end
section
variable{P:abm}{A:bJ}{Fin:aaG}{Z:Base}{s:MS P}{f:Nat->Node P}{q:abg}{kk:abl}{OO:abk}{J M:aba}{gs:aaJ}{w:World}{t:Trace}{j:Nat}{g:abd}
def Goes  P  (A:bJ) (Fin:aaG) (Z:Base) (f:A.b+A.n+1<=Z.lk) (s:MS P) (gs:aaJ) (w:World) (t:Trace) (sl:aaI) (i:Nat):Prop:=∃ops e,runT P (crowd gs w sl) i=(.next e,ops)/\∃s' f' q' kk' OO' J' M' a c d,e=crowd a c d/\MS.fL A.n s' s/\bC (bV P A Fin Z f) Z s' f' q' kk' OO' J' M' a c (t++ops)
def Ek  P  (A:bJ) (s:MS P) (gs:aaJ) (w:World) (sl:aaI) (i:Nat) (g:abd):Prop:=PW P A s i/\runT P (crowd gs w sl) i=(.next (crowd (gs.setIfInBounds i (blk g)) w sl),#[])
def B9(e:gs[A.b+j]?=some g)(a:stepG P false g w=.go {g with status:=.blocked} w #[])  sl :runT P (crowd gs w sl) (A.b+j)=(.next (crowd (gs.setIfInBounds (A.b+j) (blk g)) w sl),#[]):=by
 have hb:=A.hb;have c:(A.b+j==0)=false:=by simp;omega
 have h:=runT_crowd_go (P:=P) (sl:=sl) (i:=A.b+j) e (by rw[c];exact a)
 have d:woken P g {g with status:=.blocked} w=id:=funext λo=>by unfold Go.Conc.woken;simp
 rw[d,Array.map_id]at h;exact h
variable(C:fQ P A.nm)(X:fR P A.nm)
include C X in
def ND  G  (H:bC (bV P A Fin Z G) Z s f q kk OO J M gs w t) (hj:j<A.n){p Y}(a:s.w j=.lk p Y) (K:gs[A.b+j]?=some g) (V:FX P A j (.lk p Y) (kk (A.b+j)) (OO (A.b+j)) g) (W:p≠.la)  sl :
 Goes P A Fin Z G s gs w t sl (A.b+j)\/Ek P A s gs w sl (A.b+j) g:=by
 have m:cS P A Z s kk OO J M gs.size w t:=H.ex;have a7:B1 p=true:=by have:=m.I.ok j hj;rw[a]at this;exact this
 have L:(s.w j).jN=true:=by rw[a];rfl
 have v:=iE L;have l:(s.w j).pc=p.abs:=by rw[a];rfl
 have hn:=A.hn;have hb:=A.hb;have aC:(A.b+j==0)=false:=by simp;omega
 obtain⟨kind,c,rest,e,Q,R,S,T,o,r,U⟩:=V
 by_cases N:tv p=true
 . rcases B8 (Wd:=kF A) (main:=false) C X m.I.mu hj hn l N m.mu R with⟨g1,w',es,qq,s',z,i,B,D,⟨hr,E,⟨k,d⟩,F⟩,a8,a9,ad,al⟩|⟨⟨sv,rfl⟩,u,i⟩
   . left
     have av:Mu.AI qq=true:=Mu.SF (by cases p<;>simp_all [B1,tv,As.abs,Mu.AI]) B (JW D)
     obtain⟨k1,k2,k3⟩:=SH D av;have y:((bo.lk z Y).pc,s')∈Mu.mv (s.w j).pc s.sh:=by rw[l,show(bo.lk z Y).pc=z.abs from rfl,JV D];exact B
     have ax:(s.w j).deaf=1:=by rw[a];cases p<;>simp_all [bo.deaf,tv,B1]
     have ay:(bo.lk z Y).deaf=1:=by cases z<;>simp_all [bo.deaf]
     refine wF (x:=.lk z Y) G H hj L rfl (by rw[a];rfl) (λ_=>by rw[a];rfl) (m.I.mv hj v rfl k1 y) (FZ m.I hj v rfl (by rw[a];rfl) y ?_) K i a8 a9 ad (by rw[al,ax,ay]) ⟨k,E,d,kind,c,rest,e,Q,F,S,T,o,r,U⟩ (.inl λu=>Mu.Pb ?_ B u) sl
     . cases z<;>simp_all [bo.ex]
     cases p<;>simp_all [tv,B1,As.abs]
   right;exact⟨.inl ⟨j,sv,Y,hj,rfl,a,u⟩,B9 K i sl⟩
 cases p<;>simp only[tv,B1,not_true_eq_false,LK]at N a7
 case ld=>obtain⟨g1,i,hr,E,⟨k,d⟩,F⟩:=Au (Wd:=kF A) (main:=false) (w:=w) C X R;left;exact wF (x:=.lk .gT Y) (sh:=s.sh) G H hj L rfl (by rw[a];rfl) (λ_=>by rw[a];rfl) (m.I.Wa hj v rfl rfl l rfl) (JR hj v rfl (by rw[a];rfl) l rfl (by rw[a];rfl) rfl) K i (bg rfl) m.mu (λe O=>by simp at O;subst O;exact .inl (.inl rfl)) (by rw[a];rfl) ⟨k,E,d,kind,c,rest,e,Q,F,S,T,o,r,U⟩ (.inl λu=>u) sl
 case t1 sv=>obtain⟨g1,i,hr,E,⟨k,d⟩,F⟩:=Nm (Wd:=kF A) (main:=false) (w:=w) C X R;left;exact wF (x:=.lk (.fU sv) Y) (sh:=s.sh) G H hj L rfl (by rw[a];rfl) (λ_=>by rw[a];rfl) (m.I.still hj v rfl rfl (by rw[l];rfl)) (ly hj v rfl (by rw[a];rfl) (by rw[l];rfl) (by rw[a];simp[bo.ex])) K i (bg rfl ⟨⟨w.tick,rfl⟩,rfl⟩) (m.mu.heap rfl) eZ (by rw[a];rfl) ⟨k,E,d,kind,c,rest,e,Q,F,S,T,o,r,U⟩ (.inl λu=>u) sl
 case le=>
  obtain⟨g1,i,hr,E,⟨k,d⟩,F⟩:=FL (Wd:=kF A) (main:=false) (w:=w) C X (λw h=>h.2.2) R
  left;exact wF (x:=.lk .la Y) (sh:=s.sh) G H hj L rfl (by rw[a];rfl) (λ_=>by rw[a];rfl) (m.I.still hj v rfl rfl (by rw[l];rfl)) (ly hj v rfl (by rw[a];rfl) (by rw[l];rfl) (by rw[a];simp[bo.ex])) K i (bg rfl) m.mu (λe O=>by simp at O;subst O;exact .inl (.inr rfl)) (by rw[a];rfl) ⟨k,E,d,kind,c,rest,e,Q,F,S,T,o,r,U⟩ (.inl λu=>u) sl
 case la=>exact absurd rfl W
end
section
variable{P:abm}{A:bJ}{Fin:aaG}{Z:Base}{s:MS P}{f:Nat->Node P}{q:abg}{kk:abl}{OO:abk}{J M:aba}{gs:aaJ}{w:World}{t:Trace}{j:Nat}{g:abd}
variable(C:fQ P A.nm)(X:fR P A.nm)
include C X in
def NF  B  (L:bC (bV P A Fin Z B) Z s f q kk OO J M gs w t) (hj:j<A.n){p Y}(a:s.w j=.un p Y) (Q:gs[A.b+j]?=some g) (R:FX P A j (.un p Y) (kk (A.b+j)) (OO (A.b+j)) g) (S:p≠.ur) (T:p≠.ue)  sl :
 Goes P A Fin Z B s gs w t sl (A.b+j):=by
 have m:cS P A Z s kk OO J M gs.size w t:=L.ex;have F:yn p=true:=by have:=m.I.ok j hj;rw[a]at this;exact this
 have N:(s.w j).jN=true:=by rw[a];rfl
 have D:=iE N;have i:(s.w j).pc=p.abs:=by rw[a];rfl
 have hn:=A.hn;have hb:=A.hb;obtain⟨kind,c,rest,U,O,V,W,G⟩:=R
 by_cases u:tv p=true
 . have a7:¬(p=.FG\/p=.ur):=by rintro(rfl|rfl)<;>cases u
   have hN:=G a7
   rcases B8 (Wd:=kF A) (main:=false) C X m.I.mu hj hn i u m.mu O with⟨g1,w',es,qq,s',o,l,y,z,⟨hr,H,⟨k,d⟩,K⟩,a8,a9,ad,al⟩|⟨⟨sv,rfl⟩,E,l⟩
   . have av:Mu.Ej qq=true:=Mu.SG (by cases p<;>simp_all [yn,tv,As.abs,Mu.Ej]) y (JW z)
     obtain⟨k1,k2,k3,k4⟩:=SI z av;have r:((bo.un o Y).pc,s')∈Mu.mv (s.w j).pc s.sh:=by rw[i,show(bo.un o Y).pc=o.abs from rfl,JV z];exact y
     have ax:(s.w j).deaf=1:=by rw[a];cases p<;>simp_all [bo.deaf,tv,yn]
     have ay:(bo.un o Y).deaf=1:=by cases o<;>simp_all [bo.deaf]
     have aC:(s.w j).owns=false:=by rw[a];cases p<;>simp_all [bo.owns,tv,yn]
     have aE:(bo.un o Y).owns=false:=by cases o<;>simp_all [bo.owns]
     refine wF (x:=.un o Y) B L hj N rfl (by rw[aC,aE]) (λ_=>by rw[a];rfl) (m.I.mv hj D rfl k1 r) (FZ m.I hj D rfl (by rw[a];rfl) r ?_) Q l a8 a9 ad (by rw[al,ax,ay]) ⟨k,H,d,kind,c,rest,U,K,V,λh=>absurd h (λh=>h.elim k2 k3),λ_=>hN⟩ ?_ sl
     . cases o<;>simp_all [bo.ex]
     by_cases aL:p=.give
     . subst aL;exact .inr ⟨GY C X O,hr⟩
     refine .inl λE=>Mu.Pb ?_ y E
     cases p<;>simp_all [tv,yn,As.abs]
   exact absurd F (by simp[yn])
 cases p<;>simp only[tv,yn,not_true_eq_false,LK]at u F
 case FG=>
  obtain⟨v,hv⟩:=((bf (P:=P) (A:=A) (Fin:=Fin) (Z:=Z) B).wd m).2.2;obtain⟨g1,l,hr,H,⟨k,d⟩,K⟩:=wq (Wd:=kF A) (main:=false) (w:=w) C X (λw h=>h.2.2) hv O
  exact wF (x:=.un .ur Y) (sh:=s.sh) B L hj N rfl (by rw[a];rfl) (λ_=>by rw[a];rfl) (m.I.still hj D rfl rfl (by rw[i];rfl)) (ly hj D rfl (by rw[a];rfl) (by rw[i];rfl) (by rw[a];simp[bo.ex])) Q l (bg rfl) m.mu eZ (by rw[a];rfl) ⟨k,H,d,kind,c,rest,U,K,V,λ_=>W (.inl rfl),λh=>absurd (.inr rfl) h⟩ (.inl λE=>E) sl
 case ud=>
  have hN:=G (by rintro(h|h)<;>cases h)
  obtain⟨g1,l,hr,H,⟨k,d⟩,K⟩:=FI (Wd:=kF A) (main:=false) (w:=w) C X O;exact wF (x:=.un .held Y) (sh:=s.sh) B L hj N rfl (by rw[a];rfl) (λ_=>by rw[a];rfl) (m.I.still hj D rfl rfl (by rw[i];rfl)) (ly hj D rfl (by rw[a];rfl) (by rw[i];rfl) (by rw[a];simp[bo.ex])) Q l (bg rfl) m.mu (λe he=>by simp at he;subst he;exact .inl (.inl rfl)) (by rw[a];rfl) ⟨k,H,d,kind,c,rest,U,K,V,λh=>absurd h (by simp),λ_=>hN⟩ (.inl λE=>E) sl
 case ur=>exact absurd rfl S
 case ue=>exact absurd rfl T
end
def TT.P1{P m K O g1 a}(h:rU P (λ_=>True) g1 a)(e:TT P m K O a):TT P m K O g1:=.step (λb c d=>b=K/\c=O/\d=a) h.1 (λb c d f=>by obtain⟨rfl,rfl,rfl⟩:=f;exact e) (λw g=>⟨a,w,#[],K,O,h.2 _ w trivial,Eff.refl _ _ _,g,rfl,rfl,rfl⟩)
def TT.Ca{P m K O g1 c}  h   a  {z:Node P}(b:oC z ⟨m,K,O,g1,TT.P1 h a⟩):z=⟨m,K,O,c,a⟩:=by
 unfold TT.P1 at b;cases b with
 |step _ _ _ _ d=>obtain⟨rfl,rfl,rfl⟩:=d;rfl
def TT.pre{P m K O}:∀{k g1 a},iQ P (λ_=>True) k g1 a->(X:TT P m K O a)->∃T ,uB ⟨m,K,O,g1,T⟩ ⟨m,K,O,a,X⟩
 |0,g1,a,h,X=>by obtain rfl:g1=a:=h;exact⟨X,.refl _⟩
 | k + 1,g1,a,⟨d,c,h⟩,X=>by
   obtain⟨b,g⟩:=TT.pre h X;refine⟨TT.P1 c b,λy hy f=>?_⟩;rcases hy with rfl|hy
   . exact f.elim
   have:y=⟨m,K,O,d,b⟩\/Relation.TransGen oC y ⟨m,K,O,d,b⟩:=by
    cases hy with
    |single h=>exact .inl (TT.Ca c b h)
    | tail i j=>
      have e:=TT.Ca c b j
      simp_all
   exact g y this f
section
variable{P:abm}{A:bJ}{Fin:aaG}{Z:Base}{s:MS P}{f:Nat->Node P}{q:abg}{kk:abl}{OO:abk}{J M:aba}{gs:aaJ}{w:World}{t:Trace}{j:Nat}{g:abd}
def jO(hj:j<A.n){h X}(e:s.w j=.run h X):dq P A s (A.b+j):=.inr (.inl ⟨j,hj,rfl,by simp_all⟩)
def tw(hj:j<A.n){h X}(e:s.w j=.run h X):¬fS P A s (A.b+j):=by
 have:=A.hb;rintro(⟨e,_⟩|⟨l,a,c,d⟩|⟨e,_⟩)
 . omega
 . simp_all
 omega
def jB(hj:j<A.n){h X}(e:s.w j=.run h X):¬eL P A s (A.b+j):=by
 have:=A.hb;rintro(⟨e,_⟩|⟨l,a,c,d⟩)
 . omega
 simp_all
def mY(hj:j<A.n){h X}(e:s.w j=.run h X):cx P A Fin s (A.b+j)=gW P A j:=by
 have:=A.hb;unfold cx
 grind
variable(C:fQ P A.nm)(X:fR P A.nm)(F:lO P A.nm)
include C X F in
def NG  z  (D:bC (bV P A Fin Z z) Z s f q kk OO J M gs w t) (hj:j<A.n){Y}(E:s.w j=.un .ue Y) (hg:gs[A.b+j]?=some g) (W:FX P A j (.un .ue Y) (kk (A.b+j)) (OO (A.b+j)) g) (d:A.dir=false)  sl :
 Goes P A Fin Z z s gs w t sl (A.b+j):=by
 have p:cS P A Z s kk OO J M gs.size w t:=D.ex;have B:=bf (P:=P) (A:=A) (Fin:=Fin) (Z:=Z) z;have h1:(s.w j).jN=true:=by rw[E];rfl
 have u:=iE h1;have hb:=A.hb;have a7:(A.b+j==0)=false:=by simp;omega
 obtain⟨kind,c,rest,hk,hM,hm,ay,a8⟩:=W;have G:=a8 (by simp)
 rw[show Dw P A Y.N=Y.N by simp[Dw,d]]at G
 obtain⟨g1,a9,hr,g2,H,K⟩:=Av (Wd:=λ_=>True) (main:=false) (w:=w) C X hM
 obtain⟨k,ad⟩:=H.trans (lx F K hk);obtain⟨T,hU⟩:=TT.pre ad (Y.c _ _ _ G);obtain⟨x,v⟩:∃x:bo P,x=.run false ⟨Y.m,kk (A.b+j),OO (A.b+j),_,Y.c _ _ _ G⟩:=⟨_,rfl⟩;have V:x.work=true:=by rw[v];rfl
 have a:∀sh,((s.aT j x sh).w j)=.run false ⟨Y.m,kk (A.b+j),OO (A.b+j),_,Y.c _ _ _ G⟩:=λsh=>by rw[aU,v]
 have al:EvM A.fb A.fo #[⟨.mark .enable,false,true⟩]:=λe he=>by simp at he;subst he;exact .inl (.inr rfl)
 have L:=runT_crowd_go (P:=P) (sl:=sl) (i:=A.b+j) hg (by rw[a7];exact a9)
 have Q:bQ P A s (A.b+j):=ir p.I hj (bt u).2.2.2.2.1;obtain⟨y1,y2,y3⟩:=p.JU al Q g.frame.fn g.frame.place;have o:∀op∈MemOp.ofEvents (A.b+j) g.frame.fn g.frame.place #[⟨.mark .enable,false,true⟩],op.g=A.b+j:=λop av=>by obtain⟨e,_,rfl⟩:=zH av;rfl
 have hJ:J (A.b+j):=(p.hJ _).2 (vl hj (bt u).2.2.2.2.2.1);have hP:=D.cJ.sync (i:=A.b+j) (.inr hJ) o rfl ⟨⟨.refl _,rfl⟩,λ_ _=>rfl⟩ (λb=>.inl rfl) y2 y1
 have hI:bN A.n (s.aT j x s.sh):=p.I.still hj u V (by rw[v];rfl) (by rw[v,E];rfl)
 have hL:MS.fL A.n (s.aT j x s.sh) s:=AF hj u V ⟨_,_,by rw[v];rfl,by rw[E];rfl,.single (oC.cY Y.N Y.h0 Y.ht Y.c G)⟩
 have R:cS P A Z (s.aT j x s.sh) kk OO J M gs.size w (t++MemOp.ofEvents (A.b+j) g.frame.fn g.frame.place #[⟨.mark .enable,false,true⟩]):=p.work hj u V (by rw[v,E];rfl) (λh=>by rw[d]at h;cases h) hI p.mu (λ_ _=>rfl) p.uA y3
 have r:Beside (bV P A Fin Z z) s (s.aT j x s.sh) f (bP f (A.b+j) ⟨Y.m,kk (A.b+j),OO (A.b+j),g1,T⟩) q q kk kk OO OO J J w (A.b+j) g g1:=lY z hj u V (λi hi=>ar _ _ hi) (λi hi=>rfl) (λ_ _ _=>rfl) (λ_ _ _=>rfl) (λ_ h=>h) (.inl λh=>h) (λ{i k O y} K=>B.kq (s:=s) (i:=i) (k:=k) (O:=O) (g:=y) K)
 have S:=iF (P:=P) (A:=A) (s:=s) hj h1;refine⟨_,_,L,s.aT j x s.sh,bP f (A.b+j) ⟨Y.m,kk (A.b+j),OO (A.b+j),g1,T⟩,q,kk,OO,J,M,_,_,_,rfl,hL,?_⟩;refine bC.step B D hg o hP R (λl y hl K=>?_) r ⟨λ_=>?_,λh=>absurd h (tw hj (a _)),λh=>absurd h (jB hj (a _)),λh=>absurd (jO hj (a _)) h⟩
 . have U:l≠A.b+j:=λe=>(D.held l hl).2.1 (by rw[e];exact S)
   exact B.rW R ((r.held l U).2 hl) _ _ (r.Ro l _ _ _ U hl K)
 rw[an];refine⟨by show A.b+j<A.b+A.n+1;omega,rfl,?_,rfl,rfl,hr,?_,.inr hJ,λl b X' h3 h4 h5=>?_⟩
 . show Y.m=cx P A Fin (s.aT j x s.sh) (A.b+j)
   rw[mY hj (a _)];exact hm
 . obtain⟨_,_,ax,_⟩:=D.walk _ S
   rw[Deaf_own,ax];show deafBehind (dC P A s (A.b+j)) _=0;rw[dY hj,E];rfl
 obtain rfl:l=j:=by omega
 rw[a]at h5;cases h5;exact hU
end
section
variable{Z:Base}{kk:abl}{OO:abk}{J M:aba}{w:World}{t:Trace}
def iG(kk:abl)(lk i:Nat):abl:=bP kk i ((kk i).join (kk lk))
def gY(OO:abk)(lk i mb:Nat)(x:Own):abk:=bP (bP OO i ((OO i).set mb x)) lk ai.bot
def cq.SJ(h:cq Z kk OO J M w t){i mb x}(hi:i≠Z.lk)(L:OO Z.lk mb=some x)(ho:∀c,OO Z.lk c≠none->c=mb)(N:Z.la.block<w.heap.size)(hd:Deaf t i=0)(hold:∀m a,m<Z.N0->touchAt t m=some a->a.loc.isMemory=true -> ¬Z.Shun a.loc->Knows t i m)(V:∀m a,Z.N0<=m->t.act? m≠some (.mark (.release a)))  fn   pos :
 cq Z (iG kk Z.lk i) (gY OO Z.lk i mb x) J M w (t++MemOp.ofEvents i fn pos #[⟨.mark (.acquire Z.la),false,true⟩]):=by
 obtain⟨u,S⟩:∃u,u=MemOp.ofEvents i fn pos #[⟨.mark (.acquire Z.la),false,true⟩]:=⟨_,rfl⟩;have G:u=#[⟨i,fn,pos,.mark (.acquire Z.la)⟩]:=by rw[S,ofEvents_eq];simp[MemAct.ofEvent]
 rw[<-S];have A:jZ u:=λop d=>by grind
 have W:∀op∈u,op.act.touch?=none:=λop d=>by rw[G]at d;simp at d;subst d;rfl
 have H:∀op∈u,op.g=i:=λop d=>by grind
 have I:∀m a,Z.N0<=m->(t++u).act? m≠some (.mark (.release a)):=λm a O e=>by
  rcases pW e with⟨o,_⟩|⟨op,d,o⟩
  . grind
  grind
 have X:OO i mb=none:=h.jb Z.lk i mb x (zj hi) L;have eK:∀l,l≠i->iG kk Z.lk i l=kk l:=λl Y=>ar _ _ Y
 have q:iG kk Z.lk i i=(kk i).join (kk Z.lk):=an _ _ _;have eO:∀l,l≠i->l≠Z.lk->gY OO Z.lk i mb x l=OO l:=λl o B=>by unfold gY;rw[ar _ _ B,ar _ _ o]
 have C:gY OO Z.lk i mb x i=(OO i).set mb x:=by unfold gY;rw[ar _ _ hi,an]
 have D:gY OO Z.lk i mb x Z.lk=ai.bot:=by unfold gY;rw[an]
 refine h.sZ (λa b=>a=b\/(a=Z.lk/\b=i)) rfl ⟨⟨.refl _,rfl⟩,λ_ _=>rfl⟩ (λb=>.inl rfl) (λop d=>by rw[G]at d;simp at d;subst d;simpa[MemAct.low]using N) (λa b e n y P O hz E=>?_) (λl b n v K=>?_) (λl b sv K=>?_) (λl b y f=>?_) (λa l b y r f=>?_)
  (λsaid=>noRace_append (h.clean said) H λn a Q op d b hb _=>by grind) (λop d a Q=>by grind) (λm op a d Q=>by grind)
  (λn a Q O h=>h.elim (λ⟨j,o,B⟩=>.inr (.inl ⟨j,o,B.app _⟩)) (λ⟨p,o,B⟩=>.inr (.inr (.inl ⟨p,o,B.app _⟩))))
 . rcases e with rfl|⟨rfl,rfl⟩
   . exact E.app u
   refine(nD hi).2 ?_;unfold GF at E;rw[YG rfl]at E
   rcases E with E|⟨p,h0,o,B,h3⟩
   . exact(hold n y E P O hz).app u
   exact mE (y:=⟨b,fn,pos,.mark (.acquire Z.la)⟩) (m:=0) A (by grind) rfl hd o B (λk E=>I k _ (by omega)) h3
 . by_cases e:l=i
   . subst e;rw[q]at K
     exact(ao.mT K).elim (λh=>⟨l,.inl rfl,h⟩) (λh=>⟨Z.lk,.inr ⟨rfl,rfl⟩,h⟩)
   grind
 . by_cases e:l=i
   . subst e;rw[q]at K
     exact(ao.Fy K).elim (λh=>⟨l,.inl rfl,h⟩) (λh=>⟨Z.lk,.inr ⟨rfl,rfl⟩,h⟩)
   grind
 . by_cases e:l=i
   . subst e;rw[C]at f
     by_cases z:b=mb
     . subst z
       simp only[ai.set,YD,kn]at f;subst f;exact⟨Z.lk,.inr ⟨rfl,rfl⟩,L,λsv R=>by rw[q];exact(ao.vZ (h.sat l) (h.sat Z.lk)).2 b sv R⟩
     simp only[ai.set,z,Rp]at f;exact⟨l,.inl rfl,f,λsv R=>by rw[q];exact(ao.rQ _ _).2 b sv R⟩
   by_cases T:l=Z.lk
   . subst T;rw[D]at f;cases f
   rw[eO l e T]at f;grind
 by_cases F:a=Z.lk
 . subst F;rw[D]at f;cases f
 by_cases s:l=Z.lk
 . subst s;rw[D];rfl
 by_cases U:a=i
 . subst U
   rw[C]at f;rw[eO l (zj r) s]
   by_cases z:b=mb
   . subst z;exact h.jb Z.lk l b x (zj s) L
   simp only[ai.set,z,Rp]at f;exact h.jb a l b y r f
 rw[eO a U F]at f
 by_cases el:l=i
 . subst el
   rw[C]
   by_cases z:b=mb
   . subst z
     have:=h.jb Z.lk a b x (zj F) L
     simp_all
   simp only[ai.set,z,Rp];exact h.jb a l b y r f
 rw[eO l el s];exact h.jb a l b y r f
end
section
variable{Z:Base}{kk:abl}{OO:abk}{J M:aba}{w:World}{t:Trace}
def nL(kk:abl)(lk i:Nat):abl:=bP kk lk (kk i)
def fa(OO:abk)(lk i mb fb:Nat)(x:Own):abk:=bP (bP OO i (((OO i).del mb).del fb)) lk (ai.bot.set mb x)
def cq.SK(h:cq Z kk OO J M w t){i mb fb x}(hi:i≠Z.lk)(T:OO i mb=some x)(ho:∀c,OO Z.lk c=none)(N:Z.la.block<w.heap.size)(hd:Deaf t i=0)  fn   pos :
 cq Z (nL kk Z.lk i) (fa OO Z.lk i mb fb x) J M w (t++MemOp.ofEvents i fn pos #[⟨.mark (.releaseMerge Z.la),false,true⟩]):=by
 obtain⟨u,R⟩:∃u,u=MemOp.ofEvents i fn pos #[⟨.mark (.releaseMerge Z.la),false,true⟩]:=⟨_,rfl⟩;have F:u=#[⟨i,fn,pos,.mark (.releaseMerge Z.la)⟩]:=by rw[R,ofEvents_eq];simp[MemAct.ofEvent]
 rw[<-R];have s:jZ u:=λop d=>by grind
 have U:∀op∈u,op.act.touch?=none:=λop d=>by rw[F]at d;simp at d;subst d;rfl
 have G:∀op∈u,op.g=i:=λop d=>by grind
 have z:u[0]?=some ⟨i,fn,pos,.mark (.releaseMerge Z.la)⟩:=by grind
 have eK:∀l,l≠Z.lk->nL kk Z.lk i l=kk l:=λl V=>ar _ _ V
 have W:nL kk Z.lk i Z.lk=kk i:=an _ _ _;have eO:∀l,l≠i->l≠Z.lk->fa OO Z.lk i mb fb x l=OO l:=λl H I=>by unfold fa;rw[ar _ _ I,ar _ _ H]
 have k:fa OO Z.lk i mb fb x i=((OO i).del mb).del fb:=by unfold fa;rw[ar _ _ hi,an]
 have A:fa OO Z.lk i mb fb x Z.lk=ai.bot.set mb x:=by unfold fa;rw[an]
 have K:∀b y,(((OO i).del mb).del fb) b=some y->b≠mb/\OO i b=some y:=λb y f=>by
  by_cases q:b=fb
  . simp[ai.del,q]at f
  by_cases r:b=mb
  . simp[ai.del,r]at f
  exact⟨r,by simpa[ai.del,q,r]using f⟩
 have L:∀b y,(ai.bot.set mb x) b=some y->b=mb/\y=x:=λb y f=>by
  by_cases e:b=mb
  . subst e;simp only[ai.set,YD,kn]at f;simp_all
  simp only[ai.set,e,Rp]at f;cases f
 have B:∀b,OO i b=none->(((OO i).del mb).del fb) b=none:=λb X=>by
  by_cases q:b=fb
  . simp[ai.del,q]
  by_cases r:b=mb
  . grind
  simpa[ai.del,q,r]using X
 refine h.sZ (λa b=>a=b\/(a=i/\b=Z.lk)) rfl ⟨⟨.refl _,rfl⟩,λ_ _=>rfl⟩ (λb=>.inl rfl) (λop d=>by rw[F]at d;simp at d;subst d;simpa[MemAct.low]using N) (λa b e n y Y hm hz S=>?_) (λl b n v hv=>?_) (λl b sv hv=>?_) (λl b y f=>?_) (λa l b y o f=>?_)
  (λsaid=>noRace_append (h.clean said) G λn a O op d b hb _=>by grind) (λop d a O=>by grind) (λm op a d O=>by grind)
  (λn a O hm h=>h.elim (λ⟨j,H,I⟩=>.inr (.inl ⟨j,H,I.app _⟩)) (λ⟨p,H,I⟩=>.inr (.inr (.inl ⟨p,H,I.app _⟩))))
 . rcases e with rfl|⟨rfl,rfl⟩
   . exact S.app u
   have P:Knows t a n:=(nD hi).1 S;unfold GF;rw[YG rfl];exact .inr ⟨t.size+0,by have:=h.n0;omega,by rw[act?_of (di z)],heard_new s z hd,lh P z rfl⟩
 . grind
 . grind
 . by_cases r:l=Z.lk
   . subst r;rw[A]at f
     grind
   by_cases e:l=i
   . subst e;rw[k]at f
     grind
   rw[eO l e r]at f;grind
 by_cases C:a=Z.lk
 . subst C;rw[A]at f
   obtain⟨rfl,rfl⟩:=L b y f
   by_cases el:l=i
   . subst el;rw[k]
     by_cases q:b=fb
     . simp[ai.del,q]
     simp[ai.del,q]
   rw[eO l el (zj o)];exact h.jb i l b y (zj el) T
 by_cases D:l=Z.lk
 . subst D;rw[A]
   have Q:b≠mb:=by
    by_cases E:a=i
    . subst E;rw[k]at f;grind
    rw[eO a E C]at f;intro e;subst e;have:=h.jb a i b y E f
    grind
   simp only[ai.set,Q,Rp];rfl
 by_cases E:a=i
 . subst E
   rw[k]at f;rw[eO l (zj o) D];exact h.jb a l b y o (K b y f).2
 rw[eO a E C]at f
 by_cases el:l=i
 . subst el;rw[k];exact B b (h.jb a l b y o f)
 rw[eO l el D];exact h.jb a l b y o f
end
section
variable{P:abm}{A:bJ}{Fin:aaG}{Z:Base}{s:MS P}{f:Nat->Node P}{q:abg}{kk:abl}{OO:abk}{J M:aba}{gs:aaJ}{gsz:Nat}{w:World}{t u:Trace}{j:Nat}{g:abd}{x:bo P}{xo:Own}
def GZ{x:bo P}(h:x.owns=true):x.pc=.held:=by
 cases x with
 |run b X=>cases b<;>simp_all [bo.owns,bo.pc]
 |un p Y=>cases p<;>simp_all [bo.owns,bo.pc,As.abs]
 |_=>simp_all [bo.owns]
def Cb(I:bN A.n s)(hj:j<A.n)(a:(s.w j).pc=.held){l}(b:l<A.n)(c:(s.w l).owns=true):l=j:=by
 by_cases e:l=j
 . exact e
 have g:=I.mu.j1;have d:=Mu.fP Mu.bW (λi=>(s.w i).pc) j .out hj
 have f:Mu.bW (Mu.set (λi=>(s.w i).pc) j .out l)<=Mu.eQ A.n (λi=>Mu.bW (Mu.set (λi=>(s.w i).pc) j .out i)):=Mu.iD (λi=>Mu.bW (Mu.set (λi=>(s.w i).pc) j .out i)) b
 rw[Mu.ah _ _ e,GZ c]at f;have h:Mu.bW .held=1:=rfl;have k:Mu.bW .out=0:=rfl;rw[a]at d;have:s.sh.w.L.toNat<=1:=by cases s.sh.w.L<;>simp
 omega
def kr(A:bJ)(Z:Base)(OO:abk)(i:Nat)(x:Own)(a:Nat->aaR):abk:=bP (gY OO Z.lk i A.mb x) i ((gY OO Z.lk i A.mb x i).set A.fb (.part a))
def bJ.Tk.MY{f}(h:A.Tk j f){l}(a:f l≠none):A.dir=true/\l=A.cell j:=by
 unfold bJ.Tk at h;split at h
 . grind
 subst h;exact absurd rfl a
def cS.take{p}(H:A.Tk j p)(hZ:A.b+A.n+1<=Z.lk)(h:cS P A Z s kk OO J M gsz w t)(hj:j<A.n)(f:(s.w j).work=true)(K:x.work=true)(L:∀l,l<A.n->(s.w l).owns=false)(F:x.owns=true)(V:bN A.n (s.aT j x s.sh))(W:∀op∈u,op.act.touch?=none/\∀a,op.act≠.mark (.release a)):
 cS P A Z (s.aT j x s.sh) (iG kk Z.lk (A.b+j)) (kr A Z OO (A.b+j) xo p) J M gsz w (t++u):=by
 have S:A.b+j≠Z.lk:=by omega
 have r:x.busy=(s.w j).busy:=by rw[(bt f).2.2.2.2.2.1,(bt K).2.2.2.2.2.1]
 have N:∀l,l≠A.b+j->iG kk Z.lk (A.b+j) l=kk l:=λl d=>ar _ _ d
 have O:iG kk Z.lk (A.b+j) (A.b+j)=(kk (A.b+j)).join (kk Z.lk):=an _ _ _;have eO:∀l,l≠A.b+j->l≠Z.lk->kr A Z OO (A.b+j) xo p l=OO l:=λl f K=>by unfold kr gY;rw[ar _ _ f,ar _ _ K,ar _ _ f]
 have z:kr A Z OO (A.b+j) xo p (A.b+j)=((OO (A.b+j)).set A.mb xo).set A.fb (.part p):=by unfold kr gY;rw[an,ar _ _ S,an]
 have B:kr A Z OO (A.b+j) xo p Z.lk=ai.bot:=by unfold kr gY;rw[ar _ _ (zj S),an]
 have C:bQ P A s (A.b+j):=ir h.I hj (bt f).2.2.2.2.1
 have T:∀i,OO i A.fb=none:=λi=>by
  cases e:OO i A.fb with
  |none=>rfl
  | some y=>
    obtain⟨l,_,d,_,ho,_⟩:=h.tok i y e
    grind
 have g:∀{c n:Nat},(∀i,(kk i).cell c n=none)->(iG kk Z.lk (A.b+j) (A.b+j)).cell c n=none:=λ{c n} X=>by
  rw[O];cases e:((kk (A.b+j)).join (kk Z.lk)).cell c n with
  |none=>rfl
  |some v=>rcases ao.mT e with h|h<;>rw[X]at h<;>cases h
 refine⟨V,h.size,h.dd,h.off,λhd l d=>?_,h.yV,h.mu,h.gr,h.uA,h.yo,λi=>?_,λi=>?_,λi y D=>?_,λl d k=>?_,λk=>?_,λc U=>?_,
  λi=>by rw[h.hJ i];exact(nJ hj r i).symm,h.uC u,h.lX u,h.jM u (λop o a Q=>by simp_all),h.nI u (λop o a Q=>by simp_all),h.o6 u,h.je u (λop o=>(W op o).2),λi d hb=>?_,h.rS,h.jA,h.eD,h.la,by simp;exact YO h.n0 (Zs _ _)⟩
 . by_cases e:l=j
   . subst e
     rw[aU];exact⟨λE=>by(rw[yW F]at E;cases E),λR=>by simp[bo.rel,F]at R⟩
   rw[cd e];refine⟨λE=>⟨λi=>?_,λm a Y Q q q'=>(dI Q).elim (λf=>((h.ya hd l d).1 E).2 m a Y f.1 q q') (λ⟨op,o,f⟩=>by simp_all)⟩,λR=>?_⟩
   . have f:=((h.ya hd l d).1 E).1
     grind
   rw[N _ (by omega)];exact(h.ya hd l d).2 R
 . by_cases e:i=A.b+j
   . subst e;rw[z]
     have:=h.fT (A.b+j);simp only[ai.set,A.d1,A.d3,zj A.d4,A.d6,Rp];exact this
   by_cases G:i=Z.lk
   . subst G;rw[B];exact⟨λ_=>rfl,rfl⟩
   rw[eO i e G];exact h.fT i
 . by_cases e:i=A.b+j
   . subst e
     exact⟨g λi=>(h.dT i).1,g λi=>(h.dT i).2.1,g λi=>(h.dT i).2.2.1,g λi=>(h.dT i).2.2.2⟩
   rw[N i e];exact h.dT i
 . by_cases e:i=A.b+j
   . subst e;rw[z]at D
     simp only[ai.set,YD,kn]at D;exact⟨j,p,hj,rfl,by rw[aU];exact F,D.symm,λ_=>H.MY⟩
   by_cases G:i=Z.lk
   . subst G;rw[B]at D;cases D
   simp_all
 . by_cases e:l=j
   . subst e;rw[z];simp[ai.set]
   rw[cd e,L l d]at k;cases k
 . have:=k j hj
   rw[aU,F]at this;cases this
 . rw[B]at U;exact absurd rfl U
 have e:i≠A.b+j:=λe=>hb (e ▸ C)
 rw[N i e,eO i e d];exact h.B3 i d hb
end
section
variable{P:abm}{A:bJ}{Fin:aaG}{Z:Base}{s:MS P}{f:Nat->Node P}{q:abg}{kk:abl}{OO:abk}{J M:aba}{gs:aaJ}{w:World}{t:Trace}{j:Nat}{g:abd}
variable(C:fQ P A.nm)(X:fR P A.nm)(F:lO P A.nm)
include C X F in
def NH  hZ  (H:bC (bV P A Fin Z hZ) Z s f q kk OO J M gs w t) (hj:j<A.n){Y}(S:s.w j=.lk .la Y) (hg:gs[A.b+j]?=some g) (b6:FX P A j (.lk .la Y) (kk (A.b+j)) (OO (A.b+j)) g)  sl :
 Goes P A Fin Z hZ s gs w t sl (A.b+j):=by
 have d:cS P A Z s kk OO J M gs.size w t:=H.ex;have B:=bf (P:=P) (A:=A) (Fin:=Fin) (Z:=Z) hZ;have r:(s.w j).jN=true:=by rw[S];rfl
 have w1:=iE r;have b7:(s.w j).pc=.held:=by rw[S];rfl
 have hb:=A.hb;have o:A.b+j≠Z.lk:=by omega
 have b8:(A.b+j==0)=false:=by simp;omega
 have U:∀l,l<A.n->(s.w l).owns=false:=λl E=>by
  cases e:(s.w l).owns with
  |false=>rfl
  |true=>obtain rfl:=Cb d.I hj b7 E e;rw[S]at e;cases e
 have L:∀i,OO i A.fb=none:=λi=>by
  cases e:OO i A.fb with
  |none=>rfl
  |some y=>obtain⟨l,_,E,_,ho,_⟩:=d.tok i y e;rw[U l E]at ho;cases ho
 obtain⟨xo,a,a9,b9,bm⟩:=d.MV U;obtain⟨kind,c,rest,e,hk,hM,hm,hO,al,bw,hN⟩:=b6;obtain⟨cc,ee,av⟩:=d.uA
 have ax:e=(ee,cc.size):=by have hs:=(H.cJ.sat (A.b+j)).sh _ _ al;simp only[World.shape?,av]at hs;exact(YX hs).symm
 obtain⟨p,V,ay⟩:∃p,A.Tk j p/\∀n v,p n=some v->A.dir=true/\n=A.cell j/\cc[n]?=some v:=by
  unfold bJ.Tk
  by_cases hd:A.dir=true
  . have:=bw hd
    rw[ax]at this;refine⟨λi=>if i=A.cell j then some cc[A.cell j]else none,by rw[YG hd];exact⟨_,rfl⟩,λn v G=>?_⟩
    simp only at G;split at G
    . next e=>subst e;exact⟨hd,rfl,by rw[<-G];exact YM this⟩
    cases G
  exact⟨JM,by rw[YA hd],λn v G=>by cases G⟩
 have aC:(kk Z.lk).Le ((kk (A.b+j)).join (kk Z.lk)):=ao.vZ (H.cJ.sat (A.b+j)) (H.cJ.sat Z.lk);have u:=hN ((kk (A.b+j)).join (kk Z.lk)) xo a p (ao.rQ _ _) (b9.mono aC) bm (H.cJ.jb Z.lk (A.b+j) _ _ (zj o) a9) V;obtain⟨g1,aE,hr,g2,aL,hA⟩:=FK (Wd:=λ_=>True) (main:=false) (w:=w) C X hM
 obtain⟨k,bx⟩:=aL.trans (r7 F hA hk);rw[<-d.la]at aE;have W:iG kk Z.lk (A.b+j) (A.b+j)=(kk (A.b+j)).join (kk Z.lk):=an _ _ _;have bA:kr A Z OO (A.b+j) xo p (A.b+j)=((OO (A.b+j)).set A.mb xo).set A.fb (.part p):=by unfold kr gY;rw[an,ar _ _ o,an]
 rw[<-W,<-bA]at u;obtain⟨T,hU⟩:=TT.pre bx (Y.c _ _ _ u);obtain⟨x,hx⟩:∃x:bo P,x=.run true ⟨Y.m,iG kk Z.lk (A.b+j) (A.b+j),kr A Z OO (A.b+j) xo p (A.b+j),_,Y.c _ _ _ u⟩:=⟨_,rfl⟩;have w2:x.work=true:=by rw[hx];rfl
 have z:∀sh,((s.aT j x sh).w j)=.run true ⟨Y.m,iG kk Z.lk (A.b+j) (A.b+j),kr A Z OO (A.b+j) xo p (A.b+j),_,Y.c _ _ _ u⟩:=λsh=>by rw[aU,hx]
 have aO:=runT_crowd_go (P:=P) (sl:=sl) (i:=A.b+j) hg (by rw[b8];exact aE)
 have b0:=iF (P:=P) (A:=A) (s:=s) hj r
 have K:Deaf t (A.b+j)=0:=by obtain⟨_,_,K,_⟩:=H.walk _ b0;rw[K];show dC P A s (A.b+j)=0;rw[dY hj,S];rfl
 have Q:bQ P A s (A.b+j):=ir d.I hj (bt w1).2.2.2.2.1;have hJ:J (A.b+j):=(d.hJ _).2 (vl hj (bt w1).2.2.2.2.2.1);have b1:∀op∈MemOp.ofEvents (A.b+j) g.frame.fn g.frame.place #[⟨.mark (.acquire Z.la),false,true⟩],op.g=A.b+j:=λop D=>by obtain⟨e,_,rfl⟩:=zH D;rfl
 have b2:∀op∈MemOp.ofEvents (A.b+j) g.frame.fn g.frame.place #[⟨.mark (.acquire Z.la),false,true⟩],op.act.touch?=none/\∀a,op.act≠.mark (.release a):=λop D=>by obtain⟨e,he,rfl⟩:=zH D;simp at he;subst he;exact⟨rfl,λa h=>by simp[MemAct.ofEvent]at h⟩
 have b3:A.fb<w.heap.size:=by obtain⟨c,e,r⟩:=d.uA;exact(zs.1 r).1
 have bB:=H.cJ.SJ o a9 (λc hc=>(d.MX c hc).1) (by rw[d.la];exact b3) K (λm a hm ha b4 hz=>d.old _ Q m a hm ha b4 hz) d.norel g.frame.fn g.frame.place
 have a7:∀l,gY OO Z.lk (A.b+j) A.mb xo l A.fb=none:=λl=>by
  unfold gY
  by_cases e1:l=Z.lk
  . subst e1;rw[an];rfl
  by_cases e2:l=A.b+j
  . subst e2;rw[ar _ _ e1,an];simp only[ai.set,A.d5,Rp];exact L _
  rw[ar _ _ e1,ar _ _ e2];exact L _
 have b5:A.dir=true->(∀i,(kk i).cell A.fb (A.cell j)=none)/\∀m a R,touchAt t m=some a->a.loc=.cell R->R.block=A.fb/\R.off=A.cell j->m<Z.N0:=λhd=>(d.ya hd j hj).1 (by rw[S];rfl)
 have a8:∀n,p n≠none->A.dir=true/\n=A.cell j:=λn hn=>V.MY hn
 have hP:=bB.R5 (f:=p) o a7 (λn v G i=>by
  obtain⟨hd,rfl,_⟩:=ay n v G;have r:=(b5 hd).1
  by_cases ei:i=A.b+j
  . subst ei
    rw[W];cases q:((kk (A.b+j)).join (kk Z.lk)).cell A.fb (A.cell j)with
    |none=>rfl
    |some v=>rcases ao.mT q with h|h<;>rw[r]at h<;>cases h
  . unfold iG;rw[ar _ _ ei];exact r i) (λR r h2=>d.jA R ⟨r,.inr (.inr ⟨(a8 _ h2).1,j,hj,(a8 _ h2).2⟩)⟩) (by
  refine⟨cc,ee,av,?_,λn v G=>(ay n v G).2.2⟩
  rw[W];refine(ao.rQ _ _).2 _ _ ?_;rw[al,ax]) (λm a R ha E r h2=>by
  obtain⟨hd,h3⟩:=a8 _ h2
  rcases dI ha with⟨h4,_⟩|⟨op,D,h4⟩
  . exact(d.old _ Q m a ((b5 hd).2 m a R h4 E ⟨r,h3⟩) h4 (by rw[E];rfl) (by rw[E];exact d.jA R ⟨r,.inr (.inr ⟨hd,j,hj,h3⟩)⟩)).app _
  rw[(b2 op D).1]at h4;cases h4) d.eD.2.1
 have hI:bN A.n (s.aT j x s.sh):=d.I.still hj w1 w2 (by rw[hx];rfl) (by rw[hx,S];rfl)
 have hL:MS.fL A.n (s.aT j x s.sh) s:=AF hj w1 w2 ⟨_,_,by rw[hx];rfl,by rw[S];rfl,.single (oC.cY Y.N Y.h0 Y.ht Y.c u)⟩
 have c5:=d.take (xo:=xo) V hZ hj w1 w2 U (by rw[hx];rfl) hI b2
 have c6:Beside (bV P A Fin Z hZ) s (s.aT j x s.sh) f (bP f (A.b+j) ⟨Y.m,iG kk Z.lk (A.b+j) (A.b+j),kr A Z OO (A.b+j) xo p (A.b+j),g1,T⟩) q q kk (iG kk Z.lk (A.b+j)) OO (kr A Z OO (A.b+j) xo p) J J w (A.b+j) g g1:=lY hZ hj w1 w2 (λi hi=>ar _ _ hi) (λi hi=>rfl) (λi hi _=>ar _ _ hi) (λi hi ht=>by unfold kr gY;rw[ar _ _ hi,ar _ _ (show i≠Z.lk by omega),ar _ _ hi]) (λ_ h=>h) (.inl λh=>h) (λ{i k O y} hA=>B.kq (s:=s) (i:=i) (k:=k) (O:=O) (g:=y) hA)
 refine⟨_,_,aO,s.aT j x s.sh,bP f (A.b+j) ⟨Y.m,iG kk Z.lk (A.b+j) (A.b+j),kr A Z OO (A.b+j) xo p (A.b+j),g1,T⟩,q,iG kk Z.lk (A.b+j),kr A Z OO (A.b+j) xo p,J,M,_,_,_,rfl,hL,?_⟩;refine bC.step B H hg b1 hP c5 (λl y E hA=>?_) c6 ⟨λ_=>?_,λh=>absurd h (tw hj (z _)),λh=>absurd h (jB hj (z _)),λh=>absurd (jO hj (z _)) h⟩
 . have c7:l≠A.b+j:=λe=>(H.held l E).2.1 (by rw[e];exact b0)
   exact B.rW d E _ _ hA
 rw[an];refine⟨by show A.b+j<A.b+A.n+1;omega,rfl,?_,rfl,rfl,hr,?_,.inr hJ,λl b X' h3 h4 h5=>?_⟩
 . show Y.m=cx P A Fin (s.aT j x s.sh) (A.b+j)
   rw[mY hj (z _)];exact hm
 . rw[Deaf_own,K];rfl
 obtain rfl:l=j:=by omega
 rw[z]at h5;cases h5;exact hU
end
section
variable{P:abm}{A:bJ}{Fin:aaG}{Z:Base}{s:MS P}{f:Nat->Node P}{q:abg}{kk:abl}{OO:abk}{J M:aba}{gs:aaJ}{gsz:Nat}{w:World}{t u:Trace}{j:Nat}{g:abd}{x:bo P}{xo:Own}{a:sT}
def cS.give(Y:A.b+A.n+1<=Z.lk)(h:cS P A Z s kk OO J M gsz w t)(hj:j<A.n)(k:(s.w j).work=true)(D:x.work=true)(O:∀l,l<A.n->(s.w l).owns=true->l=j)(R:x.owns=false)(S:bN A.n (s.aT j x s.sh))(T:jY (kk (A.b+j)) xo a)(E:A.GI a)(F:x.gX=(s.w j).gX)(U:A.dir=true->(kk (A.b+j)).cell A.fb (A.cell j)=some (A.val j))(V:∀op∈u,op.act.touch?=none/\∀a,op.act≠.mark (.release a)):
 cS P A Z (s.aT j x s.sh) (nL kk Z.lk (A.b+j)) (fa OO Z.lk (A.b+j) A.mb A.fb xo) J M gsz w (t++u):=by
 have W:A.b+j≠Z.lk:=by omega
 have p:x.busy=(s.w j).busy:=by rw[(bt k).2.2.2.2.2.1,(bt D).2.2.2.2.2.1]
 have G:∀l,l≠Z.lk->nL kk Z.lk (A.b+j) l=kk l:=λl d=>ar _ _ d
 have H:nL kk Z.lk (A.b+j) Z.lk=kk (A.b+j):=an _ _ _;have eO:∀l,l≠A.b+j->l≠Z.lk->fa OO Z.lk (A.b+j) A.mb A.fb xo l=OO l:=λl k D=>by unfold fa;rw[ar _ _ D,ar _ _ k]
 have z:fa OO Z.lk (A.b+j) A.mb A.fb xo (A.b+j)=((OO (A.b+j)).del A.mb).del A.fb:=by unfold fa;rw[ar _ _ W,an]
 have f:fa OO Z.lk (A.b+j) A.mb A.fb xo Z.lk=ai.bot.set A.mb xo:=by unfold fa;rw[an]
 have B:bQ P A s (A.b+j):=ir h.I hj (bt k).2.2.2.2.1
 have C:∀l,l<A.n->((s.aT j x s.sh).w l).owns=false:=λl d=>by
  by_cases e:l=j
  . subst e;rw[aU];exact R
  rw[cd e]
  grind
 refine⟨S,h.size,h.dd,h.off,λhd l d=>⟨λr=>?_,λQ=>?_⟩,h.yV,h.mu,h.gr,h.uA,h.yo,λi=>?_,λi=>?_,λi y v=>?_,λl d K=>?_,λK=>?_,λc L=>?_,
  λi=>by rw[h.hJ i];exact(nJ hj p i).symm,h.uC u,h.lX u,h.jM u (λop g a N=>by grind),h.nI u (λop g a N=>by grind),h.o6 u,h.je u (λop g=>(V op g).2),λi d hb=>?_,h.rS,h.jA,h.eD,h.la,by simp;exact YO h.n0 (Zs _ _)⟩
 . have r:(s.w l).gX=false:=by
    by_cases e:l=j
    . subst e;rw[aU,F]at r;exact r
    rw[cd e]at r;exact r
   refine⟨λi=>?_,λm a X N q q'=>(dI N).elim (λk=>((h.ya hd l d).1 r).2 m a X k.1 q q') (λ⟨op,g,k⟩=>by grind)⟩
   have k:=((h.ya hd l d).1 r).1
   grind
 . rw[G _ (by omega)]
   by_cases e:l=j
   . grind
   rw[cd e]at Q;exact(h.ya hd l d).2 Q
 . by_cases o:i=Z.lk
   . subst o;rw[f];simp only[ai.set,A.d3,A.d6,Rp];exact⟨λ_=>rfl,rfl⟩
   by_cases e:i=A.b+j
   . subst e;rw[z]
     have:=h.fT (A.b+j);simp only[ai.del,A.d1,A.d3,zj A.d4,A.d6,Rp];exact this
   rw[eO i e o];exact h.fT i
 . by_cases o:i=Z.lk
   . subst o;rw[H];exact h.dT _
   rw[G i o];exact h.dT i
 . exfalso
   by_cases o:i=Z.lk
   . subst o;rw[f]at v
     simp only[ai.set,A.d5,Rp]at v;cases v
   by_cases e:i=A.b+j
   . subst e;rw[z]at v;simp[ai.del]at v
   rw[eO i e o]at v;obtain⟨l,_,d,h3,ho,_⟩:=h.tok i y v
   grind
 . grind
 . refine⟨xo,a,by rw[f];simp[ai.set],by grind,E⟩
 . rw[f]at L
   refine⟨?_,C⟩
   by_cases e:c=A.mb
   . exact e
   simp only[ai.set,e,Rp]at L;exact absurd rfl L
 have e:i≠A.b+j:=λe=>hb (e ▸ B)
 rw[G i d,eO i e d];exact h.B3 i d hb
variable(C:fQ P A.nm)(X:fR P A.nm)
include C X in
def NI  z  (S:bC (bV P A Fin Z z) Z s f q kk OO J M gs w t) (hj:j<A.n){Y}(o:s.w j=.un .ur Y) (hg:gs[A.b+j]?=some g) (W:FX P A j (.un .ur Y) (kk (A.b+j)) (OO (A.b+j)) g)  sl :
 Goes P A Fin Z z s gs w t sl (A.b+j):=by
 have u:cS P A Z s kk OO J M gs.size w t:=S.ex;have B:=bf (P:=P) (A:=A) (Fin:=Fin) (Z:=Z) z;have T:(s.w j).jN=true:=by rw[o];rfl
 have U:=iE T;have a7:(s.w j).pc=.held:=by rw[o];rfl
 have hb:=A.hb;have d:A.b+j≠Z.lk:=by omega
 have a8:(A.b+j==0)=false:=by simp;omega
 have D:∀l,l<A.n->(s.w l).owns=true->l=j:=λl E e=>Cb u.I hj a7 E e
 obtain⟨kind,c,rest,hk,hM,hm,a9,b0⟩:=W;obtain⟨tf,xo,a,b1,Br,ad,al,av,hN⟩:=a9 (.inr rfl);obtain⟨g1,F,hr,g2,⟨k,G⟩,H⟩:=FJ (Wd:=kF A) (main:=false) (w:=w) C X hM;rw[<-u.la]at F;have ax:nL kk Z.lk (A.b+j) (A.b+j)=kk (A.b+j):=ar _ _ d;have ay:fa OO Z.lk (A.b+j) A.mb A.fb xo (A.b+j)=((OO (A.b+j)).del A.mb).del A.fb:=by unfold fa;rw[ar _ _ d,an]
 have K:=runT_crowd_go (P:=P) (sl:=sl) (i:=A.b+j) hg (by rw[a8];exact F)
 have aC:=iF (P:=P) (A:=A) (s:=s) hj T
 have p:Deaf t (A.b+j)=0:=by obtain⟨_,_,p,_⟩:=S.walk _ aC;rw[p];show dC P A s (A.b+j)=0;rw[dY hj,o];rfl
 have L:∀op∈MemOp.ofEvents (A.b+j) g.frame.fn g.frame.place #[⟨.mark (.releaseMerge Z.la),false,true⟩],op.g=A.b+j:=λop v=>by obtain⟨e,_,rfl⟩:=zH v;rfl
 have aE:∀op∈MemOp.ofEvents (A.b+j) g.frame.fn g.frame.place #[⟨.mark (.releaseMerge Z.la),false,true⟩],op.act.touch?=none/\∀a,op.act≠.mark (.release a):=λop v=>by obtain⟨e,he,rfl⟩:=zH v;simp at he;subst he;exact⟨rfl,λa h=>by simp[MemAct.ofEvent]at h⟩
 have N:A.fb<w.heap.size:=by obtain⟨c,e,T⟩:=u.uA;exact(zs.1 T).1
 have Q:∀c,OO Z.lk c=none:=λc=>by
  cases e:OO Z.lk c with
  |none=>rfl
  | some y=>
    have:=(u.MX c (by rw[e];simp)).2 j hj
    rw[o]at this;cases this
 have hP:=S.cJ.SK (fb:=A.fb) d Br Q (by rw[u.la];exact N) p g.frame.fn g.frame.place
 obtain⟨x,m⟩:∃x:bo P,x=.un .ud Y:=⟨_,rfl⟩;have V:x.work=true:=by rw[m];rfl
 have r:((s.aT j x s.sh).w j).jN=true:=by rw[aU,m];rfl
 have hI:bN A.n (s.aT j x s.sh):=u.I.still hj U V (by rw[m];rfl) (by rw[m,o];rfl)
 have hL:MS.fL A.n (s.aT j x s.sh) s:=ly hj U V (by rw[m,o];rfl) (by rw[m,o];rfl) (by rw[m,o];simp[bo.ex])
 have aL:=u.give z hj U V D (by rw[m];rfl) hI ad al (by rw[m,o];rfl) av aE
 have aO:Beside (bV P A Fin Z z) s (s.aT j x s.sh) f f q (upd q (A.b+j) k) kk (nL kk Z.lk (A.b+j)) OO (fa OO Z.lk (A.b+j) A.mb A.fb xo) J J w (A.b+j) g g1:=lY z hj U V (λi R=>rfl) (λi R=>upd_ne q k R) (λi R ht=>ar _ _ (show i≠Z.lk by omega)) (λi R ht=>by unfold fa;rw[ar _ _ (show i≠Z.lk by omega),ar _ _ R]) (λ_ h=>h) (.inl λh=>h) (λ{i k O y} H=>B.kq (s:=s) (i:=i) (k:=k) (O:=O) (g:=y) H)
 refine⟨_,_,K,s.aT j x s.sh,f,upd q (A.b+j) k,nL kk Z.lk (A.b+j),fa OO Z.lk (A.b+j) A.mb A.fb xo,J,M,_,_,_,rfl,hL,?_⟩;refine bC.step B S hg L hP aL (λl y E H=>B.rW u E _ _ H) aO ⟨λE=>absurd E (lZ hj r),λ_=>⟨lZ hj r,?_,?_,g2,?_,?_⟩,λhh=>absurd hh (pf hj r),λ_ hn _=>absurd (iF hj r) hn⟩
 . show A.b+j<A.b+A.n+1;omega
 . rw[Deaf_own,p]
   show _=dC P A (s.aT j x s.sh) (A.b+j);rw[dY hj,aU,m];rfl
 . refine .inr (.inl ⟨j,hj,rfl,?_⟩)
   rw[aU,m,ax,ay];exact⟨kind,c,rest,hk,H,hm,λh=>absurd h (by simp),λ_=>hN⟩
 exact .inr (by rw[upd_same];exact G)
end

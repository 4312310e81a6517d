import Derived.Conc.CrowdComm
import Derived.Test.YtkcceaplmgdnfaaGreatDoorC16
set_option linter.all false
namespace Go.bQ
section
open Go.Conc
open Go.ConcN (sumTo upd sumTo_upd upd_ne upd_same)
structure bJ where
 b:Nat
 n:Nat
 cl:Nat
 cF:Nat
 fb:Nat
 fo:Nat
 gb:Nat
 mb:Nat
 GI:ga->Prop
 res:Nat->AV
 val:acj
 nm:yV
 ng:HV
 hb:0<b/\(cl=0\/cl=b+n)
 hn:n<=900
 d1:cF≠fb
 d2:cF≠gb
 d3:cF≠mb
 d4:fb≠gb
 d5:fb≠mb
 d6:gb≠mb
def bJ.dir(A:bJ):Bool:=A.cl==0
def bJ.cell(A:bJ)(j:Nat):Nat:=A.fo+2+j
theorem KS{A:bJ}(h:A.dir=true):A.cl=0:=by simpa[bJ.dir]using h
theorem vb{A:bJ}(h:A.dir=false):A.cl=A.b+A.n:=by have:=A.hb;simp[bJ.dir]at h;omega
def gN:abz:=λ_ _ _=>False
def KT:Nat->abV:=λ_=>none
def bJ.Tk(A:bJ)(j:Nat)(f:Nat->abV):Prop:=if A.dir then ∃v,f=λi=>if i=A.cell j then some v else none else f=KT
def bH(fo:Nat):Nat->abV:=λi=>if i=fo then some (.int .i32 0)else if i=fo+1 then some (.int .u32 0)else none
section
variable(P:acD)(A:bJ)(Fin:abz)
def P8(j:Nat)(k:ah)(O:aj)(g:aco)(N:abz):Prop:=
 ∃ kind c rest e,kind≠.early/\g=G (Frame.enter P A.nm.lock #[.pointer (some ⟨A.fb,A.fo,none⟩)] kind) (c::rest)/\O A.fb=none/\k.sh A.fb=some e/\(A.dir=true->A.cell j<e.2)/\
   ∀b x a f,k.Le b->kq b x a->A.GI a->O A.mb=none->A.Tk j f->N b ((O.set A.mb x).set A.fb (.part f)) (jW kind c rest (.tuple #[]))
def GL(j:Nat)(k:ah)(O:aj)(g:aco)(N:abz):Prop:=
 ∃ kind c rest f x a,kind≠.early/\g=G (Frame.enter P A.nm.unlock #[.pointer (some ⟨A.fb,A.fo,none⟩)] kind) (c::rest)/\O A.fb=some (.part f)/\O A.mb=some x/\kq k x a/\A.GI a/\(A.dir=true->k.cell A.fb (A.cell j)=some (A.val j))/\
   N k ((O.del A.mb).del A.fb) (jW kind c rest (.tuple #[]))
def kP:Mo:=⟨false,false,λk O g N=>N=gN/\∃a fn tmps todo,P.funcs[a]?=some fn/\fn.results=#[]/\g=G (Frame.enter P A.ng.done #[.pointer (some ⟨A.gb,0,none⟩)] .deferred) [kD P a tmps todo,cI P]⟩
def Eu(N:abz):abz:=if A.dir then T P (kP P A) gN else N
def iu(j:Nat):Mo:=⟨false,false,λk O g N=>P8 P A j k O g N\/GL P A j k O g (Eu P A N)\/(A.dir=false/\N=gN/\O A.fb=none/\∃a z v,(∀w,Sat k O w->stepG P false g w=.comm a #[scase A.cF v z] true .send w #[])/\V k v (A.res j)/\T P (kP P A) gN k O (Go.Conc.served a undef))⟩
def rN:Mo:=⟨false,false,λk O g N=>N=gN/\∃a n,mayWake P g=true/\(∀w s r b,Sat k O w->w.heap[A.cF]?=some (.chan 0 #[] false s r b)->stepG P false g w=.go a {w with heap:=w.heap.setIfInBounds A.cF (.chan 0 #[] true s r b)} #[⟨.obj A.cF,false,true⟩,⟨.obj A.cF,true,true⟩])/\QuitsD P n 0 a⟩
def xp:Mo:=⟨false,false,λk O g N=>N=gN/\∃c rest,g=G (Frame.enter P A.ng.wait #[.pointer (some ⟨A.gb,0,none⟩)] .normal) (c::rest)/\∀a,k.Le a->T P (rN P A) gN a O (jW .normal c rest (.tuple #[]))⟩
def TK(k:ah)(O:aj)(c:Frame)(rest:acb):Prop:=(∃e,k.sh A.fb=some e)/\∀b x a,k.Le b->(∀j,j<A.n->b.cell A.fb (A.cell j)=some (A.val j))->kq b x a->A.GI a->Fin b ((O.set A.mb x).set A.fb (.part (bH A.fo))) (jW .normal c rest (.tuple #[]))
def dK(k:ah)(O:aj)(g a:aco)(z:Value):Prop:=∀w,Sat k O w->stepG P true g w=.comm a #[rcase A.cF z] true (.recv true) w #[]
def rf:Nat->acr->Mo
 | 0,R=>⟨true,false,λk O g N=>N=gN/\∃b z,dK P A k O g b z/\dK P A k O b b z/\b.status=.running/\(∃e,k.sh A.fb=some e)/\
    ∀c x a,k.Le c->kq c x a->A.GI a->Fin c ((O.set A.mb x).set A.fb (.part (bH A.fo))) (Go.Conc.served b (.tuple #[z,.bool false]))⟩
 | m + 1,R=>⟨true,false,λk O g N=>N=gN/\∃b z,dK P A k O g b z/\dK P A k O b b z/\b.status=.running/\
     ∀j∈R,∀c v,k.Le c->V c v (A.res j)->T P (rf m (R.erase j)) gN c O (Go.Conc.served b (.tuple #[v,.bool true]))⟩
def oZ:Nat->Mo
 |0=>if A.dir then⟨true,false,λk O g N=>N=gN/\∃c rest,g=G (Frame.enter P A.ng.wait #[.pointer (some ⟨A.gb,0,none⟩)] .normal) (c::rest)/\TK A Fin k O c rest⟩else⟨true,false,λk O g N=>N=gN/\∃a child,(∀w,Sat k O w->stepG P true g w=.spawn a child w #[])/\T P (xp P A) gN k aj.bot child/\T P (rf P A Fin A.n (List.range A.n)) gN k O a⟩
 | m + 1=>⟨true,false,λk O g N=>N=gN/\∃c rest,g=G (Frame.enter P A.ng.add #[.pointer (some ⟨A.gb,0,none⟩),.int .i64 1] .normal) (c::rest)/\
     T P ⟨true,false,λk O g N=>N=gN/\∃a child,(∀w,Sat k O w->stepG P true g w=.spawn a child w #[])/\T P (iu P A (A.n-(m+1))) gN k aj.bot child/\T P (oZ m) gN k O a⟩ gN k O (jW .normal c rest (.tuple #[]))⟩
def E0(m:Nat):Mo:=⟨true,false,λk O g N=>N=gN/\∃a child,(∀w,Sat k O w->stepG P true g w=.spawn a child w #[])/\T P (iu P A (A.n-(m+1))) gN k aj.bot child/\T P (oZ P A Fin m) gN k O a⟩
structure vG where
 m:Mo
 k:ah
 O:aj
 g:aco
 N:abz
 h0:g.status=.running
 ht:m.de k O g N
 c:∀k' O' g',N k' O' g'->TT P m k' O' g'
variable {P} in
def vG.node(y:vG P):Node P:=⟨y.m,y.k,y.O,y.g,.de y.N y.h0 y.ht y.c⟩
inductive bn where
 |idle
 |run (h:Bool) (X:Node P)
 |lk (p:sE) (Y:vG P)
 |un (p:sE) (Y:vG P)
 |wait
 |yJ
 |dn (p:vS)
 |gone
inductive jm where
 |none|er|wt (p:vS)|jo|gone
inductive om where
 |add (j:Nat)|bu (j:Nat) (p:vS)|spawn (j:Nat)|recv|parked|off
structure MS where
 d:Bool
 ms:om
 sp:Nat
 w:Nat->bn P
 c:jm
 sh:Mu.Sh
 gc:Nat
 gv:Nat
 gm:Nat
def sE.abs:sE->Mu.Pc
 |.ld=>.out|.iq=>.iq|.rd l=>.rd l|.sq o l=>.sq o l|.sw o l=>.sw o l|.ko o l=>.ko o l|.t1 sv=>.gE sv|.gE sv=>.gE sv|.tq=>.tq|.up sv=>.up sv|.add o sv=>.add o sv
 |.le=>.held|.la=>.held|.back=>.held|.Gy=>.held|.ur=>.held|.ud=>.held|.held=>.held|.ja o=>.ja o|.vC=>.vC|.give=>.give|.ue=>.out|.CO=>.out
variable{P}
def bn.pc:bn P->Mu.Pc
 |.run true _=>.held
 |.lk p _=>p.abs
 |.un p _=>p.abs
 |_=>.out
def bn.owns:bn P->Bool
 |.run h _=>h
 |.un .Gy _=>true
 |.un .ur _=>true
 |_=>false
def CQ:sE->Bool
 |.ld=>true|.iq=>true|.rd _=>true|.sq ..=>true|.sw ..=>true|.ko ..=>true|.t1 _=>true|.gE _=>true|.tq=>true|.up _=>true|.add ..=>true|.le=>true|.la=>true
 |_=>false
def yY:sE->Bool
 |.Gy=>true|.ur=>true|.ud=>true|.held=>true|.ja _=>true|.vC=>true|.give=>true|.ue=>true
 |_=>false
def bn.deaf:bn P->Nat
 |.lk .ld _=>0|.lk .la _=>0|.lk _ _=>1
 |.un .Gy _=>0|.un .ur _=>0|.un .ud _=>0|.un _ _=>1
 |.dn .d1=>0|.dn .d2=>0|.dn _=>1
 |_=>0
def sJ:vS->Nat
 |.a0=>0|.a2=>1|.a4=>1|.ae=>1
 |.w0=>0|.w1=>1|.we=>1|.wa=>0|.w2 _=>1|.w3=>1|.w4=>1|.w5=>1
 |_=>0
def bn.cx:bn P->Nat
 |.idle=>0|.run ..=>20|.lk ..=>20|.un ..=>20|.wait=>19|.yJ=>18
 |.dn .d1=>12|.dn .d2=>11|.dn .d4=>10|.dn .d5=>4|.dn .d6=>3|.dn _=>2|.gone=>0
def jm.cx(gc:Nat):jm->Nat
 |.none=>0|.er=>14
 |.wt .w0=>13|.wt .w1=>10|.wt (.w2 k)=>if gc=k then 9 else 11|.wt .w3=>8|.wt .w4=>7|.wt .w5=>6|.wt .we=>5|.wt _=>4
 |.jo=>3|.gone=>0
def om.cx:om->Nat
 |.add j=>40*j+200|.bu j .a0=>40*j+199|.bu j .a2=>40*j+198|.bu j .a4=>40*j+197|.bu j _=>40*j+196
 |.spawn j=>40*j+225|.recv=>100|.parked=>99|.off=>0
def MS.cx(n:Nat)(s:MS P):Nat:=s.ms.cx+sumTo n (λj=>(s.w j).cx)+s.c.cx s.gc
def Bq(n:Nat):Nat:=4*(6*(18*n+1)+16)+20
def bn.ex(n:Nat):bn P->Nat
 |.run ..=>2*Bq n|.lk .ld _=>Bq n|.lk (.t1 _) _=>1|.lk .le _=>2|.lk .la _=>1
 |.un .Gy _=>5|.un .ur _=>4|.un .ud _=>3|.un .ue _=>1|_=>0
def MS.inner(n:Nat)(s:MS P):Nat:=4*Mu.meas n (λj=>(s.w j).pc) s.sh+sumTo n (λj=>(s.w j).ex n)
def bn.nd:bn P->Option (Node P)
 |.run _ X=>some X|.lk _ Y=>some Y.node|.un _ Y=>some Y.node|_=>none
end
def HX{P:acD}(a b:Option (Node P)):Prop:=∃x y,a=some x/\b=some y/\Relation.TransGen pj x y
theorem KU{P:acD}:∀a:Option (Node P),Acc HX a:=by
 have key:∀x:Node P,Acc (Relation.TransGen pj) x->Acc HX (some x):=by
  intro x b;induction b with
  |intro x _ c=>exact⟨_,λy ⟨u,v,d,f,h⟩=>by simp_all⟩
 intro a;cases a with
 |none=>exact⟨_,λy ⟨u,v,_,e,_⟩=>by cases e⟩
 |some x=>exact key x ((WellFounded.intro CE).transGen.apply x)
def KV{α:Type}(R:α->α->Prop)(n:Nat)(f' f:Nat->α):Prop:=∃i,i<n/\(∀j,j≠i->f' j=f j)/\R (f' i) (f i)
theorem CR{α:Type}{R:α->α->Prop}(d:∀a,Acc R a):∀(n:Nat) (f:Nat->α),Acc (KV R n) f
 |0,f=>⟨_,λy ⟨i,e,_⟩=>by omega⟩
 | n + 1,f=>by
   have key:∀x:α,Acc R x->∀f:Nat->α,f n=x->Acc (KV R (n+1)) f:=by
    intro x g;induction g with
    | intro x _ h=>
      intro f m;have j:=CR d n f;induction j with
      | intro f _ b=>
        refine⟨_,λf' ⟨i,e,c,k⟩=>?_⟩;by_cases l:i=n
        . grind
        . exact b f' ⟨i,by omega,c,k⟩ (by grind)
   simp_all
def MS.gg{P:acD}(n:Nat)(s' s:MS P):Prop:=s'.cx n<s.cx n\/(s'.cx n=s.cx n/\(KV HX n (λj=>(s'.w j).nd) (λj=>(s.w j).nd)\/((λj=>(s'.w j).nd)=(λj=>(s.w j).nd)/\s'.inner n<s.inner n)))
theorem OE{P:acD}(n:Nat):WellFounded (MS.gg (P:=P) n):=by
 have c:WellFounded (KV (HX (P:=P)) n):=⟨CR KU n⟩;have d:=(Prod.lex ⟨Nat.lt,Nat.lt_wfRel.wf⟩ (Prod.lex ⟨KV (HX (P:=P)) n,c⟩ ⟨Nat.lt,Nat.lt_wfRel.wf⟩)).wf;refine Subrelation.wf (r:=InvImage _ (λs:MS P=>(s.cx n,(λj=>(s.w j).nd),s.inner n))) ?_ (InvImage.wf _ d);intro s' s h;rcases h with h|⟨h,b|⟨b,a⟩⟩
 . exact Prod.Lex.left _ _ h
 . show Prod.Lex _ _ (_,_) (_,_)
   grind
 . show Prod.Lex _ _ (_,_) (_,_)
   rw[h,b];exact Prod.Lex.right _ (Prod.Lex.right _ a)
section
variable{P:acD}
def bn.iF:bn P->Bool
 |.yJ=>true|.dn _=>true|.gone=>true|_=>false
def bn.iv:bn P->Bool
 |.idle=>false|.run h _=>h|.lk ..=>false|_=>true
def bn.rel(x:bn P):Bool:=x.iv && !x.owns
def bn.cnt:bn P->Nat
 |.run ..=>1|.lk ..=>1|.un ..=>1|.wait=>1|.yJ=>1|.dn .d1=>1|.dn .d2=>1|.dn .d4=>1|_=>0
def bn.busy:bn P->Bool
 |.run ..=>true|.lk ..=>true|.un ..=>true|.wait=>true|.yJ=>true|.dn .d1=>true|_=>false
def bn.last:bn P->Bool
 |.dn .d5=>true|.dn .d6=>true|.dn .d7=>true|_=>false
def bn.jq:bn P->Bool
 |.idle=>true|_=>false
def bn.ok:bn P->Bool
 |.lk p _=>CQ p
 |.un p _=>yY p
 |.dn p=>(match p with|.d1=>true|.d2=>true|.d4=>true|.d5=>true|.d6=>true|.d7=>true|_=>false)
 |_=>true
def jm.busy:jm->Bool
 |.er=>true|.wt _=>true|.jo=>true|_=>false
def jm.ok:jm->Bool
 |.wt p=>(match p with|.w0=>true|.w1=>true|.w2 _=>true|.w3=>true|.w4=>true|.w5=>true|.we=>true|.wa=>true|_=>false)
 |_=>true
def jm.waits:jm->Bool
 |.wt .w3=>true|.wt .w4=>true|_=>false
def jm.KW:jm->Bool
 |.wt .w5=>true|.wt .we=>true|.wt .wa=>true|.jo=>true|.gone=>true|_=>false
def jm.isNone:jm->Bool
 |.none=>true|_=>false
def jm.ez:jm->Bool
 |.gone=>true|_=>false
def om.pend:om->Nat
 |.bu _ .a4=>1|.bu _ .ae=>1|.spawn _=>1|_=>0
structure bO(n:Nat)(s:MS P):Prop where
 g1:s.gc=sumTo n (λj=>(s.w j).cnt)+s.ms.pend
 g2:s.gv<=1
 Ev:s.gv=1->s.c.waits=true/\s.gm=0
 g3:∀j,j<n->(s.w j=.dn .d5\/s.w j=.dn .d6)->s.gv=1/\s.gc=0
 GM:∀i j,i<n->j<n->(s.w i).last=true->(s.w j).last=true->i=j
 g4:∀j,j<n->s.w j=.dn .d7->s.gv=0/\s.gc=0/\s.gm=0/\s.c.waits=true
 g5:s.gm<=1/\(s.gm=1->s.c.waits=true/\s.gv=0/\s.gc=0/\∀j,j<n->(s.w j).last=false)
 g6:s.c.waits=true->s.gv=0->s.gm=0->∃j,j<n/\s.w j=.dn .d7
 g7:s.gv=1->s.gc=0->∃j,j<n/\(s.w j=.dn .d5\/s.w j=.dn .d6)
 g8:s.c.KW=true->s.gc=0/\s.gv=0/\s.gm=0/\∀j,j<n->s.w j=.gone
 g9:∀k,s.c=.wt (.w2 k)->k≠0
 ok:∀j,j<n->(s.w j).ok=true
 Sr:s.c.ok=true
 sp:s.sp<=n
 idle:∀j,j<n->((s.w j).jq=true↔s.sp<=j)
 ms:match s.ms with
  |.add j=>s.sp+j=n/\s.c=.none
  |.bu j p=>s.sp+j=n/\s.c=.none/\1<=j/\(p=.a0\/p=.a2\/p=.a4\/p=.ae)
  |.spawn j=>s.sp+j+1=n/\s.c=.none
  |.recv=>s.sp=n/\s.c≠.none
  |.parked=>s.sp=n/\s.c≠.none/\s.c≠.gone/\∀j,j<n->s.w j≠.wait
  |.off=>s.sp=n/\s.c≠.none
 early:s.d=false->s.c=.none->∀j,j<n->(s.w j).iF=false
 mu:Mu.Inv n (λj=>(s.w j).pc) s.sh
end
variable(P:acD)(A:bJ)(Fin:abz)
def MS.rem(n:Nat)(s:MS P):acr:=(List.range n).filter λj=>!(s.w j).iF
def dA(s:MS P)(i:Nat):Prop:=(i=0/\(match s.ms with|.add _=>True|.spawn _=>True|.recv=>True|_=>False))\/(∃j,j<A.n/\i=A.b+j/\(match s.w j with|.run ..=>True|.yJ=>True|_=>False))\/(i=A.cl/\(match s.c with|.er=>True|.jo=>True|_=>False))
def gu(s:MS P)(i:Nat):Prop:=(i=0/\(match s.ms with|.bu ..=>True|_=>False))\/(∃j,j<A.n/\i=A.b+j/\(match s.w j with|.lk ..=>True|.un ..=>True|.dn _=>True|_=>False))\/(i=A.cl/\(match s.c with|.wt _=>True|_=>False))
def fq(s:MS P)(i:Nat):Prop:=(i=0/\s.ms=.parked)\/(∃j,j<A.n/\i=A.b+j/\s.w j=.wait)
def ck(s:MS P)(i:Nat):Mo:=
 if i=0 then(match s.ms with|.add j=>oZ P A Fin j|.spawn j=>E0 P A Fin j|_=>rf P A Fin (MS.rem P A.n s).length (MS.rem P A.n s))
 else if i<A.b+A.n then(match s.w (i-A.b)with|.run ..=>iu P A (i-A.b)|_=>kP P A)else(match s.c with|.er=>xp P A|_=>rN P A)
theorem E1(s:MS P)(i:Nat):(ck P A Fin s i).main=(i==0):=by
 have c:∀m R,(rf P A Fin m R).main=true:=λm R=>by cases m<;>rfl
 have b:∀m,(oZ P A Fin m).main=true:=λm=>by
  cases m with
  |zero=>unfold oZ;grind
  |succ m=>rfl
 unfold ck;by_cases a:i=0
 . subst a
   simp only[if_true,beq_self_eq_true];split
   . exact b _
   . rfl
   simp_all
 . have:(i==0)=false:=by simp_all
   rw[if_neg a,this];split
   . split<;>rfl
   . split<;>rfl
def GN(j:Nat)(x:bn P)(k:ah)(O:aj)(g:aco):Prop:=
 match x with
 |.lk p Y=>∃kind c rest e,kind≠.early/\nT P A.nm A.fb A.fo kind p (c::rest) g/\Y.m=iu P A j/\O A.fb=none/\k.sh A.fb=some e/\(A.dir=true->A.cell j<e.2)/\∀b x a f,k.Le b->kq b x a->A.GI a->O A.mb=none->A.Tk j f->Y.N b ((O.set A.mb x).set A.fb (.part f)) (jW kind c rest (.tuple #[]))
 | .un p Y=>∃kind c rest,kind≠.early/\nT P A.nm A.fb A.fo kind p (c::rest) g/\Y.m=iu P A j/\
    ((p=.Gy\/p=.ur)->∃f x a,O A.fb=some (.part f)/\O A.mb=some x/\kq k x a/\A.GI a/\(A.dir=true->k.cell A.fb (A.cell j)=some (A.val j))/\Eu P A Y.N k ((O.del A.mb).del A.fb) (jW kind c rest (.tuple #[])))/\
    (¬(p=.Gy\/p=.ur)->Eu P A Y.N k O (jW kind c rest (.tuple #[])))
 |.dn p=>∃d fn tmps todo,P.funcs[d]?=some fn/\fn.results=#[]/\qZ P A.ng A.gb .deferred p [kD P d tmps todo,cI P] g
 |_=>False
def Ss(x:jm)(k:ah)(O:aj)(g:aco):Prop:=
 match x with
 |.wt p=>∃c rest,qZ P A.ng A.gb .normal p (c::rest) g/\if A.dir then TK A Fin k O c rest else ∀a,k.Le a->T P (rN P A) gN a O (jW .normal c rest (.tuple #[]))
 |_=>False
def Vi(x:om)(k:ah)(O:aj)(g:aco):Prop:=
 match x with
 |.bu j p=>∃c rest,qZ P A.ng A.gb .normal p (c::rest) g/\T P (E0 P A Fin (j-1)) gN k O (jW .normal c rest (.tuple #[]))
 |_=>False
def TL(s:MS P)(i:Nat)(k:ah)(O:aj)(g:aco):Prop:=(i=0/\Vi P A Fin s.ms k O g)\/(∃j,j<A.n/\i=A.b+j/\GN P A j (s.w j) k O g)\/(i=A.cl/\Ss P A Fin s.c k O g)
def QZ(s:MS P)(i:Nat):Prop:=(∃j sv Y,j<A.n/\i=A.b+j/\s.w j=.lk (.gE sv) Y/\s.sh.ms=0)\/(i=A.cl/\s.c=.wt .w4/\s.gm=0)
def V2(s:MS P)(i:Nat)(k:ah)(O:aj)(g:aco):Prop:=
 (i=0/\∃a z,g=parked a #[rcase A.cF z] (.recv true)/\dK P A k O a a z/\a.status=.running/\(rf P A Fin (MS.rem P A.n s).length (MS.rem P A.n s)).de k O a gN)\/
 (∃j,j<A.n/\i=A.b+j/\∃a z v,g=parked a #[scase A.cF v z] .send/\V k v (A.res j)/\O A.fb=none/\T P (kP P A) gN k O (Go.Conc.served a undef)/\A.dir=false)
def dL(s:MS P)(i:Nat):Nat:=
 if i=0 then(match s.ms with|.bu _ p=>sJ p|.off=>(match s.c with|.wt p=>sJ p|_=>0)|_=>0)
 else if i<A.b+A.n then(s.w (i-A.b)).deaf else(match s.c with|.wt p=>sJ p|_=>0)
def kQ(w:World):Prop:=(∃v,w.cell? ⟨A.gb,0,none⟩=some v)/\(∃v,w.cell? ⟨A.gb,1,none⟩=some v)/\∃v,w.cell? ⟨A.fb,A.fo,none⟩=some v
def yK(A:bJ):Loc->Prop
 |.cell a=>a.spot=none/\((a.block=A.fb/\(a.off=A.fo\/a.off=A.fo+1))\/(a.block=A.gb/\(a.off=0\/a.off=1)))
 |.obj r=>r=A.cF/\A.dir=false
 |_=>False
def dU(s:MS P)(i:Nat):Prop:=(∃j,j<A.n/\i=A.b+j/\(s.w j).busy=true)\/(i=A.cl/\s.c.busy=true)
def bT(s:MS P)(i:Nat):Prop:=i=0\/(∃j,j<s.sp/\i=A.b+j)\/(i=A.cl/\s.c≠.none)
abbrev vH(s:MS P):Prop:=(A.dir=true->s.c≠.none->s.ms=.off)/\(A.dir=true->s.ms≠.recv/\s.ms≠.parked/\s.c≠.er/\s.c≠.jo/\s.c≠.gone)/\(A.dir=false->s.ms≠.off)
structure c8(Z:Base)(s:MS P)(kk:acy)(OO:acx)(J M:ack)(gsz:Nat)(w:World)(t:Trace):Prop where
 I:bO A.n s
 size:gsz=A.b+s.sp+(if s.c.isNone||A.dir then 0 else 1)
 dd:s.d=A.dir
 off:vH P A s
 yL:A.dir=true->∀j,j<A.n->((s.w j).iv=false->(∀i,(kk i).cell A.fb (A.cell j)=none)/\∀m a ad,touchAt t m=some a->a.loc=.cell ad->ad.block=A.fb/\ad.off=A.cell j->m<Z.N0)/\((s.w j).rel=true->(kk (A.b+j)).cell A.fb (A.cell j)=some (A.val j))
 zT:A.dir=false->∃x tm,w.heap[A.cF]?=some (.chan 0 #[] s.c.ez x x tm)
 mu:ShM A.fb A.fo w s.sh
 gr:qY A.gb w s.gc s.gv s.gm
 vd:∃c e,w.heap[A.fb]?=some (.cells c e (0,0))
 yZ:∃c e,w.heap[A.gb]?=some (.cells c e (0,0))
 gy:∀i,(A.dir=false->OO i A.cF=none)/\OO i A.gb=none
 eu:∀i,(kk i).cell A.fb A.fo=none/\(kk i).cell A.fb (A.fo+1)=none/\(kk i).cell A.gb 0=none/\(kk i).cell A.gb 1=none
 tok:∀i x,OO i A.fb=some x->∃j f,j<A.n/\i=A.b+j/\(s.w j).owns=true/\x=.part f/\∀l,f l≠none->A.dir=true/\l=A.cell j
 y7:∀j,j<A.n->(s.w j).owns=true->OO (A.b+j) A.fb≠none
 N3:(∀j,j<A.n->(s.w j).owns=false)->∃x a,OO Z.lk A.mb=some x/\kq (kk Z.lk) x a/\A.GI a
 N4:∀c,OO Z.lk c≠none->c=A.mb/\∀j,j<A.n->(s.w j).owns=false
 hJ:∀i,J i↔dU P A s i
 hM:∀p,M p->t.heard p/\Z.N0<=p/\((t.act? p=some (.mark (.releaseMerge ⟨A.gb,0,none⟩))/\(s.c=.none\/s.c=.er\/∃q,s.c=.wt q))\/(s.c=.gone/\t.act? p=some (.close A.cF)))
 shut:s.c=.gone->∃p,M p/\t.act? p=some (.close A.cF)/\t.heard p
 quiet:∀m a,touchAt t m=some a->yK A a.loc->a.kind=.plain->∀i,bT P A s i->Knows t i m
 said:∀m a,touchAt t m=some a->yK A a.loc->a.kind=.said->Knows t (if s.c.isNone then 0 else A.cl) m
 old:∀i,bT P A s i->∀m a,m<Z.N0->touchAt t m=some a->a.loc.isMemory=true -> ¬Z.Shun a.loc->Knows t i m
 norel:∀m a,Z.N0<=m->t.act? m≠some (.mark (.release a))
 CS:∀i,i≠Z.lk -> ¬bT P A s i->kk i=ah.bot/\OO i=aj.bot
 sA:∀a,yK A a->(∃c,a=.cell c/\c.block=A.gb)->Z.Shun a
 jQ:∀c:Addr,c.block=A.fb/\(c.off=A.fo\/c.off=A.fo+1\/(A.dir=true/\∃j,j<A.n/\c.off=A.cell j)) -> ¬Z.Shun (.cell c)
 eY:(A.dir=false->Z.W0.heap.size<=A.cF)/\Z.W0.heap.size<=A.fb/\Z.W0.heap.size<=A.gb
 la:Z.la=⟨A.fb,A.fo,none⟩
 n0:Z.N0<=t.size
def Node.Q0{P:acD}:Node P->Prop
 |⟨_,_,_,_,.de ..⟩=>True
 |_=>False
def ve{P:acD}(x X:Node P):Prop:=∀y,(y=x\/Relation.TransGen pj y x)->y.Q0->(y=X\/Relation.TransGen pj y X)
theorem ve.sub{P:acD}{x y X:Node P}(h:ve x X)(a:pj y x):ve y X:=λz b c=>h z (b.elim (λe=>.inr (by rw[e];exact .single a)) (λe=>.inr (e.tail a))) c
theorem ve.refl{P:acD}(X:Node P):ve X X:=λy a _=>a
def OF(s:MS P)(i:Nat)(x:Node P):Prop:=∀j h X,j<A.n->i=A.b+j->s.w j=.run h X->ve x X
def bY(Z:Base)(a:A.b+A.n+1<=Z.lk):qW P where
 S:=MS P
 r:=MS.gg A.n
 wf:=OE A.n
 mo:=ck P A Fin
 main:=E1 P A Fin
 top:=A.b+A.n+1
 lk:=Z.lk
 Ti:=a
 Live:=dA P A
 Walk:=gu P A
 At:=TL P A Fin
 zM:=QZ P A
 oe:=fq P A
 EO:=V2 P A Fin
 deaf:=dL P A
 Wd:=kQ A
 Ex:=c8 P A Z
 Oo:=OF P A
 tie:=λs i x y hs h j b X c d e=>(h j b X c d e).sub hs
end
section
open Go.Conc
open Go.ConcN (sumTo upd sumTo_upd upd_ne upd_same)
theorem xq{t:Trace}(u:Trace){p:Nat}{x:MemAct}(h:t.act? p=some x)(b:t.heard p):(t++u).act? p=some x/\(t++u).heard p:=by have a:=lt_of_act? h;exact⟨by rw[act?_old a];exact h,(heard_old a).2 b⟩
structure CU(b o:Nat)(w w':World):Prop where
 cell:∀l,l=o\/l=o+1->w'.cell? ⟨b,l,none⟩=w.cell? ⟨b,l,none⟩
 fz:∀l,w'.frozen? ⟨b,l,none⟩=w.frozen? ⟨b,l,none⟩
theorem CU.of_heap{b o:Nat}{w w':World}(h:w'.heap[b]?=w.heap[b]?):CU b o w w':=⟨λl _=>by simp only[World.cell?,h],λl=>by simp only[World.frozen?,h]⟩
theorem ShM.same{b o:Nat}{w w':World}{s:Mu.Sh}(h:ShM b o w s)(e:CU b o w w'):ShM b o w' s:=⟨by rw[e.cell _ (.inl rfl)];exact h.cw,by rw[e.cell _ (.inr rfl)];exact h.cs,λi=>by rw[e.fz];exact h.fz i⟩
theorem qY.same{b:Nat}{w w':World}{c v m:Nat}(h:qY b w c v m)(e:CU b 0 w w'):qY b w' c v m:=⟨by rw[e.cell _ (.inl rfl)];exact h.cw,by rw[e.cell _ (.inr rfl)];exact h.cs,λi=>by rw[e.fz];exact h.fz i⟩
theorem dR{t u:Trace}{m:Nat}{a:Touch}(h:touchAt (t++u) m=some a):(touchAt t m=some a/\m<t.size)\/∃op∈u,op.act.touch?=some a:=by
 obtain⟨x,d,b⟩:=touch_of h;rcases getElem?_append_cases d with⟨e,c⟩|⟨_,f⟩
 . exact .inl ⟨by rw[touchAt_of c];exact b,e⟩
 grind
theorem qw{t u:Trace}{m:Nat}{x:MemAct}(h:(t++u).act? m=some x):(t.act? m=some x/\m<t.size)\/∃op∈u,op.act=x:=by
 unfold Trace.act? at h;obtain⟨y,b,rfl⟩:=Option.map_eq_some_iff.1 h;rcases getElem?_append_cases b with⟨c,a⟩|⟨_,d⟩
 . exact .inl ⟨by simp[Trace.act?,a],c⟩
 grind
section
variable{P:acD}{A:bJ}{Fin:abz}{Z:Base}{s:MS P}{kk kk':acy}{OO OO':acx}{J M:ack}{gsz:Nat}{w w':World}{t:Trace}
theorem c8.j8(h:c8 P A Z s kk OO J M gsz w t)(u:Trace)(j:∀op∈u,∀a,op.act.touch?=some a->yK A a.loc->a.kind≠.plain):∀m a,touchAt (t++u) m=some a->yK A a.loc->a.kind=.plain->∀i,bT P A s i->Knows (t++u) i m:=λm a c d e i f=>by
 rcases dR c with⟨b,_⟩|⟨op,g,b⟩
 . exact(h.quiet m a b d e i f).app u
 grind
theorem c8.oo(h:c8 P A Z s kk OO J M gsz w t)(u:Trace)(i:∀op∈u,∀a,op.act.touch?=some a->yK A a.loc->a.kind≠.said):∀m a,touchAt (t++u) m=some a->yK A a.loc->a.kind=.said->Knows (t++u) (if s.c.isNone then 0 else A.cl) m:=λm a d e f=>by
 rcases dR d with⟨b,_⟩|⟨op,g,b⟩
 . exact(h.said m a b e f).app u
 grind
theorem c8.pK(h:c8 P A Z s kk OO J M gsz w t)(u:Trace):∀i,bT P A s i->∀m a,m<Z.N0->touchAt (t++u) m=some a->a.loc.isMemory=true -> ¬Z.Shun a.loc->Knows (t++u) i m:=λi g m a e j b k=>by
 have c:m<t.size:=ZO e h.n0
 have l:touchAt t m=some a:=by obtain⟨x,f,d⟩:=touch_of j;rw[abh c]at f;rw[touchAt_of f];exact d
 exact(h.old i g m a e l b k).app u
theorem c8.jr(h:c8 P A Z s kk OO J M gsz w t)(u:Trace)(f:∀op∈u,∀a,op.act≠.mark (.release a)):∀m a,Z.N0<=m->(t++u).act? m≠some (.mark (.release a)):=λm a c e=>by
 rcases qw e with⟨b,_⟩|⟨op,d,b⟩
 . exact h.norel m a c b
 simp_all
theorem c8.vf(h:c8 P A Z s kk OO J M gsz w t)(u:Trace):∀p,M p->(t++u).heard p/\Z.N0<=p/\(((t++u).act? p=some (.mark (.releaseMerge ⟨A.gb,0,none⟩))/\(s.c=.none\/s.c=.er\/∃q,s.c=.wt q))\/(s.c=.gone/\(t++u).act? p=some (.close A.cF))):=λp e=>by
 obtain⟨b,i,a⟩:=h.hM p e;rcases a with⟨a,d⟩|⟨a,d⟩
 . obtain⟨f,g⟩:=xq u a b
   simp_all
 . obtain⟨f,g⟩:=xq u d b
   simp_all
theorem c8.mE(h:c8 P A Z s kk OO J M gsz w t)(u:Trace):s.c=.gone->∃p,M p/\(t++u).act? p=some (.close A.cF)/\(t++u).heard p:=λa=>by
 obtain⟨p,e,b,d⟩:=h.shut a;obtain⟨f,g⟩:=xq u b d
 grind
theorem E2(I:bO A.n s){i:Nat}(d:dA P A s i):bT P A s i:=by
 rcases d with⟨h,_⟩|⟨j,b,c,f⟩|⟨b,c⟩
 . exact .inl h
 . refine .inr (.inl ⟨j,?_,c⟩)
   have a:=I.idle j b;cases e:s.w j with
   |idle=>simp_all
   |_=>rw[e]at a;simp[bn.jq]at a;omega
 . refine .inr (.inr ⟨b,λe=>?_⟩)
   simp_all
theorem KX{i:Nat}(a:dA P A s i):i<A.b+A.n+1:=by
 have:=A.hb;rcases a with⟨h,_⟩|⟨j,c,d,e⟩|⟨c,d⟩<;>omega
theorem c8.OG(h:c8 P A Z s kk OO J M gsz w t){i l:Nat}(a:aS (OO i) A.fb l):A.dir=true/\∃j,j<A.n/\(i=A.b+j/\(s.w j).owns=true)/\l=A.cell j:=by
 obtain⟨x,c⟩:=a.own;obtain⟨j,f,d,e,k,rfl,p⟩:=h.tok i x c;rcases a with⟨o,q⟩|⟨m,q,_⟩|⟨g,q,r⟩
 . simp_all
 . simp_all
 . rw[c]at q;cases q;grind
theorem zV{x:bn P}(h:x.owns=true):x.iv=true:=by cases x<;>simp_all [bn.owns,bn.iv]
theorem y8(h:c8 P A Z s kk OO J M gsz w t){i:Nat}{e:Event}(n:iY (kk i) (OO i) w.heap.size e){a:Touch}(p:(MemAct.ofEvent e).touch?=some a):¬yK A a.loc:=λb=>by
 have q:A.fb<w.heap.size:=by obtain⟨c,e,k⟩:=h.vd;grind
 have u:A.gb<w.heap.size:=by obtain⟨c,e,k⟩:=h.yZ;grind
 have g:∀l,(l=A.fo\/l=A.fo+1) -> ¬aS (OO i) A.fb l:=λl f m=>by obtain⟨_,_,_,_,e⟩:=h.OG m;unfold bJ.cell at e;omega
 have j:∀l,¬aS (OO i) A.gb l:=λl=>dT (h.gy i).2
 obtain⟨v,y,z,B⟩:=h.eu i
 rcases jU n p with⟨C,f,m⟩|⟨r,f,d⟩
 . rw[f]at b
   obtain⟨_,b⟩:=b
   grind
 . rw[f]at b
   obtain⟨b,hd⟩:r=A.cF/\A.dir=false:=b;subst b
   rcases d with⟨o,d⟩|d
   . rw[(h.gy i).1 hd]at d;cases d
   . obtain⟨x,D,k⟩:=h.zT hd
     simp_all
theorem zc{k:ah}{O:aj}{B:Nat}{e:Event}(b:iY k O B e)(a:Addr):MemAct.ofEvent e≠.mark (.release a):=by
 obtain⟨loc,wr,c⟩:=e;cases loc with
 |mark m=>simp only[iY]at b;cases m<;>simp_all [jT,mV,MemAct.ofEvent]
 |cell d=>simp[MemAct.ofEvent]
 |obj r=>cases wr<;>cases c<;>simp[MemAct.ofEvent]
 |_=>simp[iY]at b
theorem c8.own(h:c8 P A Z s kk OO J M gsz w t)(hZ:A.b+A.n+1<=Z.lk){i:Nat}(V:dA P A s i){k':ah}{O':aj}{es:aci}(D:Eff (kk i) (OO i) w k' O' w' es)(u:Trace)
 (H:∀op∈u,∃e,iY (kk i) (OO i) w.heap.size e/\op.act=.ofEvent e):c8 P A Z s (bS kk i k') (bS OO i O') J M gsz w' (t++u):=by
 have K:i≠Z.lk:=by have:=KX V;omega
 have Q:=E2 h.I V;have W:A.fb<w.heap.size:=by obtain⟨c,e,d⟩:=h.vd;grind
 have X:A.gb<w.heap.size:=by obtain⟨c,e,d⟩:=h.yZ;grind
 have hC:A.dir=false->A.cF<w.heap.size:=λhd=>by obtain⟨x,tm,d⟩:=h.zT hd;grind
 have R:=D.keep A.gb X (h.gy i).2
 have S:CU A.fb A.fo w w'/\∃c e,w'.heap[A.fb]?=some (.cells c e (0,0)):=by
  cases q:OO i A.fb with
  |none=>have:=D.keep A.fb W q;exact⟨.of_heap this,by rw[this];exact h.vd⟩
  | some x=>
    obtain⟨j,f,_,_,_,rfl,hf⟩:=h.tok i x q;obtain⟨c,e,d⟩:=h.vd;obtain⟨c',N,h3,h4⟩:=D.part A.fb f W q c e d;refine⟨⟨λl V=>?_,λl=>?_⟩,c',e,N⟩
    . simp only[World.cell?,d,N];rw[h4 l (aaa λhh=>by have:=(hf l hh).2;unfold bJ.cell at this;omega)]
    . simp only[World.frozen?,d,N]
 have p:∀c,c<w.heap.size->OO i c=none->O' c=none:=λc hc hn=>by
  cases q:O' c with
  |none=>rfl
  | some x=>
    rcases D.own c x q with⟨y,hy,_⟩|hy
    . simp_all
    . omega
 have z:∀l,(l=A.fo\/l=A.fo+1) -> ¬aS (OO i) A.fb l:=λl V hc=>by obtain⟨_,_,_,_,e⟩:=h.OG hc;unfold bJ.cell at e;omega
 have a7:∀l,l<A.n->(s.w l).iv=false -> ¬aS (OO i) A.fb (A.cell l):=λl _ O hc=>by
  obtain⟨_,j,_,⟨_,T⟩,e⟩:=h.OG hc;obtain rfl:l=j:=by unfold bJ.cell at e;omega
  rw[zV T]at O;cases O
 have E:∀c l,c<w.heap.size -> ¬aS (OO i) c l->(kk i).cell c l=none->k'.cell c l=none:=λc l hc ax hn=>by
  cases q:k'.cell c l with
  |none=>rfl
  | some v=>
    rcases D.cell c l v q with d|d|d
    . simp_all
    . simp_all
    . omega
 obtain⟨a8,a9,al,av⟩:=h.eu i
 have U:∀op∈u,∀a,op.act.touch?=some a -> ¬yK A a.loc:=λop k a G=>by obtain⟨e,B,C⟩:=H op k;rw[C]at G;exact y8 h B G
 refine⟨h.I,h.size,h.dd,h.off,λhd l F=>⟨λO=>⟨λj=>?_,λm a ad G e e'=>?_⟩,λhr=>?_⟩,λhd=>by rw[D.keep A.cF (hC hd) ((h.gy i).1 hd)];exact h.zT hd,h.mu.same S.1,h.gr.same (.of_heap R),S.2,by rw[R];exact h.yZ,λj=>?_,λj=>?_,λj x Y=>?_,λj hj T=>?_,λT=>?_,λc hc=>?_,h.hJ,h.vf u,h.mE u,
  h.j8 u (λop k a G hs=>absurd hs (U op k a G)),h.oo u (λop k a G hs=>absurd hs (U op k a G)),h.pK u,h.jr u (λop k a=>by obtain⟨e,B,C⟩:=H op k;rw[C];exact zc B a),λj hj hb=>?_,h.sA,h.jQ,h.eY,h.la,by simp;exact KD h.n0 (aah _ _)⟩
 . have d:=((h.yL hd l F).1 O).1 j
   by_cases e:j=i
   . subst e;rw[ao];simp_all
   . rw[au _ _ e];exact d
 . rcases dR G with⟨d,_⟩|⟨op,k,d⟩
   . exact((h.yL hd l F).1 O).2 m a ad d e e'
   . obtain⟨ev,B,C⟩:=H op k
     rw[C]at d
     rcases jU B d with⟨ad,L,hc⟩|⟨r,L,_⟩
     . rw[e]at L
       cases L;rw[e'.1,e'.2]at hc
       rcases hc with hc|hc|⟨_,v,hc⟩
       . simp_all
       . omega
       . have:=((h.yL hd l F).1 O).1 i
         simp_all
     simp_all
 . have d:=(h.yL hd l F).2 hr
   by_cases e:A.b+l=i
   . rw[e,ao];rw[e]at d;exact D.le.1 _ _ _ d
   . rw[au _ _ e];exact d
 . by_cases e:j=i
   . subst e;rw[ao];exact⟨λhd=>p _ (hC hd) ((h.gy j).1 hd),p _ X (h.gy j).2⟩
   . rw[au _ _ e];exact h.gy j
 . by_cases e:j=i
   . subst e;rw[ao]
     exact⟨E _ _ W (z _ (.inl rfl)) a8,E _ _ W (z _ (.inr rfl)) a9,E _ _ X (dT (h.gy j).2) al,E _ _ X (dT (h.gy j).2) av⟩
   . rw[au _ _ e];exact h.eu j
 . by_cases e:j=i
   . subst e;rw[ao]at Y
     rcases D.own _ x Y with⟨y,hy,hb⟩|hy
     . obtain⟨l,f,d,N,h3,rfl,h4⟩:=h.tok j y hy
       cases x with
       |obj o=>exact hb.elim
       |tail m=>exact hb.elim
       |part g=>exact⟨l,g,d,N,h3,rfl,λa q=>h4 a (hb a q)⟩
     . omega
   . rw[au _ _ e]at Y;exact h.tok j x Y
 . have d:=h.y7 j hj T
   by_cases e:A.b+j=i
   . rw[e,ao]
     rw[e]at d;cases q:OO i A.fb with
     |none=>simp_all
     | some x=>
       obtain⟨_,f,_,_,_,rfl,_⟩:=h.tok i x q;obtain⟨f',N⟩:=D.tok _ f q
       grind
   . rw[au _ _ e];exact d
 . rw[au _ _ (za K),au _ _ (za K)];exact h.N3 T
 . rw[au _ _ (za K)]at hc;exact h.N4 c hc
 . have e:j≠i:=λe=>hb (e ▸ Q)
   rw[au _ _ e,au _ _ e];exact h.CS j hj hb
theorem c8.still(h:c8 P A Z s kk OO J M gsz w t)(u:Trace)(i:∀op∈u,op.act.touch?=none/\∀a,op.act≠.mark (.release a)):c8 P A Z s kk OO J M gsz w (t++u):=
 ⟨h.I,h.size,h.dd,h.off,λhd l c=>⟨λf=>⟨((h.yL hd l c).1 f).1,λm a j d e k=>(dR d).elim (λg=>((h.yL hd l c).1 f).2 m a j g.1 e k) (λ⟨op,b,g⟩=>by simp_all)⟩,(h.yL hd l c).2⟩,h.zT,h.mu,h.gr,h.vd,h.yZ,h.gy,h.eu,h.tok,h.y7,h.N3,h.N4,h.hJ,h.vf u,h.mE u,h.j8 u (λop b a d=>by simp_all),h.oo u (λop b a d=>by simp_all),
   h.pK u,h.jr u (λop b=>(i op b).2),h.CS,h.sA,h.jQ,h.eY,h.la,by simp;exact KD h.n0 (aah _ _)⟩
theorem bd(B:A.b+A.n+1<=Z.lk):zN (bY P A Fin Z B) where
 own:=λa o _ he u _ _ q=>c8.own a B o he u q
 slip:=λa u _ hu=>c8.still a u hu
 draw:=λ{s kk OO J M n w t} a d=>by have a:c8 P A Z s kk OO J M n w t:=a;exact⟨a.I,a.size,a.dd,a.off,a.yL,a.zT,a.mu.heap rfl,a.gr.same (.of_heap rfl),a.vd,a.yZ,a.gy,a.eu,a.tok,a.y7,a.N3,a.N4,a.hJ,a.hM,a.shut,a.quiet,a.said,a.old,a.norel,a.CS,a.sA,a.jQ,a.eY,a.la,a.n0⟩
 sC := λ{s kk OO J M n w t j g} a C k O f=>by
  have a:c8 P A Z s kk OO J M n w t:=a
  have r:s.c.ez=false:=by
   rcases C with⟨_,hm⟩|⟨l,o,_,hw⟩
   . have:=a.I.ms
     rw[hm]at this;have:=this.2.2.1;cases e:s.c<;>simp_all [jm.ez]
   . cases e:s.c with
     | gone=>
       have:=(a.I.g8 (by rw[e];rfl)).2.2.2 l o
       simp_all
     |_=>rfl
  have hd:A.dir=false:=by
   cases e:A.dir with
   |false=>rfl
   | true=>
     rcases f with⟨h0,_⟩|⟨l,_,_,m,z,v,_,_,_,_,hd⟩
     . have:=A.hb
       rcases C with⟨_,hm⟩|⟨l,o,h,hw⟩
       . exact absurd hm (a.off.2.1 e).2.1
       . omega
     simp_all
  obtain⟨x,D,y⟩:=a.zT hd;rw[r]at y;rcases f with⟨_,m,z,rfl,_⟩|⟨l,_,_,m,z,v,rfl,_⟩
  . exact again_recv_open y
  . exact again_send_open y
 wd:=λ{s kk OO J M n w t} a=>by have a:c8 P A Z s kk OO J M n w t:=a;exact⟨⟨_,a.gr.cw⟩,⟨_,a.gr.cs⟩,⟨_,a.mu.cw⟩⟩
 kJ:=λ{s i k O g} f=>by
  rcases f with⟨_,f⟩|⟨j,_,_,f⟩|⟨_,f⟩
  . cases e:s.ms with
    |bu j p=>rw[e]at f;obtain⟨c,rest,h,_⟩:=f;exact h.running
    |_=>rw[e]at f;exact f.elim
  . cases e:s.w j with
    |lk p Y=>rw[e]at f;obtain⟨kind,c,rest,_,_,h,_⟩:=f;exact h.running
    |un p Y=>rw[e]at f;obtain⟨kind,c,rest,_,h,_⟩:=f;exact h.running
    |dn p=>rw[e]at f;obtain⟨E,fn,tmps,todo,_,_,h⟩:=f;exact h.running
    |_=>rw[e]at f;exact f.elim
  . cases e:s.c with
    |wt p=>rw[e]at f;obtain⟨c,rest,h,_⟩:=f;exact h.running
    |_=>rw[e]at f;exact f.elim
end
end
section
open Go.Conc
open Go.ConcN (sumTo upd sumTo_upd upd_ne upd_same)
variable{P:acD}
def MS.aT(s:MS P)(j:Nat)(x:bn P)(sh:Mu.Sh):MS P:={s with w:=λi=>if i=j then x else s.w i,sh:=sh}
section
variable{s:MS P}{j n:Nat}{x:bn P}{sh:Mu.Sh}
theorem aU:(s.aT j x sh).w j=x:=by simp[MS.aT]
theorem cy{i:Nat}(h:i≠j):(s.aT j x sh).w i=s.w i:=by simp[MS.aT,h]
theorem GO:(λi=>((s.aT j x sh).w i).pc)=Mu.set (λi=>(s.w i).pc) j x.pc:=by
 funext i;by_cases h:i=j
 . subst h;rw[aU,Mu.ak]
 . rw[cy h,Mu.ai _ _ h]
theorem sK(F:bn P->Nat)(hj:j<n):sumTo n (λi=>F ((s.aT j x sh).w i))+F (s.w j)=sumTo n (λi=>F (s.w i))+F x:=by
 have e:(λi=>F ((s.aT j x sh).w i))=upd (λi=>F (s.w i)) j (F x):=by
  funext i;by_cases h:i=j
  . subst h;rw[aU,upd_same]
  . rw[cy h,upd_ne _ _ h]
 rw[e];have:=sumTo_upd (λi=>F (s.w i)) (F x) id hj
 simp_all
def bn.work:bn P->Bool
 |.run ..=>true|.lk ..=>true|.un ..=>true|_=>false
theorem bz{x:bn P}(h:x.work=true):x.cnt=1/\x.cx=20/\x.iF=false/\x.last=false/\x.jq=false/\x.busy=true/\x≠.gone/\x≠.wait/\∀p,x≠.dn p:=by cases x<;>simp_all [bn.work,bn.cnt,bn.cx,bn.iF,bn.last,bn.jq,bn.busy]
def bn.Br:bn P->Bool
 |.run ..=>true|.lk ..=>true|.un ..=>true|.yJ=>true|.dn .d1=>true|.dn .d2=>true|.dn .d4=>true|_=>false
theorem xr{x:bn P}(h:x.Br=true):x.cnt=1/\x.last=false/\x.jq=false/\x≠.gone/\x≠.wait/\∀p,(p=.d5\/p=.d6\/p=.d7)->x≠.dn p:=by
 cases x with
 |dn p=>cases p<;>simp_all [bn.Br,bn.cnt,bn.last,bn.jq]
 |_=>simp_all [bn.Br,bn.cnt,bn.last,bn.jq]
theorem bO.same(I:bO n s)(hj:j<n)(o:(s.w j).Br=true)(q:x.Br=true)(r:x.iF=(s.w j).iF\/s.d=true)(G:x.ok=true)(t:Mu.Inv n (Mu.set (λi=>(s.w i).pc) j x.pc) sh):bO n (s.aT j x sh):=by
 obtain⟨H,a4,u,J,K,L⟩:=xr o;obtain⟨M,N,v,O,Q,g⟩:=xr q;have m:=sK (s:=s) (x:=x) (sh:=sh) bn.cnt hj
 have look:∀{i:Nat}{y:bn P},(s.aT j x sh).w i=y->x≠y->i≠j/\s.w i=y:=λ{i y} h z=>by
  by_cases e:i=j
  . subst e;rw[aU]at h;simp_all
  . rw[cy e]at h;simp_all
 have back:∀{i:Nat}{y:bn P},s.w i=y->(s.w j)≠y->(s.aT j x sh).w i=y:=λ{i y} h z=>by
  by_cases e:i=j
  . simp_all
  . rw[cy e];exact h
 have b:∀{i:Nat},((s.aT j x sh).w i).last=(s.w i).last:=λ{i}=>by
  by_cases e:i=j
  . grind
  . rw[cy e]
 refine⟨?_,I.g2,I.Ev,λi a h=>?_,λi l a A h f=>?_,λi a h=>?_,⟨I.g5.1,λh=>?_⟩,λh f k=>?_,λh f=>?_,λh=>?_,I.g9,λi a=>?_,I.Sr,I.sp,λi a=>?_,?_,λhd h i a=>?_,by rw[GO];exact t⟩
 . have:=I.g1
   show s.gc=sumTo n (λi=>((s.aT j x sh).w i).cnt)+s.ms.pend;omega
 . exact I.g3 i a (h.imp (λh=>(look h (g _ (by simp))).2) (λh=>(look h (g _ (by simp))).2))
 . rw[b]at h f;exact I.GM i l a A h f
 . exact I.g4 i a (look h (g _ (by simp))).2
 . obtain⟨B,C,D,E⟩:=I.g5.2 h
   exact⟨B,C,D,λi a=>by grind⟩
 . obtain⟨i,a,F⟩:=I.g6 h f k
   grind
 . obtain⟨i,a,F⟩:=I.g7 h f
   grind
 . obtain⟨_,_,_,E⟩:=I.g8 h
   simp_all
 . by_cases e:i=j
   . grind
   . rw[cy e];exact I.ok i a
 . by_cases e:i=j
   . subst e
     rw[aU,v];have:=I.idle i a;rw[u]at this;exact this
   . rw[cy e];exact I.idle i a
 . have:=I.ms
   show match s.ms with
   |.add l=>s.sp+l=n/\s.c=.none
   |.bu l p=>s.sp+l=n/\s.c=.none/\1<=l/\(p=.a0\/p=.a2\/p=.a4\/p=.ae)
   |.spawn l=>s.sp+l+1=n/\s.c=.none
   |.recv=>s.sp=n/\s.c≠.none
   |.parked=>s.sp=n/\s.c≠.none/\s.c≠.gone/\∀i,i<n->(s.aT j x sh).w i≠.wait
   |.off=>s.sp=n/\s.c≠.none
   grind
 . by_cases e:i=j
   . subst e;rw[aU,r.resolve_right λe=>by have hd:s.d=false:=hd;grind];exact I.early hd h i a
   . rw[cy e];exact I.early hd h i a
theorem zW{x:bn P}(h:x.work=true):x.Br=true:=by cases x<;>simp_all [bn.work,bn.Br]
theorem bO.work(I:bO n s)(hj:j<n)(a:(s.w j).work=true)(b:x.work=true)(c:x.ok=true)(d:Mu.Inv n (Mu.set (λi=>(s.w i).pc) j x.pc) sh):bO n (s.aT j x sh):=I.same hj (zW a) (zW b) (.inl (by rw[(bz a).2.2.1,(bz b).2.2.1])) c d
theorem Q1(F:bn P->Nat)(hj:j<n)(h:F x=F (s.w j)):sumTo n (λi=>F ((s.aT j x sh).w i))=sumTo n (λi=>F (s.w i)):=by have:=sK (s:=s) (x:=x) (sh:=sh) F hj;omega
theorem CV(hj:j<n)(a:(s.w j).work=true)(b:x.work=true):(s.aT j x sh).cx n=s.cx n:=by
 have:=Q1 (s:=s) (x:=x) (sh:=sh) bn.cx hj (by rw[(bz a).2.1,(bz b).2.1]);show s.ms.cx+sumTo n (λi=>((s.aT j x sh).w i).cx)+s.c.cx s.gc=_;rw[this];rfl
theorem Bs(hj:j<n)(a:(s.w j).work=true)(b:x.work=true)(h:HX x.nd (s.w j).nd):MS.gg n (s.aT j x sh) s:=.inr ⟨CV hj a b,.inl ⟨j,hj,λi c=>by show((s.aT j x sh).w i).nd=_;rw[cy c],by simp only[aU];exact h⟩⟩
theorem vT(hj:j<n)(a:(s.w j).work=true)(b:x.work=true)(h:x.nd=(s.w j).nd)(hi:4*Mu.meas n (Mu.set (λi=>(s.w i).pc) j x.pc) sh+x.ex n<4*Mu.meas n (λi=>(s.w i).pc) s.sh+(s.w j).ex n):MS.gg n (s.aT j x sh) s:=by
 refine .inr ⟨CV hj a b,.inr ⟨?_,?_⟩⟩
 . funext i
   by_cases e:i=j
   . subst e;rw[aU];exact h
   . rw[cy e]
 . have:=sK (s:=s) (x:=x) (sh:=sh) (bn.ex n) hj
   show 4*Mu.meas n (λi=>((s.aT j x sh).w i).pc) sh+sumTo n (λi=>((s.aT j x sh).w i).ex n)<4*Mu.meas n (λi=>(s.w i).pc) s.sh+sumTo n (λi=>(s.w i).ex n);rw[GO];omega
theorem GP(I:bO n s)(hj:j<n)(a:(s.w j).work=true)(b:x.work=true)(h:x.nd=(s.w j).nd)(c:(x.pc,sh)∈Mu.mv (s.w j).pc s.sh)(d:x.ex n<=3):MS.gg n (s.aT j x sh) s:=by
 have:=(Mu.HJ (pcs:=λi=>(s.w i).pc) hj (I.mu.j0 j hj) c).1;exact vT hj a b h (by omega)
theorem bO.mv(I:bO n s)(hj:j<n)(a:(s.w j).work=true)(b:x.work=true)(c:x.ok=true)(d:(x.pc,sh)∈Mu.mv (s.w j).pc s.sh):bO n (s.aT j x sh):=I.work hj a b c (I.mu.step hj d)
theorem js(pcs:Nat->Mu.Pc)(i:Nat):Mu.set pcs i (pcs i)=pcs:=by
 funext l;by_cases e:l=i
 . subst e;exact Mu.ak _ _ _
 . exact Mu.ai _ _ e
theorem lM(hj:j<n)(a:(s.w j).work=true)(b:x.work=true)(h:x.nd=(s.w j).nd)(c:x.pc=(s.w j).pc)(d:x.ex n<(s.w j).ex n):MS.gg n (s.aT j x s.sh) s:=by
 refine vT hj a b h ?_;rw[c,js (λi=>(s.w i).pc)];omega
theorem bO.still(I:bO n s)(hj:j<n)(a:(s.w j).work=true)(b:x.work=true)(c:x.ok=true)(d:x.pc=(s.w j).pc):bO n (s.aT j x s.sh):=I.work hj a b c (by rw[d,js (λi=>(s.w i).pc)];exact I.mu)
theorem fR(F:Mu.Pc->Nat){pcs:Nat->Mu.Pc}{i:Nat}(a:pcs i=.out)(h:F .iq=F .out):(λl=>F (Mu.set pcs i .iq l))=λl=>F (pcs l):=by
 funext l;by_cases e:l=i
 . subst e;rw[Mu.ak,a,h]
 . rw[Mu.ai _ _ e]
theorem OH{n:Nat}{pcs:Nat->Mu.Pc}{s:Mu.Sh}{i:Nat}(h:Mu.Inv n pcs s)(a:pcs i=.out):Mu.Inv n (Mu.set pcs i .iq) s:=by
 obtain⟨⟨m,c,d,f,g⟩,j,o⟩:=h;refine⟨⟨λl k=>?_,?_,?_,?_,?_⟩,j,λl k old sv b=>?_⟩
 . by_cases e:l=i
   . subst e;rw[Mu.ak];trivial
   . rw[Mu.ai _ _ e];grind
 . rw[fR Mu.cd a rfl];exact c
 . rw[fR Mu.fI a rfl,fR Mu.cK a rfl,fR Mu.m5 a rfl,fR Mu.dg a rfl,fR Mu.cJ a rfl];exact d
 . rw[fR Mu.fI a rfl,fR Mu.cK a rfl,fR Mu.m5 a rfl,fR Mu.dg a rfl,fR Mu.cJ a rfl];exact f
 . rw[fR Mu.ir a rfl];exact g
 . by_cases e:l=i
   . subst e;rw[Mu.ak]at b;cases b
   . rw[Mu.ai _ _ e]at b;grind
theorem CX{n:Nat}{pcs:Nat->Mu.Pc}{s:Mu.Sh}{i:Nat}(hi:i<n)(a:pcs i=.out):Mu.meas n (Mu.set pcs i .iq) s=Mu.meas n pcs s+(6*(18*n+1)+16):=by
 have C:=Mu.gk Mu.gF pcs i .iq hi;have R:=Mu.gk (Mu.jF s.w) pcs i .iq hi;rw[a]at C R;have b:Mu.gF .out=0:=rfl;have c:Mu.gF .iq=6:=rfl;have d:Mu.jF s.w .out=0:=rfl;have e:Mu.jF s.w .iq=16:=rfl;rw[b,c]at C;rw[d,e]at R;have f:Mu.phi n (Mu.set pcs i .iq) s=Mu.phi n pcs s+6:=by unfold Mu.phi;omega
 unfold Mu.meas
 grind
theorem KY(hj:j<n)(a:(s.w j).work=true)(b:x.work=true)(h:x.nd=(s.w j).nd)(c:(s.w j).pc=.out)(d:x.pc=.iq)(e:(s.w j).ex n=Bq n)(f:x.ex n=0):MS.gg n (s.aT j x s.sh) s:=by refine vT hj a b h ?_;rw[d,CX hj c,e,f];unfold Bq;omega
theorem bO.Xk(I:bO n s)(hj:j<n)(a:(s.w j).work=true)(b:x.work=true)(c:x.ok=true)(d:(s.w j).pc=.out)(e:x.pc=.iq):bO n (s.aT j x s.sh):=I.work hj a b c (by rw[e];exact OH I.mu d)
end
end
open Go.Conc
open Go.ConcN (sumTo upd sumTo_upd upd_ne upd_same)
section
variable{P:acD}{A:qW P}{Z:Base}{s s':A.S}{f f':Nat->Node P}{q q':acs}{kk kk':acy}{OO OO':acx}{J J' M M':ack}{gs:abH}{w w':World}{t u:Trace}{i:Nat}{g g1:aco}
structure Beside(A:qW P)(s s':A.S)(f f':Nat->Node P)(q q':acs)(kk kk':acy)(OO OO':acx)(J J':ack)(w':World)(i:Nat)(g g1:aco):Prop where
 ef:∀j,j≠i->f' j=f j
 eq:∀j,j≠i->q' j=q j
 ek:∀j,j≠i->j<A.top->kk' j=kk j
 eO:∀j,j≠i->j<A.top->OO' j=OO j
 eJ:∀j,j≠i->A.Live s j->J j->J' j
 live:∀j,j≠i->(A.Live s' j↔A.Live s j)
 walk:∀j,j≠i->(A.Walk s' j↔A.Walk s j)
 held:∀j,j≠i->(A.oe s' j↔A.oe s j)
 mo:∀j,j≠i->A.Live s j->A.mo s' j=A.mo s j
 at':∀j k O x,j≠i->A.Walk s j->A.At s j k O x->A.At s' j k O x
 deaf:∀j,j≠i->A.Walk s j->A.deaf s' j=A.deaf s j
 zM:∀j,j≠i->A.Walk s j->A.zM s j->A.zM s' j\/∀x,A.At s j (kk j) (OO j) x->woken P g g1 w' (blk x)=x
 Su:∀j k O x,j≠i->A.oe s j->A.EO s j k O x->A.EO s' j k O x
 tie:∀j x,j≠i->A.Live s j->A.Oo s j x->A.Oo s' j x
structure Self(P:acD)(A:qW P)(s':A.S)(f':Nat->Node P)(q':acs)(kk':acy)(OO':acx)(J':ack)(t':Trace)(i:Nat)(g1:aco):Prop where
 live:A.Live s' i->i<A.top/\g1=(f' i).g/\(f' i).m=A.mo s' i/\(f' i).k=kk' i/\(f' i).O=OO' i/\(f' i).g.status=.running/\Deaf t' i=0/\(i=0\/J' i)/\A.Oo s' i (f' i)
 walk:A.Walk s' i -> ¬A.Live s' i/\i<A.top/\Deaf t' i=A.deaf s' i/\∃g',A.At s' i (kk' i) (OO' i) g'/\Ku P A.Wd (A.zM s' i) (q' i) g1 g'
 held:A.oe s' i -> ¬A.Live s' i/\¬A.Walk s' i/\i<A.top/\Deaf t' i=0/\g1.status=.blocked/\A.EO s' i (kk' i) (OO' i) g1
 rest:¬A.Live s' i -> ¬A.Walk s' i -> ¬A.oe s' i->i≠0/\QuitsD P (q' i) (Deaf t' i) g1
theorem bF.step(B:zN A)(v:bF A Z s f q kk OO J M gs w t)(hi:gs[i]?=some g)(C:∀op∈u,op.g=i)(U:cA Z kk' OO' J' M' w' (t++u))(V:A.Ex s' kk' OO' J' M' gs.size w' (t++u))
 (W:∀j x,A.oe s j->A.EO s j (kk j) (OO j) x->x.again w'=x) (hb:Beside A s s' f f' q q' kk kk' OO OO' J J' w' i g g1) (E:Self P A s' f' q' kk' OO' J' (t++u) i g1):
 bF A Z s' f' q' kk' OO' J' M' ((gs.map (woken P g g1 w')).setIfInBounds i g1) w' (t++u):=by
 have X:i<gs.size:=(Array.getElem?_eq_some_iff.1 hi).1;have F:=v.Oq B (i:=i) (a:=g) (a':=g1) (x:=g1) (w':=w') W;have p:((gs.map (woken P g g1 w')).setIfInBounds i g1)[i]?=some g1:=zH (by simp_all)
 have G:∀j,j≠i->Deaf (t++u) j=Deaf t j:=λj d=>Deaf_other t (za d) _ C
 refine⟨v.lk,U,λj d=>?_,λj d=>?_,λj d=>?_,λj x I N O Q=>?_,λj d=>?_,by simp_all⟩
 . by_cases e:j=i
   . subst e
     obtain⟨l,n,m⟩:=E.live d
     simp_all
   . have b:=(hb.live j e).1 d
     obtain⟨l,n,pm,m,D,z,r,R⟩:=v.live j b;rw[hb.ef j e,hb.ek j e l,hb.eO j e l,G j e,hb.mo j e b];exact⟨l,F.live j e b,pm,m,D,z,r,R.1.imp id (hb.eJ j e b),hb.tie j _ e b R.2⟩
 . by_cases e:j=i
   . subst e
     obtain⟨l,n,m,g',D,z⟩:=E.walk d
     grind
   . have b:=(hb.walk j e).1 d
     obtain⟨l,n,m,x,Y,D,z,r⟩:=v.walk j b;refine⟨λh=>l ((hb.live j e).1 h),n,by rw[G j e,hb.deaf j e b];exact m,?_⟩
     rw[hb.ek j e n,hb.eO j e n,hb.eq j e];obtain⟨y,y',o,K,r3⟩:=F.walk j e b
     by_cases hd:∃x,A.zM s j/\y=blk x/\A.At s j (kk j) (OO j) x/\q j=0
     . obtain⟨x0,S,H,d3,d4⟩:=hd
       rcases hb.zM j e b S with h|h
       . exact⟨y,x0,o,hb.at' j _ _ _ e b d3,.inl ⟨h,H,d4⟩⟩
       ·
        have c:((gs.map (woken P g g1 w')).setIfInBounds i g1)[j]?=some (woken P g g1 w' x):=by grind
        obtain⟨T,a2⟩:=B.kJ z
        rcases r with⟨_,rfl,_⟩|r
        . rw[h _ z]at c
          rw[c]at o;have:=ZM o;rw[H]at this;have k:Y.status=.blocked:=by rw[this];rfl
          simp_all
        . rw[woken_run (r.first T)]at c
          rw[c]at o;have hh:=ZM o;have k:x.status=.blocked:=by rw[hh,H];rfl
          rw[r.first T]at k;cases k
     . rcases r3 with⟨S,rfl,H⟩|r3
       . simp_all
       . exact⟨y,y',o,hb.at' j _ _ _ e b K,.inr r3⟩
 . by_cases e:j=i
   . subst e
     obtain⟨l,n,m,D,z,r⟩:=E.held d
     simp_all
   . have b:=(hb.held j e).1 d
     obtain⟨l,n,m,D,_⟩:=v.held j b;obtain⟨x,o,K,r3⟩:=F.held j e b;refine⟨λh=>l ((hb.live j e).1 h),λh=>n ((hb.walk j e).1 h),m,by simp_all,x,o,K,?_⟩
     rw[hb.ek j e m,hb.eO j e m];exact hb.Su j _ _ _ e b r3
 . by_cases e:j=i
   . subst e
     rw[p]at I;obtain rfl:=ZM I;exact E.rest N O Q
   . rw[hb.eq j e,G j e]
     exact F.rest j x e I (λh=>N ((hb.live j e).2 h)) (λh=>O ((hb.walk j e).2 h)) (λh=>Q ((hb.held j e).2 h))
 . have L:gs.size<=j:=by simp_all
   rw[G j (by omega)];exact v.above j L
end
theorem knows_own{t u:Trace}{i m:Nat}{op:MemOp}(h:u[m]?=some op)(a:op.g=i):Knows (t++u) i (t.size+m):=⟨t.size+m,op,du h,a,.inl rfl⟩
section
variable{Z:Base}{kk:acy}{OO:acx}{J M:ack}{w w':World}{t u:Trace}{i:Nat}
def Bt(kk:acy)(OO:acx)(B:Nat)(t:Trace)(i:Nat)(u:Trace):Prop:=∀op∈u,∀a,op.act.touch?=some a->a.kind=.atomic/\(a.loc.isMemory=true->Ki kk OO B a.loc)/\∀n b,touchAt t n=some b->b.loc=a.loc->b.kind=.plain->Knows t i n
theorem cA.P9(h:cA Z kk OO J M w t)(d:∀op∈u,op.g=i)(y:w'.heap.size=w.heap.size)(z:Calm Z w w')(hb:∀b,Kept kk OO w w' b)(A:∀op∈u,op.act.low w.heap.size)(q:Bt kk OO w.heap.size t i u)
 (l:∀m op a,u[m]?=some op->op.act.touch?=some a->a.loc.isMemory=true->Told Z J M (t++u) (t.size+m) a):cA Z kk OO J M w' (t++u):=
 h.tR (λa b=>a=b) y z hb A (λa b e n x _ _ _ B=>by subst e;exact B.app u) (λj b n v h=>⟨j,rfl,h⟩) (λj b s h=>⟨j,rfl,h⟩) (λj b x h=>⟨j,rfl,h,λ_ h=>h⟩) h.jl
  (fun said=>noRace_append (h.clean said) d λn a o op c b hb C=>by
    obtain⟨f,k,D⟩:=q op c b hb;obtain⟨E,_,_,F⟩:=C
    simp_all)
  (λop c a o r=>(q op c a o).2.1 r) l
  (λn a o r h=>h.elim (λ⟨j,f,k⟩=>.inr (.inl ⟨j,f,k.app _⟩)) (λ⟨p,f,k⟩=>.inr (.inr (.inl ⟨p,f,k.app _⟩))))
theorem cA.sync(h:cA Z kk OO J M w t)(hJ:i=0\/J i)(c:∀op∈u,op.g=i)(f:w'.heap.size=w.heap.size)(j:Calm Z w w')(hb:∀b,Kept kk OO w w' b)(k:∀op∈u,op.act.low w.heap.size)(l:Bt kk OO w.heap.size t i u):cA Z kk OO J M w' (t++u):=
 h.P9 c f j hb k l λm op a d n o=>by
  have e:Knows (t++u) i (t.size+m):=knows_own d (c op (ZV d));rcases hJ with rfl|hJ
  . exact .inl e
  . exact .inr (.inl ⟨i,hJ,e⟩)
end
section
variable{P:acD}{A:bJ}{Z:Base}{s:MS P}{kk:acy}{OO:acx}{J M:ack}{gsz:Nat}{w w':World}{t u:Trace}{j:Nat}{x:bn P}{sh:Mu.Sh}
theorem oq(hj:j<A.n)(h:x.busy=(s.w j).busy)(i:Nat):dU P A (s.aT j x sh) i↔dU P A s i:=by
 have:∀l,((s.aT j x sh).w l).busy=(s.w l).busy:=λl=>by
  by_cases e:l=j
  . subst e;rw[aU,h]
  . rw[cy e]
 unfold dU;simp only[this];rfl
theorem KZ{a:Touch}{l:Nat}{ad:Addr}(h:yK A a.loc)(e:a.loc=.cell ad)(b:ad.block=A.fb/\ad.off=A.cell l):False:=by rw[e]at h;obtain⟨_,h⟩:=h;have:=A.d4;rw[b.1,b.2]at h;unfold bJ.cell at h;omega
theorem c8.E3(h:c8 P A Z s kk OO J M gsz w t){s':MS P}(d:A.dir=true->∀l,l<A.n->(s'.w l).iv=(s.w l).iv/\(s'.w l).owns=(s.w l).owns)(p:∀op∈u,∀a,op.act.touch?=some a->yK A a.loc):
 A.dir=true->∀j,j<A.n->((s'.w j).iv=false->(∀i,(kk i).cell A.fb (A.cell j)=none)/\∀m a ad,touchAt (t++u) m=some a->a.loc=.cell ad->ad.block=A.fb/\ad.off=A.cell j->m<Z.N0)/\((s'.w j).rel=true->(kk (A.b+j)).cell A.fb (A.cell j)=some (A.val j)):=λhd l c=>by
 obtain⟨q,r⟩:=d hd l c;rw[bn.rel,q,r];exact⟨λk=>⟨((h.yL hd l c).1 k).1,λm a ad v e o=>(dR v).elim (λf=>((h.yL hd l c).1 k).2 m a ad f.1 e o) (λ⟨op,g,f⟩=>(KZ (p op g a f) e o).elim)⟩,(h.yL hd l c).2⟩
theorem c8.xu(h:c8 P A Z s kk OO J M gsz w t)(hj:j<A.n)(k:x.busy=(s.w j).busy)(E:x.owns=(s.w j).owns)(o:A.dir=true->x.iv=(s.w j).iv)(F:bO A.n (s.aT j x sh))(p:ShM A.fb A.fo w' sh)
 (d:∀b,b≠A.fb->w'.heap[b]?=w.heap[b]?) (q:∃c e,w'.heap[A.fb]?=some (.cells c e (0,0))) (z:∀op∈u,(∀a,op.act.touch?=some a->a.kind=.atomic/\yK A a.loc)/\∀a,op.act≠.mark (.release a)):
 c8 P A Z (s.aT j x sh) kk OO J M gsz w' (t++u):=by
 have m:∀l,((s.aT j x sh).w l).owns=(s.w l).owns:=λl=>by
  by_cases e:l=j
  . subst e;rw[aU,E]
  . rw[cy e]
 refine⟨F,h.size,h.dd,h.off,h.E3 (λhd l _=>⟨?_,m l⟩) (λop g a r=>((z op g).1 a r).2),λhd=>by rw[d _ A.d1];exact h.zT hd,p,h.gr.same (.of_heap (d _ (za A.d4))),q,by rw[d _ (za A.d4)];exact h.yZ,h.gy,h.eu,λi y G=>?_,λl B v=>h.y7 l B (by simp_all),λv=>h.N3 λl B=>by simp_all,λc H=>?_,
  λi=>by rw[h.hJ i];exact(oq hj k i).symm,h.vf u,h.mE u,h.j8 u (λop g a r _ I=>?_),h.oo u (λop g a r _ I=>?_),h.pK u,h.jr u (λop g=>(z op g).2),h.CS,h.sA,h.jQ,h.eY,h.la,by simp;exact KD h.n0 (aah _ _)⟩
 . by_cases e:l=j
   . subst e;rw[aU,o hd]
   . rw[cy e]
 . obtain⟨l,f,C,D,L,K⟩:=h.tok i y G
   exact⟨l,f,C,D,by simp_all,K⟩
 . obtain⟨C,D⟩:=h.N4 c H
   simp_all
 . grind
 grind
theorem c8.work(h:c8 P A Z s kk OO J M gsz w t)(hj:j<A.n)(k:(s.w j).work=true)(l:x.work=true)(m:x.owns=(s.w j).owns)(f:A.dir=true->x.iv=(s.w j).iv)(o:bO A.n (s.aT j x sh))(g:ShM A.fb A.fo w' sh)
 (d:∀b,b≠A.fb->w'.heap[b]?=w.heap[b]?) (i:∃c e,w'.heap[A.fb]?=some (.cells c e (0,0))) (p:∀op∈u,(∀a,op.act.touch?=some a->a.kind=.atomic/\yK A a.loc)/\∀a,op.act≠.mark (.release a)):
 c8 P A Z (s.aT j x sh) kk OO J M gsz w' (t++u):=
 h.xu hj (by rw[(bz k).2.2.2.2.2.1,(bz l).2.2.2.2.2.1]) m f o g d i p
end

import Derived.Conc.CrowdComm
import Derived.Test.YtebcbkhnlnkolaaGreatDoorC9
set_option linter.all false
namespace Go.ck
section
open Go.Conc
open Go.ConcN (sumTo upd sumTo_upd upd_ne upd_same)
structure bQ where
 b:Nat
 n:Nat
 cl:Nat
 cF:Nat
 fb:Nat
 fo:Nat
 gb:Nat
 mb:Nat
 GI:nz->Prop
 res:Nat->AV
 val:Nat->Value
 nm:DW
 ng:Qr
 hb:0<b/\(cl=0\/cl=b+n)
 hn:n<=900
 d1:cF≠fb
 d2:cF≠gb
 d3:cF≠mb
 d4:fb≠gb
 d5:fb≠mb
 d6:gb≠mb
def bQ.dir(A:bQ):Bool:=A.cl==0
def bQ.cell(A:bQ)(j:Nat):Nat:=A.fo+2+j
def MG{A:bQ}(h:A.dir=true):A.cl=0:=by simpa[bQ.dir]using h
def vS{A:bQ}(h:A.dir=false):A.cl=A.b+A.n:=by have:=A.hb;simp[bQ.dir]at h;omega
def iv:adl:=λ_ _ _=>False
def MH:Nat->adx:=λ_=>none
def bQ.Tk(A:bQ)(j:Nat)(f:Nat->adx):Prop:=if A.dir then ∃v,f=λi=>if i=A.cell j then some v else none else f=MH
def bK(fo:Nat):Nat->adx:=λi=>if i=fo then some (.int .i32 0)else if i=fo+1 then some (.int .u32 0)else none
section
variable(P:adT)(A:bQ)(Fin:adl)
def RX(j:Nat)(k:ar)(O:aj)(g:adJ)(N:adl):Prop:=
 ∃ τ c μ e,τ≠.early/\g=G (Frame.enter P A.nm.lock #[.pointer (some ⟨A.fb,A.fo,none⟩)] τ) (c::μ)/\O A.fb=none/\k.sh A.fb=some e/\(A.dir=true->A.cell j<e.2)/\
   ∀b x a f,k.Le b->kV b x a->A.GI a->O A.mb=none->A.Tk j f->N b ((O.set A.mb x).set A.fb (.part f)) (kH τ c μ (.tuple #[]))
def Il(j:Nat)(k:ar)(O:aj)(g:adJ)(N:adl):Prop:=
 ∃ τ c μ f x a,τ≠.early/\g=G (Frame.enter P A.nm.unlock #[.pointer (some ⟨A.fb,A.fo,none⟩)] τ) (c::μ)/\O A.fb=some (.part f)/\O A.mb=some x/\kV k x a/\A.GI a/\(A.dir=true->k.cell A.fb (A.cell j)=some (A.val j))/\
   N k ((O.del A.mb).del A.fb) (kH τ c μ (.tuple #[]))
def lF:Mo:=⟨false,false,λk O g N=>N=iv/\∃a fn η todo,P.funcs[a]?=some fn/\fn.results=#[]/\g=G (Frame.enter P A.ng.done #[.pointer (some ⟨A.gb,0,none⟩)] .deferred) [lg P a η todo,cO P]⟩
def FQ(N:adl):adl:=if A.dir then T P (lF P A) iv else N
def iO(j:Nat):Mo:=⟨false,false,λk O g N=>RX P A j k O g N\/Il P A j k O g (FQ P A N)\/(A.dir=false/\N=iv/\O A.fb=none/\∃a z v,(∀w,Sat k O w->stepG P false g w=.comm a #[scase A.cF v z] true .send w #[])/\V k v (A.res j)/\T P (lF P A) iv k O (Go.Conc.served a undef))⟩
def sB:Mo:=⟨false,false,λk O g N=>N=iv/\∃a n,mayWake P g=true/\(∀w s r b,Sat k O w->w.heap[A.cF]?=some (.chan 0 #[] false s r b)->stepG P false g w=.go a {w with heap:=w.heap.setIfInBounds A.cF (.chan 0 #[] true s r b)} #[⟨.obj A.cF,false,true⟩,⟨.obj A.cF,true,true⟩])/\QuitsD P n 0 a⟩
def yq:Mo:=⟨false,false,λk O g N=>N=iv/\∃c μ,g=G (Frame.enter P A.ng.wait #[.pointer (some ⟨A.gb,0,none⟩)] .normal) (c::μ)/\∀a,k.Le a->T P (sB P A) iv a O (kH .normal c μ (.tuple #[]))⟩
def VN(k:ar)(O:aj)(c:Frame)(μ:adE):Prop:=(∃e,k.sh A.fb=some e)/\∀b x a,k.Le b->(∀j,j<A.n->b.cell A.fb (A.cell j)=some (A.val j))->kV b x a->A.GI a->Fin b ((O.set A.mb x).set A.fb (.part (bK A.fo))) (kH .normal c μ (.tuple #[]))
def dV(k:ar)(O:aj)(g a:adJ)(z:Value):Prop:=∀w,Sat k O w->stepG P true g w=.comm a #[rcase A.cF z] true (.recv true) w #[]
def rU:Nat->adL->Mo
 | 0,R=>⟨true,false,λk O g N=>N=iv/\∃b z,dV P A k O g b z/\dV P A k O b b z/\b.status=.running/\(∃e,k.sh A.fb=some e)/\
    ∀c x a,k.Le c->kV c x a->A.GI a->Fin c ((O.set A.mb x).set A.fb (.part (bK A.fo))) (Go.Conc.served b (.tuple #[z,.bool false]))⟩
 | m + 1,R=>⟨true,false,λk O g N=>N=iv/\∃b z,dV P A k O g b z/\dV P A k O b b z/\b.status=.running/\
     ∀j∈R,∀c v,k.Le c->V c v (A.res j)->T P (rU m (R.erase j)) iv c O (Go.Conc.served b (.tuple #[v,.bool true]))⟩
def pI:Nat->Mo
 |0=>if A.dir then⟨true,false,λk O g N=>N=iv/\∃c μ,g=G (Frame.enter P A.ng.wait #[.pointer (some ⟨A.gb,0,none⟩)] .normal) (c::μ)/\VN A Fin k O c μ⟩else⟨true,false,λk O g N=>N=iv/\∃a child,(∀w,Sat k O w->stepG P true g w=.spawn a child w #[])/\T P (yq P A) iv k aj.bot child/\T P (rU P A Fin A.n (List.range A.n)) iv k O a⟩
 | m + 1=>⟨true,false,λk O g N=>N=iv/\∃c μ,g=G (Frame.enter P A.ng.add #[.pointer (some ⟨A.gb,0,none⟩),.int .i64 1] .normal) (c::μ)/\
     T P ⟨true,false,λk O g N=>N=iv/\∃a child,(∀w,Sat k O w->stepG P true g w=.spawn a child w #[])/\T P (iO P A (A.n-(m+1))) iv k aj.bot child/\T P (pI m) iv k O a⟩ iv k O (kH .normal c μ (.tuple #[]))⟩
def Gk(m:Nat):Mo:=⟨true,false,λk O g N=>N=iv/\∃a child,(∀w,Sat k O w->stepG P true g w=.spawn a child w #[])/\T P (iO P A (A.n-(m+1))) iv k aj.bot child/\T P (pI P A Fin m) iv k O a⟩
structure Jx where
 m:Mo
 k:ar
 O:aj
 g:adJ
 N:adl
 h0:g.status=.running
 ht:m.dz k O g N
 c:∀k' O' g',N k' O' g'->TT P m k' O' g'
variable {P} in
def Jx.node(y:Jx P):Node P:=⟨y.m,y.k,y.O,y.g,.dz y.N y.h0 y.ht y.c⟩
inductive bu where
 |idle
 |run (h:Bool) (X:Node P)
 |lk (p:Cg) (Y:Jx P)
 |un (p:Cg) (Y:Jx P)
 |wait
 |zX
 |dn (p:Ij)
 |gone
inductive ko where
 |none|eU|wt (p:Ij)|jS|gone
inductive pV where
 |add (j:Nat)|bG (j:Nat) (p:Ij)|spawn (j:Nat)|recv|parked|off
structure MS where
 d:Bool
 ms:pV
 sp:Nat
 w:Nat->bu P
 c:ko
 sh:Mu.Sh
 gc:Nat
 gv:Nat
 gm:Nat
def Cg.abs:Cg->Mu.Pc
 |.ld=>.out|.iM=>.iM|.rd l=>.rd l|.sq o l=>.sq o l|.sw o l=>.sw o l|.kU o l=>.kU o l|.t1 sv=>.il sv|.il sv=>.il sv|.tq=>.tq|.up sv=>.up sv|.add o sv=>.add o sv
 |.le=>.held|.la=>.held|.back=>.held|.H6=>.held|.ur=>.held|.ud=>.held|.held=>.held|.jH o=>.jH o|.wG=>.wG|.give=>.give|.ue=>.out|.D5=>.out
variable{P}
def bu.pc:bu P->Mu.Pc
 |.run true _=>.held
 |.lk p _=>p.abs
 |.un p _=>p.abs
 |_=>.out
def bu.owns:bu P->Bool
 |.run h _=>h
 |.un .H6 _=>true
 |.un .ur _=>true
 |_=>false
def Ea:Cg->Bool
 |.ld=>true|.iM=>true|.rd _=>true|.sq ..=>true|.sw ..=>true|.kU ..=>true|.t1 _=>true|.il _=>true|.tq=>true|.up _=>true|.add ..=>true|.le=>true|.la=>true
 |_=>false
def Ah:Cg->Bool
 |.H6=>true|.ur=>true|.ud=>true|.held=>true|.jH _=>true|.wG=>true|.give=>true|.ue=>true
 |_=>false
def bu.deaf:bu P->Nat
 |.lk .ld _=>0|.lk .la _=>0|.lk _ _=>1
 |.un .H6 _=>0|.un .ur _=>0|.un .ud _=>0|.un _ _=>1
 |.dn .d1=>0|.dn .d2=>0|.dn _=>1
 |_=>0
def tD:Ij->Nat
 |.a0=>0|.a2=>1|.a4=>1|.ae=>1
 |.w0=>0|.w1=>1|.we=>1|.wa=>0|.w2 _=>1|.w3=>1|.w4=>1|.w5=>1
 |_=>0
def bu.cB:bu P->Nat
 |.idle=>0|.run ..=>20|.lk ..=>20|.un ..=>20|.wait=>19|.zX=>18
 |.dn .d1=>12|.dn .d2=>11|.dn .d4=>10|.dn .d5=>4|.dn .d6=>3|.dn _=>2|.gone=>0
def ko.cB(gc:Nat):ko->Nat
 |.none=>0|.eU=>14
 |.wt .w0=>13|.wt .w1=>10|.wt (.w2 k)=>if gc=k then 9 else 11|.wt .w3=>8|.wt .w4=>7|.wt .w5=>6|.wt .we=>5|.wt _=>4
 |.jS=>3|.gone=>0
def pV.cB:pV->Nat
 |.add j=>40*j+200|.bG j .a0=>40*j+199|.bG j .a2=>40*j+198|.bG j .a4=>40*j+197|.bG j _=>40*j+196
 |.spawn j=>40*j+225|.recv=>100|.parked=>99|.off=>0
def MS.cB(n:Nat)(s:MS P):Nat:=s.ms.cB+sumTo n (λj=>(s.w j).cB)+s.c.cB s.gc
def Co(n:Nat):Nat:=4*(6*(18*n+1)+16)+20
def bu.ex(n:Nat):bu P->Nat
 |.run ..=>2*Co n|.lk .ld _=>Co n|.lk (.t1 _) _=>1|.lk .le _=>2|.lk .la _=>1
 |.un .H6 _=>5|.un .ur _=>4|.un .ud _=>3|.un .ue _=>1|_=>0
def MS.inner(n:Nat)(s:MS P):Nat:=4*Mu.meas n (λj=>(s.w j).pc) s.sh+sumTo n (λj=>(s.w j).ex n)
def bu.nd:bu P->Option (Node P)
 |.run _ X=>some X|.lk _ Y=>some Y.node|.un _ Y=>some Y.node|_=>none
end
def Jy{P}(a b:Option (Node P)):Prop:=∃x y,a=some x/\b=some y/\Relation.TransGen pQ x y
def MI{P}:∀a:Option (Node P),Acc Jy a:=by
 have key:∀x:Node P,Acc (Relation.TransGen pQ) x->Acc Jy (some x):=by
  intro x b;induction b with
  |intro x _ c=>exact⟨_,λy ⟨u,v,d,f,h⟩=>by simp_all⟩
 intro a;cases a with
 |none=>exact⟨_,λy ⟨u,v,_,e,_⟩=>by cases e⟩
 |some x=>exact key x ((WellFounded.intro DT).transGen.apply x)
def MJ{α:Type}(R:α->α->Prop)(n:Nat)(f' f:Nat->α):Prop:=∃i,i<n/\(∀j,j≠i->f' j=f j)/\R (f' i) (f i)
def Eb{α R}(d:∀a,Acc R a):∀  n  (f:Nat->α),Acc (MJ R n) f
 |0,f=>⟨_,λy ⟨i,e,_⟩=>by omega⟩
 | n + 1,f=>by
   have key:∀x:α,Acc R x->∀f:Nat->α,f n=x->Acc (MJ R (n+1)) f:=by
    intro x g;induction g with
    | intro x _ h=>
      intro f m;have j:=Eb d n f;induction j with
      | intro f _ b=>
        refine⟨_,λf' ⟨i,e,c,k⟩=>?_⟩;by_cases l:i=n
        . grind
        . exact b f' ⟨i,by omega,c,k⟩ (by grind)
   simp_all
def MS.gX{P}(n:Nat)(s' s:MS P):Prop:=s'.cB n<s.cB n\/(s'.cB n=s.cB n/\(MJ Jy n (λj=>(s'.w j).nd) (λj=>(s.w j).nd)\/((λj=>(s'.w j).nd)=(λj=>(s.w j).nd)/\s'.inner n<s.inner n)))
def Qv{P}  n :WellFounded (MS.gX (P:=P) n):=by
 have c:WellFounded (MJ (Jy (P:=P)) n):=⟨Eb MI n⟩;have d:=(Prod.lex ⟨Nat.lt,Nat.lt_wfRel.wf⟩ (Prod.lex ⟨MJ (Jy (P:=P)) n,c⟩ ⟨Nat.lt,Nat.lt_wfRel.wf⟩)).wf;refine Subrelation.wf (r:=InvImage _ (λs:MS P=>(s.cB n,(λj=>(s.w j).nd),s.inner n))) ?_ (InvImage.wf _ d);intro s' s h;rcases h with h|⟨h,b|⟨b,a⟩⟩
 . exact Prod.Lex.left _ _ h
 . show Prod.Lex _ _ (_,_) (_,_)
   grind
 . show Prod.Lex _ _ (_,_) (_,_)
   rw[h,b];exact Prod.Lex.right _ (Prod.Lex.right _ a)
section
variable{P:adT}
def bu.iY:bu P->Bool
 |.zX=>true|.dn _=>true|.gone=>true|_=>false
def bu.iP:bu P->Bool
 |.idle=>false|.run h _=>h|.lk ..=>false|_=>true
def bu.rel(x:bu P):Bool:=x.iP && !x.owns
def bu.cnt:bu P->Nat
 |.run ..=>1|.lk ..=>1|.un ..=>1|.wait=>1|.zX=>1|.dn .d1=>1|.dn .d2=>1|.dn .d4=>1|_=>0
def bu.busy:bu P->Bool
 |.run ..=>true|.lk ..=>true|.un ..=>true|.wait=>true|.zX=>true|.dn .d1=>true|_=>false
def bu.last:bu P->Bool
 |.dn .d5=>true|.dn .d6=>true|.dn .d7=>true|_=>false
def bu.jT:bu P->Bool
 |.idle=>true|_=>false
def bu.ok:bu P->Bool
 |.lk p _=>Ea p
 |.un p _=>Ah p
 |.dn p=>(match p with|.d1=>true|.d2=>true|.d4=>true|.d5=>true|.d6=>true|.d7=>true|_=>false)
 |_=>true
def ko.busy:ko->Bool
 |.eU=>true|.wt _=>true|.jS=>true|_=>false
def ko.ok:ko->Bool
 |.wt p=>(match p with|.w0=>true|.w1=>true|.w2 _=>true|.w3=>true|.w4=>true|.w5=>true|.we=>true|.wa=>true|_=>false)
 |_=>true
def ko.waits:ko->Bool
 |.wt .w3=>true|.wt .w4=>true|_=>false
def ko.MK:ko->Bool
 |.wt .w5=>true|.wt .we=>true|.wt .wa=>true|.jS=>true|.gone=>true|_=>false
def ko.isNone:ko->Bool
 |.none=>true|_=>false
def ko.fe:ko->Bool
 |.gone=>true|_=>false
def pV.pend:pV->Nat
 |.bG _ .a4=>1|.bG _ .ae=>1|.spawn _=>1|_=>0
structure bU(n:Nat)(s:MS P):Prop where
 g1:s.gc=sumTo n (λj=>(s.w j).cnt)+s.ms.pend
 g2:s.gv<=1
 Gl:s.gv=1->s.c.waits=true/\s.gm=0
 g3:∀j,j<n->(s.w j=.dn .d5\/s.w j=.dn .d6)->s.gv=1/\s.gc=0
 Im:∀i j,i<n->j<n->(s.w i).last=true->(s.w j).last=true->i=j
 g4:∀j,j<n->s.w j=.dn .d7->s.gv=0/\s.gc=0/\s.gm=0/\s.c.waits=true
 g5:s.gm<=1/\(s.gm=1->s.c.waits=true/\s.gv=0/\s.gc=0/\∀j,j<n->(s.w j).last=false)
 g6:s.c.waits=true->s.gv=0->s.gm=0->∃j,j<n/\s.w j=.dn .d7
 g7:s.gv=1->s.gc=0->∃j,j<n/\(s.w j=.dn .d5\/s.w j=.dn .d6)
 g8:s.c.MK=true->s.gc=0/\s.gv=0/\s.gm=0/\∀j,j<n->s.w j=.gone
 g9:∀k,s.c=.wt (.w2 k)->k≠0
 ok:∀j,j<n->(s.w j).ok=true
 Uz:s.c.ok=true
 sp:s.sp<=n
 idle:∀j,j<n->((s.w j).jT=true↔s.sp<=j)
 ms:match s.ms with
  |.add j=>s.sp+j=n/\s.c=.none
  |.bG j p=>s.sp+j=n/\s.c=.none/\1<=j/\(p=.a0\/p=.a2\/p=.a4\/p=.ae)
  |.spawn j=>s.sp+j+1=n/\s.c=.none
  |.recv=>s.sp=n/\s.c≠.none
  |.parked=>s.sp=n/\s.c≠.none/\s.c≠.gone/\∀j,j<n->s.w j≠.wait
  |.off=>s.sp=n/\s.c≠.none
 early:s.d=false->s.c=.none->∀j,j<n->(s.w j).iY=false
 mu:Mu.Inv n (λj=>(s.w j).pc) s.sh
end
variable(P:adT)(A:bQ)(Fin:adl)
def MS.rem(n:Nat)(s:MS P):adL:=(List.range n).filter λj=>!(s.w j).iY
def dL(s:MS P)(i:Nat):Prop:=(i=0/\(match s.ms with|.add _=>True|.spawn _=>True|.recv=>True|_=>False))\/(∃j,j<A.n/\i=A.b+j/\(match s.w j with|.run ..=>True|.zX=>True|_=>False))\/(i=A.cl/\(match s.c with|.eU=>True|.jS=>True|_=>False))
def ij(s:MS P)(i:Nat):Prop:=(i=0/\(match s.ms with|.bG ..=>True|_=>False))\/(∃j,j<A.n/\i=A.b+j/\(match s.w j with|.lk ..=>True|.un ..=>True|.dn _=>True|_=>False))\/(i=A.cl/\(match s.c with|.wt _=>True|_=>False))
def fS(s:MS P)(i:Nat):Prop:=(i=0/\s.ms=.parked)\/(∃j,j<A.n/\i=A.b+j/\s.w j=.wait)
def cK(s:MS P)(i:Nat):Mo:=
 if i=0 then(match s.ms with|.add j=>pI P A Fin j|.spawn j=>Gk P A Fin j|_=>rU P A Fin (MS.rem P A.n s).length (MS.rem P A.n s))
 else if i<A.b+A.n then(match s.w (i-A.b)with|.run ..=>iO P A (i-A.b)|_=>lF P A)else(match s.c with|.eU=>yq P A|_=>sB P A)
def Gm(s:MS P)(i:Nat):(cK P A Fin s i).main=(i==0):=by
 have c:∀m R,(rU P A Fin m R).main=true:=λm R=>by cases m<;>rfl
 have b:∀m,(pI P A Fin m).main=true:=λm=>by
  cases m with
  |zero=>unfold pI;grind
  |succ m=>rfl
 unfold cK;by_cases a:i=0
 . subst a
   simp only[Rp,beq_self_eq_true];split
   . exact b _
   . rfl
   simp_all
 . have:(i==0)=false:=by simp_all
   rw[zA a,this];split
   . split<;>rfl
   . split<;>rfl
def Io(j:Nat)(x:bu P)(k:ar)(O:aj)(g:adJ):Prop:=
 match x with
 |.lk p Y=>∃τ c μ e,τ≠.early/\ow P A.nm A.fb A.fo τ p (c::μ) g/\Y.m=iO P A j/\O A.fb=none/\k.sh A.fb=some e/\(A.dir=true->A.cell j<e.2)/\∀b x a f,k.Le b->kV b x a->A.GI a->O A.mb=none->A.Tk j f->Y.N b ((O.set A.mb x).set A.fb (.part f)) (kH τ c μ (.tuple #[]))
 | .un p Y=>∃τ c μ,τ≠.early/\ow P A.nm A.fb A.fo τ p (c::μ) g/\Y.m=iO P A j/\
    ((p=.H6\/p=.ur)->∃f x a,O A.fb=some (.part f)/\O A.mb=some x/\kV k x a/\A.GI a/\(A.dir=true->k.cell A.fb (A.cell j)=some (A.val j))/\FQ P A Y.N k ((O.del A.mb).del A.fb) (kH τ c μ (.tuple #[])))/\
    (¬(p=.H6\/p=.ur)->FQ P A Y.N k O (kH τ c μ (.tuple #[])))
 |.dn p=>∃d fn η todo,P.funcs[d]?=some fn/\fn.results=#[]/\rR P A.ng A.gb .deferred p [lg P d η todo,cO P] g
 |_=>False
def UA(x:ko)(k:ar)(O:aj)(g:adJ):Prop:=
 match x with
 |.wt p=>∃c μ,rR P A.ng A.gb .normal p (c::μ) g/\if A.dir then VN A Fin k O c μ else ∀a,k.Le a->T P (sB P A) iv a O (kH .normal c μ (.tuple #[]))
 |_=>False
def Xu(x:pV)(k:ar)(O:aj)(g:adJ):Prop:=
 match x with
 |.bG j p=>∃c μ,rR P A.ng A.gb .normal p (c::μ) g/\T P (Gk P A Fin (j-1)) iv k O (kH .normal c μ (.tuple #[]))
 |_=>False
def VO(s:MS P)(i:Nat)(k:ar)(O:aj)(g:adJ):Prop:=(i=0/\Xu P A Fin s.ms k O g)\/(∃j,j<A.n/\i=A.b+j/\Io P A j (s.w j) k O g)\/(i=A.cl/\UA P A Fin s.c k O g)
def SX(s:MS P)(i:Nat):Prop:=(∃j sv Y,j<A.n/\i=A.b+j/\s.w j=.lk (.il sv) Y/\s.sh.ms=0)\/(i=A.cl/\s.c=.wt .w4/\s.gm=0)
def Yf(s:MS P)(i:Nat)(k:ar)(O:aj)(g:adJ):Prop:=
 (i=0/\∃a z,g=parked a #[rcase A.cF z] (.recv true)/\dV P A k O a a z/\a.status=.running/\(rU P A Fin (MS.rem P A.n s).length (MS.rem P A.n s)).dz k O a iv)\/
 (∃j,j<A.n/\i=A.b+j/\∃a z v,g=parked a #[scase A.cF v z] .send/\V k v (A.res j)/\O A.fb=none/\T P (lF P A) iv k O (Go.Conc.served a undef)/\A.dir=false)
def dW(s:MS P)(i:Nat):Nat:=
 if i=0 then(match s.ms with|.bG _ p=>tD p|.off=>(match s.c with|.wt p=>tD p|_=>0)|_=>0)
 else if i<A.b+A.n then(s.w (i-A.b)).deaf else(match s.c with|.wt p=>tD p|_=>0)
def lG(w:World):Prop:=(∃v,w.cell? ⟨A.gb,0,none⟩=some v)/\(∃v,w.cell? ⟨A.gb,1,none⟩=some v)/\∃v,w.cell? ⟨A.fb,A.fo,none⟩=some v
def zY(A:bQ):Loc->Prop
 |.cell a=>a.spot=none/\((a.block=A.fb/\(a.off=A.fo\/a.off=A.fo+1))\/(a.block=A.gb/\(a.off=0\/a.off=1)))
 |.obj r=>r=A.cF/\A.dir=false
 |_=>False
def eI(s:MS P)(i:Nat):Prop:=(∃j,j<A.n/\i=A.b+j/\(s.w j).busy=true)\/(i=A.cl/\s.c.busy=true)
def bX(s:MS P)(i:Nat):Prop:=i=0\/(∃j,j<s.sp/\i=A.b+j)\/(i=A.cl/\s.c≠.none)
abbrev wO(s:MS P):Prop:=(A.dir=true->s.c≠.none->s.ms=.off)/\(A.dir=true->s.ms≠.recv/\s.ms≠.parked/\s.c≠.eU/\s.c≠.jS/\s.c≠.gone)/\(A.dir=false->s.ms≠.off)
structure dq(Z:Base)(s:MS P)(kk:adS)(OO:adR)(J M:adG)(gsz:Nat)(w:World)(t:Trace):Prop where
 I:bU A.n s
 size:gsz=A.b+s.sp+(if s.c.isNone||A.dir then 0 else 1)
 dd:s.d=A.dir
 off:wO P A s
 zZ:A.dir=true->∀j,j<A.n->((s.w j).iP=false->(∀i,(kk i).cell A.fb (A.cell j)=none)/\∀m a ad,touchAt t m=some a->a.loc=.cell ad->ad.block=A.fb/\ad.off=A.cell j->m<Z.N0)/\((s.w j).rel=true->(kk (A.b+j)).cell A.fb (A.cell j)=some (A.val j))
 AZ:A.dir=false->∃x tm,w.heap[A.cF]?=some (.chan 0 #[] s.c.fe x x tm)
 mu:ShM A.fb A.fo w s.sh
 gr:rQ A.gb w s.gc s.gv s.gm
 uV:∃c e,w.heap[A.fb]?=some (.cells c e (0,0))
 Ai:∃c e,w.heap[A.gb]?=some (.cells c e (0,0))
 ik:∀i,(A.dir=false->OO i A.cF=none)/\OO i A.gb=none
 eV:∀i,(kk i).cell A.fb A.fo=none/\(kk i).cell A.fb (A.fo+1)=none/\(kk i).cell A.gb 0=none/\(kk i).cell A.gb 1=none
 tok:∀i x,OO i A.fb=some x->∃j f,j<A.n/\i=A.b+j/\(s.w j).owns=true/\x=.part f/\∀l,f l≠none->A.dir=true/\l=A.cell j
 Aj:∀j,j<A.n->(s.w j).owns=true->OO (A.b+j) A.fb≠none
 PQ:(∀j,j<A.n->(s.w j).owns=false)->∃x a,OO Z.lk A.mb=some x/\kV (kk Z.lk) x a/\A.GI a
 PR:∀c,OO Z.lk c≠none->c=A.mb/\∀j,j<A.n->(s.w j).owns=false
 hJ:∀i,J i↔eI P A s i
 hM:∀p,M p->t.heard p/\Z.N0<=p/\((t.act? p=some (.mark (.releaseMerge ⟨A.gb,0,none⟩))/\(s.c=.none\/s.c=.eU\/∃q,s.c=.wt q))\/(s.c=.gone/\t.act? p=some (.close A.cF)))
 shut:s.c=.gone->∃p,M p/\t.act? p=some (.close A.cF)/\t.heard p
 quiet:∀m a,touchAt t m=some a->zY A a.loc->a.kind=.plain->∀i,bX P A s i->Knows t i m
 said:∀m a,touchAt t m=some a->zY A a.loc->a.kind=.said->Knows t (if s.c.isNone then 0 else A.cl) m
 old:∀i,bX P A s i->∀m a,m<Z.N0->touchAt t m=some a->a.loc.isMemory=true -> ¬Z.Shun a.loc->Knows t i m
 norel:∀m a,Z.N0<=m->t.act? m≠some (.mark (.release a))
 Ec:∀i,i≠Z.lk -> ¬bX P A s i->kk i=ar.bot/\OO i=aj.bot
 tk:∀a,zY A a->(∃c,a=.cell c/\c.block=A.gb)->Z.Shun a
 kq:∀c:Addr,c.block=A.fb/\(c.off=A.fo\/c.off=A.fo+1\/(A.dir=true/\∃j,j<A.n/\c.off=A.cell j)) -> ¬Z.Shun (.cell c)
 fP:(A.dir=false->Z.W0.heap.size<=A.cF)/\Z.W0.heap.size<=A.fb/\Z.W0.heap.size<=A.gb
 la:Z.la=⟨A.fb,A.fo,none⟩
 n0:Z.N0<=t.size
def Node.SY{P:adT}:Node P->Prop
 |⟨_,_,_,_,.dz ..⟩=>True
 |_=>False
def vT{P:adT}(x X:Node P):Prop:=∀y,(y=x\/Relation.TransGen pQ y x)->y.SY->(y=X\/Relation.TransGen pQ y X)
def vT.sub{P:adT}{x y X:Node P}(h:vT x X)(a:pQ y x):vT y X:=λz b c=>h z (b.elim (λe=>.inr (by rw[e];exact .single a)) (λe=>.inr (e.tail a))) c
def vT.refl{P:adT}(X:Node P):vT X X:=λy a _=>a
def Qw(s:MS P)(i:Nat)(x:Node P):Prop:=∀j h X,j<A.n->i=A.b+j->s.w j=.run h X->vT x X
def cj(Z:Base)(a:A.b+A.n+1<=Z.lk):rO P where
 S:=MS P
 r:=MS.gX A.n
 wf:=Qv A.n
 mo:=cK P A Fin
 main:=Gm P A Fin
 top:=A.b+A.n+1
 lk:=Z.lk
 Vn:=a
 Live:=dL P A
 Walk:=ij P A
 At:=VO P A Fin
 AR:=SX P A
 oI:=fS P A
 F9:=Yf P A Fin
 deaf:=dW P A
 Wd:=lG A
 Ex:=dq P A Z
 Qg:=Qw P A
 tie:=λs i x y hs h j b X c d e=>(h j b X c d e).sub hs
end
section
open Go.Conc
open Go.ConcN (sumTo upd sumTo_upd upd_ne upd_same)
def yr{t}(u:Trace){p x}(h:t.act? p=some x)(b:t.heard p):(t++u).act? p=some x/\(t++u).heard p:=by have a:=lt_of_act? h;exact⟨by rw[act?_old a];exact h,(heard_old a).2 b⟩
structure Ed  b o  (w w':World):Prop where
 cell:∀l,l=o\/l=o+1->w'.cell? ⟨b,l,none⟩=w.cell? ⟨b,l,none⟩
 fz:∀l,w'.frozen? ⟨b,l,none⟩=w.frozen? ⟨b,l,none⟩
def Ed.of_heap{b o w w'}(h:w'.heap[b]?=w.heap[b]?):Ed b o w w':=⟨λl _=>by simp only[World.cell?,h],λl=>by simp only[World.frozen?,h]⟩
def ShM.same{b o w w' s}(h:ShM b o w s)(e:Ed b o w w'):ShM b o w' s:=⟨by rw[e.cell _ (.inl rfl)];exact h.cw,by rw[e.cell _ (.inr rfl)];exact h.cs,λi=>by rw[e.fz];exact h.fz i⟩
def rQ.same{b w w' c v m}(h:rQ b w c v m)(e:Ed b 0 w w'):rQ b w' c v m:=⟨by rw[e.cell _ (.inl rfl)];exact h.cw,by rw[e.cell _ (.inr rfl)];exact h.cs,λi=>by rw[e.fz];exact h.fz i⟩
def ez{t u m a}(h:touchAt (t++u) m=some a):(touchAt t m=some a/\m<t.size)\/∃op∈u,op.act.touch?=some a:=by
 obtain⟨x,d,b⟩:=touch_of h;rcases getElem?_append_cases d with⟨e,c⟩|⟨_,f⟩
 . exact .inl ⟨by rw[touchAt_of c];exact b,e⟩
 grind
def qX{t u:Trace}{m x}(h:(t++u).act? m=some x):(t.act? m=some x/\m<t.size)\/∃op∈u,op.act=x:=by
 unfold Trace.act? at h;obtain⟨y,b,rfl⟩:=aaK.1 h;rcases getElem?_append_cases b with⟨c,a⟩|⟨_,d⟩
 . exact .inl ⟨by simp[Trace.act?,a],c⟩
 grind
section
variable{P:adT}{A:bQ}{Fin:adl}{Z:Base}{s:MS P}{kk kk':adS}{OO OO':adR}{J M:adG}{gsz:Nat}{w w':World}{t:Trace}
def dq.kM(h:dq P A Z s kk OO J M gsz w t)  u  (j:∀op∈u,∀a,op.act.touch?=some a->zY A a.loc->a.kind≠.plain):∀m a,touchAt (t++u) m=some a->zY A a.loc->a.kind=.plain->∀i,bX P A s i->Knows (t++u) i m:=λm a c d e i f=>by
 rcases ez c with⟨b,_⟩|⟨op,g,b⟩
 . exact(h.quiet m a b d e i f).app u
 grind
def dq.oQ(h:dq P A Z s kk OO J M gsz w t)  u  (i:∀op∈u,∀a,op.act.touch?=some a->zY A a.loc->a.kind≠.said):∀m a,touchAt (t++u) m=some a->zY A a.loc->a.kind=.said->Knows (t++u) (if s.c.isNone then 0 else A.cl) m:=λm a d e f=>by
 rcases ez d with⟨b,_⟩|⟨op,g,b⟩
 . exact(h.said m a b e f).app u
 grind
def dq.qt(h:dq P A Z s kk OO J M gsz w t)  u :∀i,bX P A s i->∀m a,m<Z.N0->touchAt (t++u) m=some a->a.loc.isMemory=true -> ¬Z.Shun a.loc->Knows (t++u) i m:=λi g m a e j b k=>by
 have c:m<t.size:=abv e h.n0
 have l:touchAt t m=some a:=by obtain⟨x,f,d⟩:=touch_of j;rw[acW c]at f;rw[touchAt_of f];exact d
 exact(h.old i g m a e l b k).app u
def dq.jU(h:dq P A Z s kk OO J M gsz w t)  u  (f:∀op∈u,∀a,op.act≠.mark (.release a)):∀m a,Z.N0<=m->(t++u).act? m≠some (.mark (.release a)):=λm a c e=>by
 rcases qX e with⟨b,_⟩|⟨op,d,b⟩
 . exact h.norel m a c b
 simp_all
def dq.vU(h:dq P A Z s kk OO J M gsz w t)  u :∀p,M p->(t++u).heard p/\Z.N0<=p/\(((t++u).act? p=some (.mark (.releaseMerge ⟨A.gb,0,none⟩))/\(s.c=.none\/s.c=.eU\/∃q,s.c=.wt q))\/(s.c=.gone/\(t++u).act? p=some (.close A.cF))):=λp e=>by
 obtain⟨b,i,a⟩:=h.hM p e;rcases a with⟨a,d⟩|⟨a,d⟩
 . obtain⟨f,g⟩:=yr u a b
   simp_all
 obtain⟨f,g⟩:=yr u d b
 simp_all
def dq.mY(h:dq P A Z s kk OO J M gsz w t)  u :s.c=.gone->∃p,M p/\(t++u).act? p=some (.close A.cF)/\(t++u).heard p:=λa=>by
 obtain⟨p,e,b,d⟩:=h.shut a;obtain⟨f,g⟩:=yr u b d
 grind
def Gn(I:bU A.n s){i}(d:dL P A s i):bX P A s i:=by
 rcases d with⟨h,_⟩|⟨j,b,c,f⟩|⟨b,c⟩
 . exact .inl h
 . refine .inr (.inl ⟨j,?_,c⟩)
   have a:=I.idle j b;cases e:s.w j with
   |idle=>simp_all
   |_=>rw[e]at a;simp[bu.jT]at a;omega
 refine .inr (.inr ⟨b,λe=>?_⟩)
 simp_all
def ML{i}(a:dL P A s i):i<A.b+A.n+1:=by
 have:=A.hb;rcases a with⟨h,_⟩|⟨j,c,d,e⟩|⟨c,d⟩<;>omega
def dq.Qx(h:dq P A Z s kk OO J M gsz w t){i l}(a:aV (OO i) A.fb l):A.dir=true/\∃j,j<A.n/\(i=A.b+j/\(s.w j).owns=true)/\l=A.cell j:=by
 obtain⟨x,c⟩:=a.own;obtain⟨j,f,d,e,k,rfl,p⟩:=h.tok i x c;rcases a with⟨o,q⟩|⟨m,q,_⟩|⟨g,q,r⟩
 . simp_all
 . simp_all
 rw[c]at q;cases q;grind
def A7{x:bu P}(h:x.owns=true):x.iP=true:=by cases x<;>simp_all [bu.owns,bu.iP]
def Ak(h:dq P A Z s kk OO J M gsz w t){i e}(n:jG (kk i) (OO i) w.heap.size e){a}(p:(MemAct.ofEvent e).touch?=some a):¬zY A a.loc:=λb=>by
 have q:A.fb<w.heap.size:=by obtain⟨c,e,k⟩:=h.uV;grind
 have u:A.gb<w.heap.size:=by obtain⟨c,e,k⟩:=h.Ai;grind
 have g:∀l,(l=A.fo\/l=A.fo+1) -> ¬aV (OO i) A.fb l:=λl f m=>by obtain⟨_,_,_,_,e⟩:=h.Qx m;unfold bQ.cell at e;omega
 have j:∀l,¬aV (OO i) A.gb l:=λl=>eH (h.ik i).2
 obtain⟨v,y,z,B⟩:=h.eV i
 rcases kF n p with⟨C,f,m⟩|⟨r,f,d⟩
 . rw[f]at b
   obtain⟨_,b⟩:=b
   grind
 rw[f]at b;obtain⟨b,hd⟩:r=A.cF/\A.dir=false:=b;subst b
 rcases d with⟨o,d⟩|d
 . rw[(h.ik i).1 hd]at d;cases d
 obtain⟨x,D,k⟩:=h.AZ hd
 simp_all
def Al{k O B e}(b:jG k O B e)  a :MemAct.ofEvent e≠.mark (.release a):=by
 obtain⟨loc,wr,c⟩:=e;cases loc with
 |mark m=>simp only[jG]at b;cases m<;>simp_all [kD,ny,MemAct.ofEvent]
 |cell d=>simp[MemAct.ofEvent]
 |obj r=>cases wr<;>cases c<;>simp[MemAct.ofEvent]
 |_=>simp[jG]at b
def dq.own(h:dq P A Z s kk OO J M gsz w t)(hZ:A.b+A.n+1<=Z.lk){i}(V:dL P A s i){k' O' es}(D:Eff (kk i) (OO i) w k' O' w' es)  u
 (H:∀op∈u,∃e,jG (kk i) (OO i) w.heap.size e/\op.act=.ofEvent e):dq P A Z s (bW kk i k') (bW OO i O') J M gsz w' (t++u):=by
 have K:i≠Z.lk:=by have:=ML V;omega
 have Q:=Gn h.I V;have W:A.fb<w.heap.size:=by obtain⟨c,e,d⟩:=h.uV;grind
 have X:A.gb<w.heap.size:=by obtain⟨c,e,d⟩:=h.Ai;grind
 have hC:A.dir=false->A.cF<w.heap.size:=λhd=>by obtain⟨x,tm,d⟩:=h.AZ hd;grind
 have R:=D.keep A.gb X (h.ik i).2
 have S:Ed A.fb A.fo w w'/\∃c e,w'.heap[A.fb]?=some (.cells c e (0,0)):=by
  cases q:OO i A.fb with
  |none=>have:=D.keep A.fb W q;exact⟨.of_heap this,by rw[this];exact h.uV⟩
  | some x=>
    obtain⟨j,f,_,_,_,rfl,hf⟩:=h.tok i x q;obtain⟨c,e,d⟩:=h.uV;obtain⟨c',N,h3,h4⟩:=D.part A.fb f W q c e d;refine⟨⟨λl V=>?_,λl=>?_⟩,c',e,N⟩
    . simp only[World.cell?,d,N];rw[h4 l (abN λhh=>by have:=(hf l hh).2;unfold bQ.cell at this;omega)]
    simp only[World.frozen?,d,N]
 have p:∀c,c<w.heap.size->OO i c=none->O' c=none:=λc hc hn=>by
  cases q:O' c with
  |none=>rfl
  | some x=>
    rcases D.own c x q with⟨y,hy,_⟩|hy
    . simp_all
    omega
 have z:∀l,(l=A.fo\/l=A.fo+1) -> ¬aV (OO i) A.fb l:=λl V hc=>by obtain⟨_,_,_,_,e⟩:=h.Qx hc;unfold bQ.cell at e;omega
 have a7:∀l,l<A.n->(s.w l).iP=false -> ¬aV (OO i) A.fb (A.cell l):=λl _ O hc=>by
  obtain⟨_,j,_,⟨_,T⟩,e⟩:=h.Qx hc;obtain rfl:l=j:=by unfold bQ.cell at e;omega
  rw[A7 T]at O;cases O
 have E:∀c l,c<w.heap.size -> ¬aV (OO i) c l->(kk i).cell c l=none->k'.cell c l=none:=λc l hc ax hn=>by
  cases q:k'.cell c l with
  |none=>rfl
  | some v=>
    rcases D.cell c l v q with d|d|d
    . simp_all
    . simp_all
    omega
 obtain⟨a8,a9,al,av⟩:=h.eV i
 have U:∀op∈u,∀a,op.act.touch?=some a -> ¬zY A a.loc:=λop k a G=>by obtain⟨e,B,C⟩:=H op k;rw[C]at G;exact Ak h B G
 refine⟨h.I,h.size,h.dd,h.off,λhd l F=>⟨λO=>⟨λj=>?_,λm a ad G e e'=>?_⟩,λhr=>?_⟩,λhd=>by rw[D.keep A.cF (hC hd) ((h.ik i).1 hd)];exact h.AZ hd,h.mu.same S.1,h.gr.same (.of_heap R),S.2,by rw[R];exact h.Ai,λj=>?_,λj=>?_,λj x Y=>?_,λj hj T=>?_,λT=>?_,λc hc=>?_,h.hJ,h.vU u,h.mY u,
  h.kM u (λop k a G hs=>absurd hs (U op k a G)),h.oQ u (λop k a G hs=>absurd hs (U op k a G)),h.qt u,h.jU u (λop k a=>by obtain⟨e,B,C⟩:=H op k;rw[C];exact Al B a),λj hj hb=>?_,h.tk,h.kq,h.fP,h.la,by simp;exact aaH h.n0 (abS _ _)⟩
 . have d:=((h.zZ hd l F).1 O).1 j
   by_cases e:j=i
   . subst e;rw[ao];simp_all
   rw[az _ _ e];exact d
 . rcases ez G with⟨d,_⟩|⟨op,k,d⟩
   . exact((h.zZ hd l F).1 O).2 m a ad d e e'
   obtain⟨ev,B,C⟩:=H op k;rw[C]at d
   rcases kF B d with⟨ad,L,hc⟩|⟨r,L,_⟩
   . rw[e]at L
     cases L;rw[e'.1,e'.2]at hc
     rcases hc with hc|hc|⟨_,v,hc⟩
     . simp_all
     . omega
     have:=((h.zZ hd l F).1 O).1 i
     simp_all
   simp_all
 . have d:=(h.zZ hd l F).2 hr
   by_cases e:A.b+l=i
   . rw[e,ao];rw[e]at d;exact D.le.1 _ _ _ d
   rw[az _ _ e];exact d
 . by_cases e:j=i
   . subst e;rw[ao];exact⟨λhd=>p _ (hC hd) ((h.ik j).1 hd),p _ X (h.ik j).2⟩
   rw[az _ _ e];exact h.ik j
 . by_cases e:j=i
   . subst e;rw[ao]
     exact⟨E _ _ W (z _ (.inl rfl)) a8,E _ _ W (z _ (.inr rfl)) a9,E _ _ X (eH (h.ik j).2) al,E _ _ X (eH (h.ik j).2) av⟩
   rw[az _ _ e];exact h.eV j
 . by_cases e:j=i
   . subst e;rw[ao]at Y
     rcases D.own _ x Y with⟨y,hy,hb⟩|hy
     . obtain⟨l,f,d,N,h3,rfl,h4⟩:=h.tok j y hy
       cases x with
       |obj o=>exact hb.elim
       |tail m=>exact hb.elim
       |part g=>exact⟨l,g,d,N,h3,rfl,λa q=>h4 a (hb a q)⟩
     omega
   rw[az _ _ e]at Y;exact h.tok j x Y
 . have d:=h.Aj j hj T
   by_cases e:A.b+j=i
   . rw[e,ao]
     rw[e]at d;cases q:OO i A.fb with
     |none=>simp_all
     | some x=>
       obtain⟨_,f,_,_,_,rfl,_⟩:=h.tok i x q;obtain⟨f',N⟩:=D.tok _ f q
       grind
   rw[az _ _ e];exact d
 . rw[az _ _ (wK K),az _ _ (wK K)];exact h.PQ T
 . rw[az _ _ (wK K)]at hc;exact h.PR c hc
 have e:j≠i:=λe=>hb (e ▸ Q)
 rw[az _ _ e,az _ _ e];exact h.Ec j hj hb
def dq.still(h:dq P A Z s kk OO J M gsz w t)  u  (i:∀op∈u,op.act.touch?=none/\∀a,op.act≠.mark (.release a)):dq P A Z s kk OO J M gsz w (t++u):=
 ⟨h.I,h.size,h.dd,h.off,λhd l c=>⟨λf=>⟨((h.zZ hd l c).1 f).1,λm a j d e k=>(ez d).elim (λg=>((h.zZ hd l c).1 f).2 m a j g.1 e k) (λ⟨op,b,g⟩=>by simp_all)⟩,(h.zZ hd l c).2⟩,h.AZ,h.mu,h.gr,h.uV,h.Ai,h.ik,h.eV,h.tok,h.Aj,h.PQ,h.PR,h.hJ,h.vU u,h.mY u,h.kM u (λop b a d=>by simp_all),h.oQ u (λop b a d=>by simp_all),
   h.qt u,h.jU u (λop b=>(i op b).2),h.Ec,h.tk,h.kq,h.fP,h.la,by simp;exact aaH h.n0 (abS _ _)⟩
def bq  y :AS (cj P A Fin Z y) where
 own:=λa m _ he u _ _ o=>dq.own a y m he u o
 slip:=λa u _ hu=>dq.still a u hu
 draw:=λ{s kk OO J M n w t} a d=>by have a:dq P A Z s kk OO J M n w t:=a;exact⟨a.I,a.size,a.dd,a.off,a.zZ,a.AZ,a.mu.heap rfl,a.gr.same (.of_heap rfl),a.uV,a.Ai,a.ik,a.eV,a.tok,a.Aj,a.PQ,a.PR,a.hJ,a.hM,a.shut,a.quiet,a.said,a.old,a.norel,a.Ec,a.tk,a.kq,a.fP,a.la,a.n0⟩
 tv := λ{s kk OO J M n w t j g} a B k O b=>by
  have a:dq P A Z s kk OO J M n w t:=a
  have q:s.c.fe=false:=by
   rcases B with⟨_,hm⟩|⟨l,m,_,hw⟩
   . have:=a.I.ms
     rw[hm]at this;have:=this.2.2.1;cases e:s.c<;>simp_all [ko.fe]
   cases e:s.c with
   | gone=>
     have:=(a.I.g8 (by rw[e];rfl)).2.2.2 l m
     simp_all
   |_=>rfl
  have hd:A.dir=false:=by
   cases e:A.dir with
   |false=>rfl
   | true=>
     rcases b with⟨h0,_⟩|⟨l,_,_,h,z,v,_,_,_,_,hd⟩
     . have:=A.hb
       rcases B with⟨_,hm⟩|⟨l,m,f,hw⟩
       . exact absurd hm (a.off.2.1 e).2.1
       omega
     simp_all
  obtain⟨x,C,r⟩:=a.AZ hd;rw[q]at r;rcases b with⟨_,h,z,rfl,_⟩|⟨l,_,_,h,z,v,rfl,_⟩
  . exact again_recv_open r
  exact again_send_open r
 wd:=λ{s kk OO J M n w t} a=>by have a:dq P A Z s kk OO J M n w t:=a;exact⟨⟨_,a.gr.cw⟩,⟨_,a.gr.cs⟩,⟨_,a.mu.cw⟩⟩
 ly:=λ{s i k O g} b=>by
  rcases b with⟨_,b⟩|⟨j,_,_,b⟩|⟨_,b⟩
  . cases e:s.ms with
    |bG j p=>rw[e]at b;obtain⟨c,μ,f,_⟩:=b;exact f.running
    |_=>rw[e]at b;exact b.elim
  . cases e:s.w j with
    |lk p Y=>rw[e]at b;obtain⟨τ,c,μ,_,_,f,_⟩:=b;exact f.running
    |un p Y=>rw[e]at b;obtain⟨τ,c,μ,_,f,_⟩:=b;exact f.running
    |dn p=>rw[e]at b;obtain⟨D,fn,η,todo,_,_,f⟩:=b;exact f.running
    |_=>rw[e]at b;exact b.elim
  cases e:s.c with
  |wt p=>rw[e]at b;obtain⟨c,μ,f,_⟩:=b;exact f.running
  |_=>rw[e]at b;exact b.elim
end
end
section
open Go.Conc
open Go.ConcN (sumTo upd sumTo_upd upd_ne upd_same)
variable{P:adT}
def MS.aZ(s:MS P)(j:Nat)(x:bu P)(sh:Mu.Sh):MS P:={s with w:=λi=>if i=j then x else s.w i,sh:=sh}
section
variable{s:MS P}{j n:Nat}{x:bu P}{sh:Mu.Sh}
def ba:(s.aZ j x sh).w j=x:=by simp[MS.aZ]
def cC{i}(h:i≠j):(s.aZ j x sh).w i=s.w i:=by simp[MS.aZ,h]
def Ip:(λi=>((s.aZ j x sh).w i).pc)=Mu.set (λi=>(s.w i).pc) j x.pc:=by
 funext i;by_cases h:i=j
 . subst h;rw[ba,Mu.ai]
 rw[cC h,Mu.ah _ _ h]
def tF(F:bu P->Nat)(hj:j<n):sumTo n (λi=>F ((s.aZ j x sh).w i))+F (s.w j)=sumTo n (λi=>F (s.w i))+F x:=by
 have e:(λi=>F ((s.aZ j x sh).w i))=upd (λi=>F (s.w i)) j (F x):=by
  funext i;by_cases h:i=j
  . subst h;rw[ba,upd_same]
  rw[cC h,upd_ne _ _ h]
 rw[e];have:=sumTo_upd (λi=>F (s.w i)) (F x) id hj
 simp_all
def bu.work:bu P->Bool
 |.run ..=>true|.lk ..=>true|.un ..=>true|_=>false
def bH{x:bu P}(h:x.work=true):x.cnt=1/\x.cB=20/\x.iY=false/\x.last=false/\x.jT=false/\x.busy=true/\x≠.gone/\x≠.wait/\∀p,x≠.dn p:=by cases x<;>simp_all [bu.work,bu.cnt,bu.cB,bu.iY,bu.last,bu.jT,bu.busy]
def bu.Cp:bu P->Bool
 |.run ..=>true|.lk ..=>true|.un ..=>true|.zX=>true|.dn .d1=>true|.dn .d2=>true|.dn .d4=>true|_=>false
def ys{x:bu P}(h:x.Cp=true):x.cnt=1/\x.last=false/\x.jT=false/\x≠.gone/\x≠.wait/\∀p,(p=.d5\/p=.d6\/p=.d7)->x≠.dn p:=by
 cases x with
 |dn p=>cases p<;>simp_all [bu.Cp,bu.cnt,bu.last,bu.jT]
 |_=>simp_all [bu.Cp,bu.cnt,bu.last,bu.jT]
def bU.same(I:bU n s)(hj:j<n)(o:(s.w j).Cp=true)(q:x.Cp=true)(r:x.iY=(s.w j).iY\/s.d=true)(G:x.ok=true)(t:Mu.Inv n (Mu.set (λi=>(s.w i).pc) j x.pc) sh):bU n (s.aZ j x sh):=by
 obtain⟨H,a4,u,J,K,L⟩:=ys o;obtain⟨M,N,v,O,Q,g⟩:=ys q;have m:=tF (s:=s) (x:=x) (sh:=sh) bu.cnt hj
 have look:∀{i:Nat}{y:bu P},(s.aZ j x sh).w i=y->x≠y->i≠j/\s.w i=y:=λ{i y} h z=>by
  by_cases e:i=j
  . subst e;rw[ba]at h;simp_all
  rw[cC e]at h;simp_all
 have back:∀{i:Nat}{y:bu P},s.w i=y->(s.w j)≠y->(s.aZ j x sh).w i=y:=λ{i y} h z=>by
  by_cases e:i=j
  . simp_all
  rw[cC e];exact h
 have b:∀{i:Nat},((s.aZ j x sh).w i).last=(s.w i).last:=λ{i}=>by
  by_cases e:i=j
  . grind
  rw[cC e]
 refine⟨?_,I.g2,I.Gl,λi a h=>?_,λi l a A h f=>?_,λi a h=>?_,⟨I.g5.1,λh=>?_⟩,λh f k=>?_,λh f=>?_,λh=>?_,I.g9,λi a=>?_,I.Uz,I.sp,λi a=>?_,?_,λhd h i a=>?_,by rw[Ip];exact t⟩
 . have:=I.g1
   show s.gc=sumTo n (λi=>((s.aZ j x sh).w i).cnt)+s.ms.pend;omega
 . exact I.g3 i a (h.imp (λh=>(look h (g _ (by simp))).2) (λh=>(look h (g _ (by simp))).2))
 . rw[b]at h f;exact I.Im i l a A h f
 . exact I.g4 i a (look h (g _ (by simp))).2
 . obtain⟨B,C,D,E⟩:=I.g5.2 h
   exact⟨B,C,D,λi a=>by grind⟩
 . obtain⟨i,a,F⟩:=I.g6 h f k
   grind
 . obtain⟨i,a,F⟩:=I.g7 h f
   grind
 . obtain⟨_,_,_,E⟩:=I.g8 h
   simp_all
 . by_cases e:i=j
   . grind
   rw[cC e];exact I.ok i a
 . by_cases e:i=j
   . subst e
     rw[ba,v];have:=I.idle i a;rw[u]at this;exact this
   rw[cC e];exact I.idle i a
 . have:=I.ms
   show match s.ms with
   |.add l=>s.sp+l=n/\s.c=.none
   |.bG l p=>s.sp+l=n/\s.c=.none/\1<=l/\(p=.a0\/p=.a2\/p=.a4\/p=.ae)
   |.spawn l=>s.sp+l+1=n/\s.c=.none
   |.recv=>s.sp=n/\s.c≠.none
   |.parked=>s.sp=n/\s.c≠.none/\s.c≠.gone/\∀i,i<n->(s.aZ j x sh).w i≠.wait
   |.off=>s.sp=n/\s.c≠.none
   grind
 by_cases e:i=j
 . subst e;rw[ba,r.resolve_right λe=>by have hd:s.d=false:=hd;grind];exact I.early hd h i a
 rw[cC e];exact I.early hd h i a
def A8{x:bu P}(h:x.work=true):x.Cp=true:=by cases x<;>simp_all [bu.work,bu.Cp]
def bU.work(I:bU n s)(hj:j<n)(a:(s.w j).work=true)(b:x.work=true)(c:x.ok=true)(d:Mu.Inv n (Mu.set (λi=>(s.w i).pc) j x.pc) sh):bU n (s.aZ j x sh):=I.same hj (A8 a) (A8 b) (.inl (by rw[(bH a).2.2.1,(bH b).2.2.1])) c d
def SZ(F:bu P->Nat)(hj:j<n)(h:F x=F (s.w j)):sumTo n (λi=>F ((s.aZ j x sh).w i))=sumTo n (λi=>F (s.w i)):=by have:=tF (s:=s) (x:=x) (sh:=sh) F hj;omega
def Ee(hj:j<n)(a:(s.w j).work=true)(b:x.work=true):(s.aZ j x sh).cB n=s.cB n:=by
 have:=SZ (s:=s) (x:=x) (sh:=sh) bu.cB hj (by rw[(bH a).2.1,(bH b).2.1]);show s.ms.cB+sumTo n (λi=>((s.aZ j x sh).w i).cB)+s.c.cB s.gc=_;rw[this];rfl
def Cq(hj:j<n)(a:(s.w j).work=true)(b:x.work=true)(h:Jy x.nd (s.w j).nd):MS.gX n (s.aZ j x sh) s:=.inr ⟨Ee hj a b,.inl ⟨j,hj,λi c=>by show((s.aZ j x sh).w i).nd=_;rw[cC c],by simp only[ba];exact h⟩⟩
def xe(hj:j<n)(a:(s.w j).work=true)(b:x.work=true)(h:x.nd=(s.w j).nd)(hi:4*Mu.meas n (Mu.set (λi=>(s.w i).pc) j x.pc) sh+x.ex n<4*Mu.meas n (λi=>(s.w i).pc) s.sh+(s.w j).ex n):MS.gX n (s.aZ j x sh) s:=by
 refine .inr ⟨Ee hj a b,.inr ⟨?_,?_⟩⟩
 . funext i
   by_cases e:i=j
   . subst e;rw[ba];exact h
   rw[cC e]
 have:=tF (s:=s) (x:=x) (sh:=sh) (bu.ex n) hj;show 4*Mu.meas n (λi=>((s.aZ j x sh).w i).pc) sh+sumTo n (λi=>((s.aZ j x sh).w i).ex n)<4*Mu.meas n (λi=>(s.w i).pc) s.sh+sumTo n (λi=>(s.w i).ex n);rw[Ip];omega
def Iq(I:bU n s)(hj:j<n)(a:(s.w j).work=true)(b:x.work=true)(h:x.nd=(s.w j).nd)(c:(x.pc,sh)∈Mu.mv (s.w j).pc s.sh)(d:x.ex n<=3):MS.gX n (s.aZ j x sh) s:=by
 have:=(Mu.Jk (pcs:=λi=>(s.w i).pc) hj (I.mu.j0 j hj) c).1;exact xe hj a b h (by omega)
def bU.mv(I:bU n s)(hj:j<n)(a:(s.w j).work=true)(b:x.work=true)(c:x.ok=true)(d:(x.pc,sh)∈Mu.mv (s.w j).pc s.sh):bU n (s.aZ j x sh):=I.work hj a b c (I.mu.step hj d)
def jV  pcs   i :Mu.set pcs i (pcs i)=pcs:=by
 funext l;by_cases e:l=i
 . subst e;exact Mu.ai _ _ _
 exact Mu.ah _ _ e
def mz(hj:j<n)(a:(s.w j).work=true)(b:x.work=true)(h:x.nd=(s.w j).nd)(c:x.pc=(s.w j).pc)(d:x.ex n<(s.w j).ex n):MS.gX n (s.aZ j x s.sh) s:=by
 refine xe hj a b h ?_;rw[c,jV (λi=>(s.w i).pc)];omega
def bU.still(I:bU n s)(hj:j<n)(a:(s.w j).work=true)(b:x.work=true)(c:x.ok=true)(d:x.pc=(s.w j).pc):bU n (s.aZ j x s.sh):=I.work hj a b c (by rw[d,jV (λi=>(s.w i).pc)];exact I.mu)
def gK(F:Mu.Pc->Nat){pcs i}(a:pcs i=.out)(h:F .iM=F .out):(λl=>F (Mu.set pcs i .iM l))=λl=>F (pcs l):=by
 funext l;by_cases e:l=i
 . subst e;rw[Mu.ai,a,h]
 rw[Mu.ah _ _ e]
def Qy{n pcs s i}(h:Mu.Inv n pcs s)(a:pcs i=.out):Mu.Inv n (Mu.set pcs i .iM) s:=by
 obtain⟨⟨m,c,d,f,g⟩,j,o⟩:=h;refine⟨⟨λl k=>?_,?_,?_,?_,?_⟩,j,λl k old sv b=>?_⟩
 . by_cases e:l=i
   . subst e;rw[Mu.ai];trivial
   rw[Mu.ah _ _ e];grind
 . rw[gK Mu.cr a rfl];exact c
 . rw[gK Mu.gn a rfl,gK Mu.cR a rfl,gK Mu.nE a rfl,gK Mu.du a rfl,gK Mu.cQ a rfl];exact d
 . rw[gK Mu.gn a rfl,gK Mu.cR a rfl,gK Mu.nE a rfl,gK Mu.du a rfl,gK Mu.cQ a rfl];exact f
 . rw[gK Mu.iN a rfl];exact g
 by_cases e:l=i
 . subst e;rw[Mu.ai]at b;cases b
 rw[Mu.ah _ _ e]at b;grind
def Ef{n pcs s i}(hi:i<n)(a:pcs i=.out):Mu.meas n (Mu.set pcs i .iM) s=Mu.meas n pcs s+(6*(18*n+1)+16):=by
 have C:=Mu.ia Mu.im pcs i .iM hi;have R:=Mu.ia (Mu.j9 s.w) pcs i .iM hi;rw[a]at C R;have b:Mu.im .out=0:=rfl;have c:Mu.im .iM=6:=rfl;have d:Mu.j9 s.w .out=0:=rfl;have e:Mu.j9 s.w .iM=16:=rfl;rw[b,c]at C;rw[d,e]at R;have f:Mu.phi n (Mu.set pcs i .iM) s=Mu.phi n pcs s+6:=by unfold Mu.phi;omega
 unfold Mu.meas
 grind
def MM(hj:j<n)(a:(s.w j).work=true)(b:x.work=true)(h:x.nd=(s.w j).nd)(c:(s.w j).pc=.out)(d:x.pc=.iM)(e:(s.w j).ex n=Co n)(f:x.ex n=0):MS.gX n (s.aZ j x s.sh) s:=by refine xe hj a b h ?_;rw[d,Ef hj c,e,f];unfold Co;omega
def bU.Zo(I:bU n s)(hj:j<n)(a:(s.w j).work=true)(b:x.work=true)(c:x.ok=true)(d:(s.w j).pc=.out)(e:x.pc=.iM):bU n (s.aZ j x s.sh):=I.work hj a b c (by rw[e];exact Qy I.mu d)
end
end
open Go.Conc
open Go.ConcN (sumTo upd sumTo_upd upd_ne upd_same)
section
variable{P:adT}{A:rO P}{Z:Base}{s s':A.S}{f f':Nat->Node P}{q q':adM}{kk kk':adS}{OO OO':adR}{J J' M M':adG}{gs:adp}{w w':World}{t u:Trace}{i:Nat}{g g1:adJ}
structure Beside(A:rO P)(s s':A.S)(f f':Nat->Node P)(q q':adM)(kk kk':adS)(OO OO':adR)(J J':adG)(w':World)(i:Nat)(g g1:adJ):Prop where
 ef:∀j,j≠i->f' j=f j
 eq:∀j,j≠i->q' j=q j
 ek:∀j,j≠i->j<A.top->kk' j=kk j
 eO:∀j,j≠i->j<A.top->OO' j=OO j
 eJ:∀j,j≠i->A.Live s j->J j->J' j
 live:∀j,j≠i->(A.Live s' j↔A.Live s j)
 walk:∀j,j≠i->(A.Walk s' j↔A.Walk s j)
 held:∀j,j≠i->(A.oI s' j↔A.oI s j)
 mo:∀j,j≠i->A.Live s j->A.mo s' j=A.mo s j
 at':∀j k O x,j≠i->A.Walk s j->A.At s j k O x->A.At s' j k O x
 deaf:∀j,j≠i->A.Walk s j->A.deaf s' j=A.deaf s j
 AR:∀j,j≠i->A.Walk s j->A.AR s j->A.AR s' j\/∀x,A.At s j (kk j) (OO j) x->woken P g g1 w' (blk x)=x
 UB:∀j k O x,j≠i->A.oI s j->A.F9 s j k O x->A.F9 s' j k O x
 tie:∀j x,j≠i->A.Live s j->A.Qg s j x->A.Qg s' j x
structure Self(P:adT)(A:rO P)(s':A.S)(f':Nat->Node P)(q':adM)(kk':adS)(OO':adR)(J':adG)(t':Trace)(i:Nat)(g1:adJ):Prop where
 live:A.Live s' i->i<A.top/\g1=(f' i).g/\(f' i).m=A.mo s' i/\(f' i).k=kk' i/\(f' i).O=OO' i/\(f' i).g.status=.running/\Deaf t' i=0/\(i=0\/J' i)/\A.Qg s' i (f' i)
 walk:A.Walk s' i -> ¬A.Live s' i/\i<A.top/\Deaf t' i=A.deaf s' i/\∃g',A.At s' i (kk' i) (OO' i) g'/\Mg P A.Wd (A.AR s' i) (q' i) g1 g'
 held:A.oI s' i -> ¬A.Live s' i/\¬A.Walk s' i/\i<A.top/\Deaf t' i=0/\g1.status=.blocked/\A.F9 s' i (kk' i) (OO' i) g1
 rest:¬A.Live s' i -> ¬A.Walk s' i -> ¬A.oI s' i->i≠0/\QuitsD P (q' i) (Deaf t' i) g1
def bJ.step(B:AS A)(v:bJ A Z s f q kk OO J M gs w t)(hi:gs[i]?=some g)(C:∀op∈u,op.g=i)(U:cE Z kk' OO' J' M' w' (t++u))(V:A.Ex s' kk' OO' J' M' gs.size w' (t++u))
 (W:∀j x,A.oI s j->A.F9 s j (kk j) (OO j) x->x.again w'=x) (hb:Beside A s s' f f' q q' kk kk' OO OO' J J' w' i g g1) (E:Self P A s' f' q' kk' OO' J' (t++u) i g1):
 bJ A Z s' f' q' kk' OO' J' M' ((gs.map (woken P g g1 w')).setIfInBounds i g1) w' (t++u):=by
 have X:i<gs.size:=(wS.1 hi).1;have F:=v.Qh B (i:=i) (a:=g) (a':=g1) (x:=g1) (w':=w') W;have p:((gs.map (woken P g g1 w')).setIfInBounds i g1)[i]?=some g1:=zj (by simp_all)
 have G:∀j,j≠i->Deaf (t++u) j=Deaf t j:=λj d=>Deaf_other t (wK d) _ C
 refine⟨v.lk,U,λj d=>?_,λj d=>?_,λj d=>?_,λj x I N O Q=>?_,λj d=>?_,by simp_all⟩
 . by_cases e:j=i
   . subst e
     obtain⟨l,n,m⟩:=E.live d
     simp_all
   have b:=(hb.live j e).1 d;obtain⟨l,n,pm,m,D,z,r,R⟩:=v.live j b;rw[hb.ef j e,hb.ek j e l,hb.eO j e l,G j e,hb.mo j e b];exact⟨l,F.live j e b,pm,m,D,z,r,R.1.imp id (hb.eJ j e b),hb.tie j _ e b R.2⟩
 . by_cases e:j=i
   . subst e
     obtain⟨l,n,m,g',D,z⟩:=E.walk d
     grind
   have b:=(hb.walk j e).1 d;obtain⟨l,n,m,x,Y,D,z,r⟩:=v.walk j b;refine⟨λh=>l ((hb.live j e).1 h),n,by rw[G j e,hb.deaf j e b];exact m,?_⟩
   rw[hb.ek j e n,hb.eO j e n,hb.eq j e];obtain⟨y,y',o,K,r3⟩:=F.walk j e b
   by_cases hd:∃x,A.AR s j/\y=blk x/\A.At s j (kk j) (OO j) x/\q j=0
   . obtain⟨x0,S,H,d3,d4⟩:=hd
     rcases hb.AR j e b S with h|h
     . exact⟨y,x0,o,hb.at' j _ _ _ e b d3,.inl ⟨h,H,d4⟩⟩
     have c:((gs.map (woken P g g1 w')).setIfInBounds i g1)[j]?=some (woken P g g1 w' x):=by grind
     obtain⟨T,a2⟩:=B.ly z
     rcases r with⟨_,rfl,_⟩|r
     . rw[h _ z]at c
       rw[c]at o;have:=abt o;rw[H]at this;have k:Y.status=.blocked:=by rw[this];rfl
       simp_all
     rw[woken_run (r.first T)]at c
     rw[c]at o;have hh:=abt o;have k:x.status=.blocked:=by rw[hh,H];rfl
     rw[r.first T]at k;cases k
   rcases r3 with⟨S,rfl,H⟩|r3
   . simp_all
   exact⟨y,y',o,hb.at' j _ _ _ e b K,.inr r3⟩
 . by_cases e:j=i
   . subst e
     obtain⟨l,n,m,D,z,r⟩:=E.held d
     simp_all
   have b:=(hb.held j e).1 d;obtain⟨l,n,m,D,_⟩:=v.held j b;obtain⟨x,o,K,r3⟩:=F.held j e b;refine⟨λh=>l ((hb.live j e).1 h),λh=>n ((hb.walk j e).1 h),m,by simp_all,x,o,K,?_⟩
   rw[hb.ek j e m,hb.eO j e m];exact hb.UB j _ _ _ e b r3
 . by_cases e:j=i
   . subst e
     rw[p]at I;obtain rfl:=abt I;exact E.rest N O Q
   rw[hb.eq j e,G j e];exact F.rest j x e I (λh=>N ((hb.live j e).2 h)) (λh=>O ((hb.walk j e).2 h)) (λh=>Q ((hb.held j e).2 h))
 have L:gs.size<=j:=by simp_all
 rw[G j (by omega)];exact v.above j L
end
def knows_own{t u i m op}(h:u[m]?=some op)(a:op.g=i):Knows (t++u) i (t.size+m):=⟨t.size+m,op,dH h,a,.inl rfl⟩
section
variable{Z:Base}{kk:adS}{OO:adR}{J M:adG}{w w':World}{t u:Trace}{i:Nat}
def Cr(kk:adS)(OO:adR)(B:Nat)(t:Trace)(i:Nat)(u:Trace):Prop:=∀op∈u,∀a,op.act.touch?=some a->a.kind=.atomic/\(a.loc.isMemory=true->L5 kk OO B a.loc)/\∀n b,touchAt t n=some b->b.loc=a.loc->b.kind=.plain->Knows t i n
def cE.RY(h:cE Z kk OO J M w t)(d:∀op∈u,op.g=i)(y:w'.heap.size=w.heap.size)(z:Calm Z w w')(hb:∀b,Kept kk OO w w' b)(A:∀op∈u,op.act.low w.heap.size)(q:Cr kk OO w.heap.size t i u)
 (l:∀m op a,u[m]?=some op->op.act.touch?=some a->a.loc.isMemory=true->Told Z J M (t++u) (t.size+m) a):cE Z kk OO J M w' (t++u):=
 h.uK (λa b=>a=b) y z hb A (λa b e n x _ _ _ B=>by subst e;exact B.app u) (λj b n v h=>⟨j,rfl,h⟩) (λj b s h=>⟨j,rfl,h⟩) (λj b x h=>⟨j,rfl,h,λ_ h=>h⟩) h.jR
  (fun said=>noRace_append (h.clean said) d λn a o op c b hb C=>by
    obtain⟨f,k,D⟩:=q op c b hb;obtain⟨E,_,_,F⟩:=C
    simp_all)
  (λop c a o r=>(q op c a o).2.1 r) l
  (λn a o r h=>h.elim (λ⟨j,f,k⟩=>.inr (.inl ⟨j,f,k.app _⟩)) (λ⟨p,f,k⟩=>.inr (.inr (.inl ⟨p,f,k.app _⟩))))
def cE.sync(h:cE Z kk OO J M w t)(hJ:i=0\/J i)(c:∀op∈u,op.g=i)(f:w'.heap.size=w.heap.size)(j:Calm Z w w')(hb:∀b,Kept kk OO w w' b)(k:∀op∈u,op.act.low w.heap.size)(l:Cr kk OO w.heap.size t i u):cE Z kk OO J M w' (t++u):=
 h.RY c f j hb k l λm op a d n o=>by
  have e:Knows (t++u) i (t.size+m):=knows_own d (c op (abF d));rcases hJ with rfl|hJ
  . exact .inl e
  . exact .inr (.inl ⟨i,hJ,e⟩)
end
section
variable{P:adT}{A:bQ}{Z:Base}{s:MS P}{kk:adS}{OO:adR}{J M:adG}{gsz:Nat}{w w':World}{t u:Trace}{j:Nat}{x:bu P}{sh:Mu.Sh}
def oR(hj:j<A.n)(h:x.busy=(s.w j).busy)  i :eI P A (s.aZ j x sh) i↔eI P A s i:=by
 have:∀l,((s.aZ j x sh).w l).busy=(s.w l).busy:=λl=>by
  by_cases e:l=j
  . subst e;rw[ba,h]
  . rw[cC e]
 unfold eI;simp only[this];rfl
def MN{a:Touch}{l ad}(h:zY A a.loc)(e:a.loc=.cell ad)(b:ad.block=A.fb/\ad.off=A.cell l):False:=by rw[e]at h;obtain⟨_,h⟩:=h;have:=A.d4;rw[b.1,b.2]at h;unfold bQ.cell at h;omega
def dq.Gp(h:dq P A Z s kk OO J M gsz w t){s':MS P}(d:A.dir=true->∀l,l<A.n->(s'.w l).iP=(s.w l).iP/\(s'.w l).owns=(s.w l).owns)(p:∀op∈u,∀a,op.act.touch?=some a->zY A a.loc):
 A.dir=true->∀j,j<A.n->((s'.w j).iP=false->(∀i,(kk i).cell A.fb (A.cell j)=none)/\∀m a ad,touchAt (t++u) m=some a->a.loc=.cell ad->ad.block=A.fb/\ad.off=A.cell j->m<Z.N0)/\((s'.w j).rel=true->(kk (A.b+j)).cell A.fb (A.cell j)=some (A.val j)):=λhd l c=>by
 obtain⟨q,r⟩:=d hd l c;rw[bu.rel,q,r];exact⟨λk=>⟨((h.zZ hd l c).1 k).1,λm a ad v e o=>(ez v).elim (λf=>((h.zZ hd l c).1 k).2 m a ad f.1 e o) (λ⟨op,g,f⟩=>(MN (p op g a f) e o).elim)⟩,(h.zZ hd l c).2⟩
def dq.yt(h:dq P A Z s kk OO J M gsz w t)(hj:j<A.n)(k:x.busy=(s.w j).busy)(E:x.owns=(s.w j).owns)(o:A.dir=true->x.iP=(s.w j).iP)(F:bU A.n (s.aZ j x sh))(p:ShM A.fb A.fo w' sh)
 (d:∀b,b≠A.fb->w'.heap[b]?=w.heap[b]?) (q:∃c e,w'.heap[A.fb]?=some (.cells c e (0,0))) (z:∀op∈u,(∀a,op.act.touch?=some a->a.kind=.atomic/\zY A a.loc)/\∀a,op.act≠.mark (.release a)):
 dq P A Z (s.aZ j x sh) kk OO J M gsz w' (t++u):=by
 have m:∀l,((s.aZ j x sh).w l).owns=(s.w l).owns:=λl=>by
  by_cases e:l=j
  . subst e;rw[ba,E]
  . rw[cC e]
 refine⟨F,h.size,h.dd,h.off,h.Gp (λhd l _=>⟨?_,m l⟩) (λop g a r=>((z op g).1 a r).2),λhd=>by rw[d _ A.d1];exact h.AZ hd,p,h.gr.same (.of_heap (d _ (wK A.d4))),q,by rw[d _ (wK A.d4)];exact h.Ai,h.ik,h.eV,λi y G=>?_,λl B v=>h.Aj l B (by simp_all),λv=>h.PQ λl B=>by simp_all,λc H=>?_,
  λi=>by rw[h.hJ i];exact(oR hj k i).symm,h.vU u,h.mY u,h.kM u (λop g a r _ I=>?_),h.oQ u (λop g a r _ I=>?_),h.qt u,h.jU u (λop g=>(z op g).2),h.Ec,h.tk,h.kq,h.fP,h.la,by simp;exact aaH h.n0 (abS _ _)⟩
 . by_cases e:l=j
   . subst e;rw[ba,o hd]
   . rw[cC e]
 . obtain⟨l,f,C,D,L,K⟩:=h.tok i y G
   exact⟨l,f,C,D,by simp_all,K⟩
 . obtain⟨C,D⟩:=h.PR c H
   simp_all
 . grind
 grind
def dq.work(h:dq P A Z s kk OO J M gsz w t)(hj:j<A.n)(k:(s.w j).work=true)(l:x.work=true)(m:x.owns=(s.w j).owns)(f:A.dir=true->x.iP=(s.w j).iP)(o:bU A.n (s.aZ j x sh))(g:ShM A.fb A.fo w' sh)
 (d:∀b,b≠A.fb->w'.heap[b]?=w.heap[b]?) (i:∃c e,w'.heap[A.fb]?=some (.cells c e (0,0))) (p:∀op∈u,(∀a,op.act.touch?=some a->a.kind=.atomic/\zY A a.loc)/\∀a,op.act≠.mark (.release a)):
 dq P A Z (s.aZ j x sh) kk OO J M gsz w' (t++u):=
 h.yt hj (by rw[(bH k).2.2.2.2.2.1,(bH l).2.2.2.2.2.1]) m f o g d i p
end
section
variable{P:adT}
def Ct {y s fr f l e cs} (b:FR y s fr) (h:bh s=some (f,l)) (c:Ext P f e):mayWake P (G fr cs)=true:=by
 obtain⟨ζ,i,μ,kk,o,as,d,g,p,j,q,a,r⟩:=dD b h;obtain⟨fn,k,t,u,v,w⟩:=c.ex;have m:fr.mode = .run:=by rw[a];rfl
 have n:fr.todo = .inRegion ζ (i :: μ) :: kk:=by rw[a];rfl
 unfold mayWake;simp only[G,m,n,g,abx,j,Frame.eval,k,Option.any_some]
 grind
def Jz{n b o τ cs g}(C:ib P n)(X:ig P n)(h:ow P n b o τ .give cs g):mayWake P g=true:=by
 obtain⟨c,y,fr,d,e,i,a,f,rfl⟩:=h;rcases e with rfl|rfl
 . exact Ct a (C.XV b o τ) X.oO
 exact Ct a (C.XW b o τ) X.oO
def oT{b o w w'}(h:MW b o w w')(a:∃c e,w.heap[b]?=some (.cells c e (0,0))):
 w'.heap.size=w.heap.size/\(∀r,r≠b->w'.heap[r]?=w.heap[r]?)/\∃c e c',w.heap[b]?=some (.cells c e (0,0))/\w'.heap[b]?=some (.cells c' e (0,0))/\c'.size=c.size/\∀n,n≠o->n≠o+1->c'[n]?=c[n]?:=by
 obtain⟨c,e,a⟩:=a;rcases h.2 with h|⟨i,v,f,g,h⟩
 . grind
 refine⟨by simp_all,λr d=>?_,c,e,c.setIfInBounds i v,a,?_,by simp,λn j k=>?_⟩
 . rw[h];simp only[World.setCell,abI,zA (wK d)]
 . rw[h];simp[World.setCell,abI,a]
 grind
end
section
variable{P:adT}{A:bQ}{Z:Base}{s:MS P}{kk:adS}{OO:adR}{J M:adG}{gsz:Nat}{w w':World}{t:Trace}{j:Nat}{x:bu P}{sh:Mu.Sh}
def dq.calm(h:dq P A Z s kk OO J M gsz w t)(a:MW A.fb A.fo w w'):Calm Z w w':=by obtain⟨d,c,_⟩:=oT a h.uV;have:=h.fP.2.1;exact⟨a.1,λb hb=>c b (by omega)⟩
def dq.kept(h:dq P A Z s kk OO J M gsz w t)(a:MW A.fb A.fo w w'):∀b,Kept kk OO w w' b:=λb=>by
 obtain⟨u,d,c,e,f,j,k,l,v⟩:=oT a h.uV;by_cases hb:b=A.fb
 . subst hb
   refine .inr (.inr ⟨c,f,e,j,k,l,λi x m=>by obtain⟨_,g,_,_,_,rfl,o⟩:=h.tok i x m;exact⟨g,rfl,λn p=>by have:=(o n p).2;unfold bQ.cell at this;grind⟩,λn=>?_⟩);by_cases q:n=A.fo
   . subst q;exact .inr λi=>(h.eV i).1
   by_cases r:n=A.fo+1
   . subst r;exact .inr λi=>(h.eV i).2.1
   simp_all
 exact .inl (d b hb)
def dq.VP(h:dq P A Z s kk OO J M gsz w t){n}(a:n=A.fo\/n=A.fo+1):L5 kk OO w.heap.size (.cell ⟨A.fb,n,none⟩):=by
 have b:A.fb<w.heap.size:=by obtain⟨c,e,f⟩:=h.uV;grind
 refine⟨b,λi=>⟨λd=>?_,?_⟩⟩
 . obtain⟨_,_,_,_,e⟩:=h.Qx d
   have e:n=A.fo+2+_:=e;omega
 rcases a with rfl|rfl
 . exact(h.eV i).1
 exact(h.eV i).2.1
def oa{b o e}(d:(e.loc=.mark .disable\/e.loc=.mark .enable)\/∃i,(i=o\/i=o+1)/\e.loc=.cell ⟨b,i,none⟩/\e.sync=true):
 (∀a,(MemAct.ofEvent e).touch?=some a->a.kind=.atomic/\∃i,(i=o\/i=o+1)/\a.loc=.cell ⟨b,i,none⟩)/\(∀a,MemAct.ofEvent e≠.mark (.release a))/\∀B,b<B->(MemAct.ofEvent e).low B:=by
 obtain⟨loc,wr,j⟩:=e;rcases d with(h|h)|⟨i,k,h,c⟩
 . simp only at h;subst h
   simp[MemAct.ofEvent,MemAct.touch?,MemAct.low]
 . simp only at h;subst h
   simp[MemAct.ofEvent,MemAct.touch?,MemAct.low]
 simp only at h c;subst h;subst c;refine⟨λa f=>?_,by simp[MemAct.ofEvent],λB g=>by simpa[MemAct.ofEvent,MemAct.low,Loc.low]using g⟩;simp only[MemAct.ofEvent,MemAct.touch?,kn]at f
 grind
def dq.MO(h:dq P A Z s kk OO J M gsz w t){es}(p:EvM A.fb A.fo es){i}(hi:bX P A s i)  fn   pos :
 Cr kk OO w.heap.size t i (MemOp.ofEvents i fn pos es)/\(∀op∈MemOp.ofEvents i fn pos es,op.act.low w.heap.size)/\∀op∈MemOp.ofEvents i fn pos es,(∀a,op.act.touch?=some a->a.kind=.atomic/\zY A a.loc)/\∀a,op.act≠.mark (.release a):=by
 have v:A.fb<w.heap.size:=by obtain⟨c,e,f⟩:=h.uV;grind
 refine⟨λop d a k=>?_,λop d=>?_,λop d=>?_⟩<;>obtain⟨e,l,rfl⟩:=za d<;>obtain⟨o,q,x⟩:=oa (p e l)
 . obtain⟨f,n,g,j⟩:=o a k
   refine⟨f,λ_=>by rw[j];exact h.VP g,λm b hb r u=>h.quiet m b hb ?_ u i hi⟩
   rw[r,j];exact⟨rfl,.inl ⟨rfl,g⟩⟩
 . grind
 refine⟨λa k=>?_,q⟩
 obtain⟨f,n,g,j⟩:=o a k;exact⟨f,by rw[j];exact⟨rfl,.inl ⟨rfl,g⟩⟩⟩
end
structure fQ{P}(A:bQ)(s s':MS P)  i :Prop where
 w:∀l,l<A.n->A.b+l≠i->s'.w l=s.w l
 c:i≠A.cl->s'.c=s.c
 ms:i≠0->s'.ms=s.ms
 sp:s'.sp=s.sp
 d:s'.d=s.d
 iY:(∀l,l<A.n->(s'.w l).iY=(s.w l).iY)\/((dL P A s 0->∃m,s.ms=.add m\/s.ms=.spawn m)/\s.ms≠.parked)
section
variable{P:adT}{A:bQ}{Fin:adl}{Z:Base}{s s':MS P}{f f':Nat->Node P}{q q':adM}{kk kk':adS}{OO OO':adR}{J J' M:adG}{gs:adp}{gsz:Nat}{w w':World}{t u:Trace}{i:Nat}{g g1:adJ}
def yu(h:∀l,l<A.n->(s'.w l).iY=(s.w l).iY):MS.rem P A.n s'=MS.rem P A.n s:=by unfold MS.rem;exact abV λl a=>by grind
def fQ.live(h:fQ A s s' i){j}(hj:j≠i):dL P A s' j↔dL P A s j:=by
 constructor<;>rintro(⟨b,a⟩|⟨l,a,d,f⟩|⟨b,a⟩)
 . exact .inl ⟨b,by rw[<-h.ms (λe=>hj (b.trans e.symm))];exact a⟩
 . exact .inr (.inl ⟨l,a,d,by rw[<-h.w l a (λe=>hj (d.trans e))];exact f⟩)
 . exact .inr (.inr ⟨b,by rw[<-h.c (λe=>hj (b.trans e.symm))];exact a⟩)
 . exact .inl ⟨b,by rw[h.ms (λe=>hj (b.trans e.symm))];exact a⟩
 . exact .inr (.inl ⟨l,a,d,by rw[h.w l a (λe=>hj (d.trans e))];exact f⟩)
 exact .inr (.inr ⟨b,by rw[h.c (λe=>hj (b.trans e.symm))];exact a⟩)
def fQ.walk(h:fQ A s s' i){j}(hj:j≠i):ij P A s' j↔ij P A s j:=by
 constructor<;>rintro(⟨b,a⟩|⟨l,a,d,f⟩|⟨b,a⟩)
 . exact .inl ⟨b,by rw[<-h.ms (λe=>hj (b.trans e.symm))];exact a⟩
 . exact .inr (.inl ⟨l,a,d,by rw[<-h.w l a (λe=>hj (d.trans e))];exact f⟩)
 . exact .inr (.inr ⟨b,by rw[<-h.c (λe=>hj (b.trans e.symm))];exact a⟩)
 . exact .inl ⟨b,by rw[h.ms (λe=>hj (b.trans e.symm))];exact a⟩
 . exact .inr (.inl ⟨l,a,d,by rw[h.w l a (λe=>hj (d.trans e))];exact f⟩)
 exact .inr (.inr ⟨b,by rw[h.c (λe=>hj (b.trans e.symm))];exact a⟩)
def fQ.held(h:fQ A s s' i){j}(hj:j≠i):fS P A s' j↔fS P A s j:=by
 constructor<;>rintro(⟨b,a⟩|⟨l,a,c,d⟩)
 . exact .inl ⟨b,by rw[<-h.ms (λe=>hj (b.trans e.symm))];exact a⟩
 . exact .inr ⟨l,a,c,by rw[<-h.w l a (λe=>hj (c.trans e))];exact d⟩
 . exact .inl ⟨b,by rw[h.ms (λe=>hj (b.trans e.symm))];exact a⟩
 exact .inr ⟨l,a,c,by rw[h.w l a (λe=>hj (c.trans e))];exact d⟩
def mC  K  (t:fQ A s s' i) (L:∀j,j≠i->f' j=f j) (M:∀j,j≠i->q' j=q j) (N:∀j,j≠i->j<A.b+A.n+1->kk' j=kk j) (Q:∀j,j≠i->j<A.b+A.n+1->OO' j=OO j) (R:∀j,j≠i->J j->J' j)
 (o:((s.sh.ms=0->s'.sh.ms=0)/\(s.gm=0->s'.gm=0))\/(mayWake P g=true/\(g1.status=.running\/g1.status=.finished))) (S:∀{i k O y},VO P A Fin s i k O y->y.status=.running/\y.offers=none):
 Beside (cj P A Fin Z K) s s' f f' q q' kk kk' OO OO' J J' w' i g g1:=by
 have hb:=A.hb;have wl:∀{j l:Nat},l<A.n->j≠i->j=A.b+l->s'.w l=s.w l:=λ{j l} E a e=>t.w l E (λh=>a (e.trans h))
 have x:∀{j:Nat},j≠i->j=0->s'.ms=s.ms:=λa e=>t.ms (λh=>a (e.trans h.symm))
 have H:∀{j:Nat},j≠i->j=A.cl->s'.c=s.c:=λa e=>t.c (λh=>a (e.trans h.symm))
 refine⟨L,M,N,Q,λj a _ h=>R j a h,λj a=>t.live a,λj a=>t.walk a,λj a=>t.held a,λj a E=>?_,λj k O y a _ F=>?_,λj a I=>?_,λj a I hd=>?_,λj k O y a T F=>?_,λj y a _ U=>?_⟩
 . show cK P A Fin s' j=cK P A Fin s j
   unfold cK;by_cases d:j=0
   . rcases t.iY with u|⟨u,_⟩
     . simp only[zR d,x a d,yu u]
     subst d;obtain⟨m,e|e⟩:=u E<;>simp only[Rp,x a rfl,e]
   rcases E with⟨G,_⟩|⟨l,p,r,_⟩|⟨G,_⟩
   . omega
   . have e:j-A.b=l:=by omega
     grind
   grind
 . rcases F with⟨d,h⟩|⟨l,p,r,B⟩|⟨d,h⟩
   . exact .inl ⟨d,by grind⟩
   . exact .inr (.inl ⟨l,p,r,by grind⟩)
   exact .inr (.inr ⟨d,by grind⟩)
 . show dW P A s' j=dW P A s j
   unfold dW;rcases I with⟨d,h1⟩|⟨l,p,r,_⟩|⟨d,_⟩
   . grind
   . grind
   grind
 . rcases o with⟨o,v⟩|⟨hm,u⟩
   . refine .inl ?_
     rcases hd with⟨l,sv,Y,p,r,B,C⟩|⟨d,B,C⟩
     . exact .inl ⟨l,sv,Y,p,r,by grind,o C⟩
     exact .inr ⟨d,by grind,v C⟩
   refine .inr λy V=>?_
   obtain⟨W,a2⟩:=S V;have H:(mayWake P g && g1.status !=.blocked && g1.status !=.waiting)=true:=by grind
   unfold Go.Conc.woken;rw[zR H,AT W a2]
 . rcases F with⟨d,D,z,p,r,B,C⟩|h
   . rcases t.iY with u|⟨_,u⟩
     . exact .inl ⟨d,D,z,p,r,B,by rw[yu u];exact C⟩
     rcases T with⟨_,h7⟩|⟨l,_,h7,_⟩
     . simp_all
     omega
   exact .inr h
 exact λl b X p r B=>U l b X p r (by grind)
variable{j:Nat}{x:bu P}{sh:Mu.Sh}
def yt(hj:j<A.n)(h:x.iY=(s.w j).iY\/((dL P A s 0->∃m,s.ms=.add m\/s.ms=.spawn m)/\s.ms≠.parked)):fQ A s (s.aZ j x sh) (A.b+j):=⟨λl _ a=>cC (by omega),λ_=>rfl,λ_=>rfl,rfl,rfl,h.imp_left λh l _=>by
 by_cases e:l=j
 . subst e;rw[ba,h]
 rw[cC e]⟩
def qu  c  (hj:j<A.n) (d:x.iY=(s.w j).iY) (e:∀i,i≠A.b+j->f' i=f i) (l:∀i,i≠A.b+j->q' i=q i) (m:∀i,i≠A.b+j->i<A.b+A.n+1->kk' i=kk i) (o:∀i,i≠A.b+j->i<A.b+A.n+1->OO' i=OO i) (p:∀i,i≠A.b+j->J i->J' i)
 (a:(s.sh.ms=0->sh.ms=0)\/(mayWake P g=true/\g1.status=.running)) (r:∀{i k O y},VO P A Fin s i k O y->y.status=.running/\y.offers=none):
 Beside (cj P A Fin Z c) s (s.aZ j x sh) f f' q q' kk kk' OO OO' J J' w' (A.b+j) g g1:=
 mC c (yt hj (.inl d)) e l m o p (a.imp (λh=>⟨h,id⟩) λh=>⟨h.1,.inl h.2⟩) r
def mZ  c  (hj:j<A.n) (d:(s.w j).work=true) (e:x.work=true) (h:∀i,i≠A.b+j->f' i=f i) (l:∀i,i≠A.b+j->q' i=q i) (m:∀i,i≠A.b+j->i<A.b+A.n+1->kk' i=kk i) (o:∀i,i≠A.b+j->i<A.b+A.n+1->OO' i=OO i) (p:∀i,J i->J' i)
 (a:(s.sh.ms=0->sh.ms=0)\/(mayWake P g=true/\g1.status=.running)) (r:∀{i k O y},VO P A Fin s i k O y->y.status=.running/\y.offers=none):
 Beside (cj P A Fin Z c) s (s.aZ j x sh) f f' q q' kk kk' OO OO' J J' w' (A.b+j) g g1:=
 qu c hj (by rw[(bH e).2.2.1,(bH d).2.2.1]) h l m o (λi _=>p i) a r
end
def bu.kN{P}:bu P->Bool
 |.lk ..=>true|.un ..=>true|_=>false
def jr{P}{x:bu P}(h:x.kN=true):x.work=true:=by cases x<;>simp_all [bu.kN,bu.work]
section
variable{P:adT}{A:bQ}{Fin:adl}{Z:Base}{s:MS P}{f:Nat->Node P}{q:adM}{kk:adS}{OO:adR}{J M:adG}{gs:adp}{w w':World}{t:Trace}{j:Nat}{x:bu P}{sh:Mu.Sh}{g g1:adJ}
def xf(hj:j<A.n)(h:(s.w j).busy=true):eI P A s (A.b+j):=.inl ⟨j,hj,rfl,h⟩
def iZ(I:bU A.n s)(hj:j<A.n)(h:(s.w j).jT=false):bX P A s (A.b+j):=by
 refine .inr (.inl ⟨j,?_,rfl⟩);have:=I.idle j hj
 simp_all
def js(hj:j<A.n)(h:(s.w j).kN=true):ij P A s (A.b+j):=.inr (.inl ⟨j,hj,rfl,by cases e:s.w j<;>simp_all [bu.kN]⟩)
def m5(hj:j<A.n)(h:(s.w j).kN=true):¬dL P A s (A.b+j):=by
 have:=A.hb;rintro(⟨e,_⟩|⟨l,a,c,d⟩|⟨e,_⟩)
 . omega
 . obtain rfl:l=j:=by omega
   cases e:s.w l<;>simp_all [bu.kN]
 . omega
def qv(hj:j<A.n)(h:(s.w j).kN=true):¬fS P A s (A.b+j):=by
 have:=A.hb;rintro(⟨e,_⟩|⟨l,c,d,a⟩)
 . omega
 . obtain rfl:l=j:=by omega
   rw[a]at h;cases h
def fC(hj:j<A.n):dW P A s (A.b+j)=(s.w j).deaf:=by
 have:=A.hb;unfold dW
 grind
def Eg  u  (L:bJ (cj P A Fin Z u) Z s f q kk OO J M gs w t) (hj:j<A.n) (K:(s.w j).work=true){d}(N:Deaf t (A.b+j)=d) (Q:¬fS P A s (A.b+j)) (h2:x.kN=true) (ho:x.owns=(s.w j).owns) (R:A.dir=true->x.iP=(s.w j).iP) (hI:bU A.n (s.aZ j x sh)) (hL:MS.gX A.n (s.aZ j x sh) s)
 (hg:gs[A.b+j]?=some g){es}(S:stepG P false g w=.go g1 w' es) (o:MW A.fb A.fo w w') (T:ShM A.fb A.fo w' sh) (U:EvM A.fb A.fo es) (hd:deafBehind d es=x.deaf)
 (hs:∃n g',jI P (lG A) n g1 g'/\Io P A j x (kk (A.b+j)) (OO (A.b+j)) g') (v:(s.sh.ms=0->sh.ms=0)\/(mayWake P g=true/\g1.status=.running))  sl :
 ∃ζ m',runT P (crowd gs w sl) (A.b+j)=(.next m',ζ)/\∃s' f' q' kk' OO' J' M' gs' z V,m'=crowd gs' z V/\MS.gX A.n s' s/\bJ (cj P A Fin Z u) Z s' f' q' kk' OO' J' M' gs' z (t++ζ):=by
 obtain⟨n,g',C,W⟩:=hs;have hb:=A.hb;have B:=bq (P:=P) (A:=A) (Fin:=Fin) (Z:=Z) u;have w2:=jr h2;have p:dq P A Z s kk OO J M gs.size w t:=L.ex;have X:(A.b+j==0)=false:=by simp;omega
 have D:=runT_crowd_go (P:=P) (sl:=sl) (i:=A.b+j) hg (by rw[X];exact S)
 have E:bX P A s (A.b+j):=iZ p.I hj (bH K).2.2.2.2.1;obtain⟨y1,y2,y3⟩:=p.MO U E g.frame.fn g.frame.place;have m:∀op∈MemOp.ofEvents (A.b+j) g.frame.fn g.frame.place es,op.g=A.b+j:=λop Y=>by obtain⟨e,_,rfl⟩:=za Y;rfl
 obtain⟨m1,m2,c,e,c',m3,m4,_⟩:=oT o p.uV;have hP:=L.cX.sync (i:=A.b+j) (.inr ((p.hJ _).2 (xf hj (bH K).2.2.2.2.2.1))) m m1 (p.calm o) (p.kept o) y2 y1;have F:dq P A Z (s.aZ j x sh) kk OO J M gs.size w' (t++MemOp.ofEvents (A.b+j) g.frame.fn g.frame.place es):=p.work hj K w2 ho R hI T m2 ⟨c',e,m4⟩ y3
 have r:Beside (cj P A Fin Z u) s (s.aZ j x sh) f f q (upd q (A.b+j) n) kk kk OO OO J J w' (A.b+j) g g1:=mZ u hj K w2 (λ_ _=>rfl) (λi hi=>upd_ne q n hi) (λ_ _ _=>rfl) (λ_ _ _=>rfl) (λ_ h=>h) v (λ{i k O y} hA=>B.ly (s:=s) (i:=i) (k:=k) (O:=O) (g:=y) hA)
 have a:((s.aZ j x sh).w j).kN=true:=by rw[ba];exact h2
 refine⟨_,_,D,s.aZ j x sh,f,upd q (A.b+j) n,kk,OO,J,M,_,_,_,rfl,hL,?_⟩;refine bJ.step B L hg m hP F (λl y G hA=>?_) r ⟨λG=>absurd G (m5 hj a),λ_=>⟨m5 hj a,?_,?_,g',?_,?_⟩,λhh=>absurd hh (qv hj a),λ_ hn _=>absurd (js hj a) hn⟩
 . have H:l≠A.b+j:=λe=>Q (e ▸ G)
   exact B.tv F ((r.held l H).2 G) _ _ (r.UB l _ _ _ H G hA)
 . show A.b+j<A.b+A.n+1;omega
 . rw[Deaf_own,N]
   show deafBehind d es=dW P A (s.aZ j x sh) (A.b+j);rw[fC hj,ba];exact hd
 . exact .inr (.inl ⟨j,hj,rfl,by rw[ba];exact W⟩)
 . exact .inr (by rw[upd_same];exact C)
def yv  d  (u:bJ (cj P A Fin Z d) Z s f q kk OO J M gs w t) (hj:j<A.n) (e:(s.w j).kN=true) (y:x.kN=true) (z:x.owns=(s.w j).owns) (h:A.dir=true->x.iP=(s.w j).iP) (B:bU A.n (s.aZ j x sh)) (C:MS.gX A.n (s.aZ j x sh) s)
 (D:gs[A.b+j]?=some g){es}(i:stepG P false g w=.go g1 w' es) (k:MW A.fb A.fo w w') (l:ShM A.fb A.fo w' sh) (m:EvM A.fb A.fo es) (hd:deafBehind (s.w j).deaf es=x.deaf)
 (E:∃n g',jI P (lG A) n g1 g'/\Io P A j x (kk (A.b+j)) (OO (A.b+j)) g') (a:(s.sh.ms=0->sh.ms=0)\/(mayWake P g=true/\g1.status=.running))  sl :
 ∃ζ v,runT P (crowd gs w sl) (A.b+j)=(.next v,ζ)/\∃s' f' q' kk' OO' J' M' gs' c o,v=crowd gs' c o/\MS.gX A.n s' s/\bJ (cj P A Fin Z d) Z s' f' q' kk' OO' J' M' gs' c (t++ζ):=by
 have p:=js (P:=P) (A:=A) (s:=s) hj e;obtain⟨_,_,r,_⟩:=u.walk _ p;exact Eg d u hj (jr e) (r.trans (fC hj)) (qv hj e) y z h B C D i k l m hd E a sl
end
namespace Mu
section
variable{n:Nat}{pcs:Nat->Pc}{s:Sh}{i:Nat}
def Qz{f:Pc->Nat}(h:∀p,f p<=1)(pcs:Nat->Pc)  n :fX n (λi=>f (pcs i))<=n:=by
 have:=F8 (f:=λi=>f (pcs i)) (c:=1) (λi=>h _) n;omega
def Inv.Yg(h:Inv n pcs s):s.w.N<=n+1/\s.ms<=1:=by
 have b:=Qz (f:=cQ) (λp=>by cases p<;>simp[cQ]) pcs n
 cases e:s.w.S with
 | false=>
   obtain⟨c,_,a⟩:=h.j2 e;have:s.w.K.toNat<=1:=by cases s.w.K<;>simp
   omega
 | true=>
   obtain⟨_,_,a,d⟩:=h.j3 e;have:(!s.w.L).toNat<=1:=by cases s.w.L<;>simp
   omega
def Inv.QA(h:Inv n pcs s)(hi:i<n)(a:pcs i=.held):s.w.L=true:=by
 have:cr (pcs i)<=fX n (λj=>cr (pcs j)):=jq (λj=>cr (pcs j)) hi;rw[h.j1,a,show cr .held=1 from rfl]at this
 grind
def Inv.S3(h:Inv n pcs s)(hi:i<n){old sv}(a:pcs i=.add old sv):s.w.L=false/\s.w.S=true/\s.w.N≠0:=by
 have:du (pcs i)<=fX n (λj=>du (pcs j)):=jq (λj=>du (pcs j)) hi;rw[a,show du (.add old sv)=1 from rfl]at this;cases e:s.w.S with
 |false=>obtain⟨_,b,_⟩:=h.j2 e;omega
 | true=>
   obtain⟨_,_,c,d⟩:=h.j3 e
   grind
end
def Cu:Pc->Bool
 |.rd _=>true|.sq ..=>true|.sw ..=>true|.kU ..=>true|.il _=>true|.tq=>true|.up _=>true|.add ..=>true|.held=>true|_=>false
def Gq:Pc->Bool
 |.out=>true|.jH _=>true|.wG=>true|.give=>true|_=>false
def RZ  old   l :Cu (nx old l)=true:=by unfold nx;split<;>rfl
def VQ{old l p}(h:p∈hd old l):Cu p=true:=by
 unfold hd at h;rw[KD]at h;rcases h with h|h
 . split at h
   . rw[lb]at h;subst h;split<;>rfl
   cases h
 rw[lb]at h;subst h;rfl
def VR{p q s s'}(b:p=.iM\/(Cu p=true/\p≠.held))(h:(q,s')∈mv p s)(e:q≠.bad):Cu q=true:=by
 rcases b with rfl|⟨b,c⟩
 . simp only[mv]at h
   split at h<;>(rw[lb,yb]at h;obtain⟨rfl,rfl⟩:=h;rfl)
 cases p<;>simp only[Cu,zs]at b
 case rd l=>simp only[mv,lb,yb]at h;obtain⟨rfl,rfl⟩:=h;exact RZ _ _
 case sq old l=>simp only[mv,zU,yb]at h;obtain⟨a,d,rfl,rfl⟩:=h;exact VQ d
 case sw old l=>simp only[mv]at h;split at h<;>(rw[lb,yb]at h;obtain⟨rfl,rfl⟩:=h;rfl)
 case kU old l=>
  simp only[mv]at h;split at h
  . simp_all
  split at h
  . rw[lb,yb]at h;obtain⟨rfl,rfl⟩:=h;split<;>rfl
  rw[lb,yb]at h;obtain⟨rfl,rfl⟩:=h;rfl
 case il sv=>
  simp only[mv]at h;split at h
  . cases h
  rw[lb,yb]at h;obtain⟨rfl,rfl⟩:=h;split<;>rfl
 case tq=>
  simp only[mv,aaM,yb,acu,or_false]at h;rcases h with⟨rfl,rfl⟩|⟨rfl,rfl⟩<;>rfl
 case up sv=>
  simp only[mv]at h;split at h
  . split at h
    . simp_all
    rw[lb,yb]at h;obtain⟨rfl,rfl⟩:=h;rfl
  rw[lb,yb]at h;obtain⟨rfl,rfl⟩:=h;exact RZ _ _
 case add old sv=>simp only[mv,lb,yb]at h;obtain⟨rfl,rfl⟩:=h;rfl
 simp_all
def VS{p q s s'}(a:p=.held\/(Gq p=true/\p≠.out))(h:(q,s')∈mv p s)(c:q≠.bad):Gq q=true:=by
 rcases a with rfl|⟨a,b⟩
 . simp only[mv]at h
   split at h
   . simp_all
   rw[lb,yb]at h;obtain⟨rfl,rfl⟩:=h;split
   . rfl
   split
   . rfl
   split<;>rfl
 cases p<;>simp only[Gq,zs]at a
 case out=>simp_all
 case jH old=>simp only[mv]at h;split at h<;>(rw[lb,yb]at h;obtain⟨rfl,rfl⟩:=h;rfl)
 case wG=>simp only[mv,lb,yb]at h;obtain⟨rfl,rfl⟩:=h;split<;>rfl
 case give=>simp only[mv,lb,yb]at h;obtain⟨rfl,rfl⟩:=h;rfl
def R3{p q s s'}(b:p≠.give)(h:(q,s')∈mv p s)(a:s.ms=0):s'.ms=0:=by
 cases p<;>simp only[mv]at h
 case out=>cases h
 case bad=>cases h
 case give=>simp_all
 case sq=>grind
 case tq=>grind
 all_goals repeat' split at h
 all_goals first
  |(cases h;done)
  |(rw[lb,yb]at h;obtain⟨_,rfl⟩:=h;first|exact a|(show s.ms-1=0;omega))
end Mu
def uW:Cg->Bool
 |.iM=>true|.rd _=>true|.sq ..=>true|.sw ..=>true|.kU ..=>true|.il _=>true|.tq=>true|.up _=>true|.add ..=>true|.held=>true|.jH _=>true|.wG=>true|.give=>true
 |_=>false
def MP{q p}(h:To q p):p.abs=q:=by cases h<;>rfl
def VT{q p}(h:To q p)(a:Mu.Cu q=true):Ea p=true/\p≠.ld/\p≠.la:=by cases h<;>simp_all [Mu.Cu,Ea]
def VU{q p}(h:To q p)(a:Mu.Gq q=true):Ah p=true/\p≠.H6/\p≠.ur/\p≠.ud:=by cases h<;>simp_all [Mu.Gq,Ah]
def MQ{q p}(h:To q p):q≠.bad:=by cases h<;>simp
section
variable{P:adT}{nm:DW}(C:ib P nm)(X:ig P nm){n:Nat}{pcs:Nat->Mu.Pc}{s:Mu.Sh}{i:Nat}{p:Cg}{b o:Nat}{τ:adP}{Wd:adz}{cs:adE}{g:adJ}{w:World}{main:Bool}
include C X in
def Eh(I:Mu.Inv n pcs s)(hi:i<n)(v:n<=900)(c:pcs i=p.abs)(f:uW p=true)(a:ShM b o w s)(h:ow P nm b o τ p cs g):
 mr P nm b o τ Wd cs g w main p.abs s\/((∃sv,p=.il sv)/\s.ms=0/\stepG P main g w=.go {g with status:=.blocked} w #[]):=by
 obtain⟨x,k⟩:=I.Yg;have hb:s.w.N<=1000:=by omega
 have j:∀{q s'},(q,s')∈Mu.mv (pcs i) s->Mu.loc q:=λ{q s'} f=>by
  have:=(I.step hi f).j0 i hi
  rwa [Mu.ai]at this
 have d:Mu.loc (pcs i):=I.j0 i hi;rw[c]at j d;cases p<;>simp only[uW,zs]at f
 case iM=>exact .inl (Jp C X a h)
 case rd l=>exact .inl (Qm C X a hb (j (q:=Mu.nx s.w l) (s':=s) (by simp[Cg.abs,Mu.mv])) h)
 case sq old l=>exact .inl (Qn C X a d h)
 case sw old l=>exact .inl (Qo C X a d h)
 case kU old l=>exact .inl (Mx C X a d h)
 case il sv=>
  by_cases e:s.ms=0
  . exact .inr ⟨⟨sv,rfl⟩,e,D9 C X a e h⟩
  exact .inl (Jq C X a e h)
 case tq=>exact .inl (Qp C X a h)
 case up sv=>exact .inl (Qq C X a hb (λq s' m=>j m) h)
 case add old sv=>obtain⟨r,t,u⟩:=I.S3 hi c;exact .inl (My C X a hb r t u h)
 case held=>exact .inl (Jr C X a hb (I.QA hi c) h)
 case jH old=>exact .inl (Js C X a h)
 case wG=>exact .inl (Mz C X a hb h)
 case give=>exact .inl (Jt C X a (by omega) h)
end
section
variable{P:adT}{A:bQ}{Fin:adl}{Z:Base}{s:MS P}{f:Nat->Node P}{q:adM}{kk:adS}{OO:adR}{J M:adG}{gs:adp}{w:World}{t:Trace}{j:Nat}{g:adJ}
def Goes  P  (A:bQ) (Fin:adl) (Z:Base) (f:A.b+A.n+1<=Z.lk) (s:MS P) (gs:adp) (w:World) (t:Trace) (sl:adn) (i:Nat):Prop:=∃ζ e,runT P (crowd gs w sl) i=(.next e,ζ)/\∃s' f' q' kk' OO' J' M' a c d,e=crowd a c d/\MS.gX A.n s' s/\bJ (cj P A Fin Z f) Z s' f' q' kk' OO' J' M' a c (t++ζ)
def Gr  P  (A:bQ) (s:MS P) (gs:adp) (w:World) (sl:adn) (i:Nat) (g:adJ):Prop:=SX P A s i/\runT P (crowd gs w sl) i=(.next (crowd (gs.setIfInBounds i (blk g)) w sl),#[])
def Ei(e:gs[A.b+j]?=some g)(a:stepG P false g w=.go {g with status:=.blocked} w #[])  sl :runT P (crowd gs w sl) (A.b+j)=(.next (crowd (gs.setIfInBounds (A.b+j) (blk g)) w sl),#[]):=by
 have hb:=A.hb;have c:(A.b+j==0)=false:=by simp;omega
 have h:=runT_crowd_go (P:=P) (sl:=sl) (i:=A.b+j) e (by rw[c];exact a)
 have d:woken P g {g with status:=.blocked} w=id:=funext λo=>by unfold Go.Conc.woken;simp
 rw[d,Array.map_id]at h;exact h
variable(C:ib P A.nm)(X:ig P A.nm)
include C X in
def QB  G  (H:bJ (cj P A Fin Z G) Z s f q kk OO J M gs w t) (hj:j<A.n){p Y}(a:s.w j=.lk p Y) (K:gs[A.b+j]?=some g) (V:Io P A j (.lk p Y) (kk (A.b+j)) (OO (A.b+j)) g) (W:p≠.la)  sl :
 Goes P A Fin Z G s gs w t sl (A.b+j)\/Gr P A s gs w sl (A.b+j) g:=by
 have m:dq P A Z s kk OO J M gs.size w t:=H.ex;have a7:Ea p=true:=by have:=m.I.ok j hj;rw[a]at this;exact this
 have L:(s.w j).kN=true:=by rw[a];rfl
 have v:=jr L;have l:(s.w j).pc=p.abs:=by rw[a];rfl
 have hn:=A.hn;have hb:=A.hb;have aC:(A.b+j==0)=false:=by simp;omega
 obtain⟨τ,c,μ,e,Q,R,S,T,o,r,U⟩:=V
 by_cases N:uW p=true
 . rcases Eh (Wd:=lG A) (main:=false) C X m.I.mu hj hn l N m.mu R with⟨g1,w',es,qq,s',z,i,B,D,⟨hr,E,⟨k,d⟩,F⟩,a8,a9,ad,al⟩|⟨⟨sv,rfl⟩,u,i⟩
   . left
     have av:Mu.Cu qq=true:=Mu.VR (by cases p<;>simp_all [Ea,uW,Cg.abs,Mu.Cu]) B (MQ D)
     obtain⟨k1,k2,k3⟩:=VT D av;have y:((bu.lk z Y).pc,s')∈Mu.mv (s.w j).pc s.sh:=by rw[l,show(bu.lk z Y).pc=z.abs from rfl,MP D];exact B
     have ax:(s.w j).deaf=1:=by rw[a];cases p<;>simp_all [bu.deaf,uW,Ea]
     have ay:(bu.lk z Y).deaf=1:=by cases z<;>simp_all [bu.deaf]
     refine yv (x:=.lk z Y) G H hj L rfl (by rw[a];rfl) (λ_=>by rw[a];rfl) (m.I.mv hj v rfl k1 y) (Iq m.I hj v rfl (by rw[a];rfl) y ?_) K i a8 a9 ad (by rw[al,ax,ay]) ⟨k,E,d,τ,c,μ,e,Q,F,S,T,o,r,U⟩ (.inl λu=>Mu.R3 ?_ B u) sl
     . cases z<;>simp_all [bu.ex]
     cases p<;>simp_all [uW,Ea,Cg.abs]
   right;exact⟨.inl ⟨j,sv,Y,hj,rfl,a,u⟩,Ei K i sl⟩
 cases p<;>simp only[uW,Ea,not_true_eq_false,zs]at N a7
 case ld=>obtain⟨g1,i,hr,E,⟨k,d⟩,F⟩:=Ch (Wd:=lG A) (main:=false) (w:=w) C X R;left;exact yv (x:=.lk .iM Y) (sh:=s.sh) G H hj L rfl (by rw[a];rfl) (λ_=>by rw[a];rfl) (m.I.Zo hj v rfl rfl l rfl) (MM hj v rfl (by rw[a];rfl) l rfl (by rw[a];rfl) rfl) K i (br rfl) m.mu (λe O=>by simp at O;subst O;exact .inl (.inl rfl)) (by rw[a];rfl) ⟨k,E,d,τ,c,μ,e,Q,F,S,T,o,r,U⟩ (.inl λu=>u) sl
 case t1 sv=>obtain⟨g1,i,hr,E,⟨k,d⟩,F⟩:=Qk (Wd:=lG A) (main:=false) (w:=w) C X R;left;exact yv (x:=.lk (.il sv) Y) (sh:=s.sh) G H hj L rfl (by rw[a];rfl) (λ_=>by rw[a];rfl) (m.I.still hj v rfl rfl (by rw[l];rfl)) (mz hj v rfl (by rw[a];rfl) (by rw[l];rfl) (by rw[a];simp[bu.ex])) K i (br rfl ⟨⟨w.tick,rfl⟩,rfl⟩) (m.mu.heap rfl) gq (by rw[a];rfl) ⟨k,E,d,τ,c,μ,e,Q,F,S,T,o,r,U⟩ (.inl λu=>u) sl
 case le=>
  obtain⟨g1,i,hr,E,⟨k,d⟩,F⟩:=Ib (Wd:=lG A) (main:=false) (w:=w) C X (λw h=>h.2.2) R
  left;exact yv (x:=.lk .la Y) (sh:=s.sh) G H hj L rfl (by rw[a];rfl) (λ_=>by rw[a];rfl) (m.I.still hj v rfl rfl (by rw[l];rfl)) (mz hj v rfl (by rw[a];rfl) (by rw[l];rfl) (by rw[a];simp[bu.ex])) K i (br rfl) m.mu (λe O=>by simp at O;subst O;exact .inl (.inr rfl)) (by rw[a];rfl) ⟨k,E,d,τ,c,μ,e,Q,F,S,T,o,r,U⟩ (.inl λu=>u) sl
 case la=>exact absurd rfl W
end
section
variable{P:adT}{A:bQ}{Fin:adl}{Z:Base}{s:MS P}{f:Nat->Node P}{q:adM}{kk:adS}{OO:adR}{J M:adG}{gs:adp}{w:World}{t:Trace}{j:Nat}{g:adJ}
variable(C:ib P A.nm)(X:ig P A.nm)
include C X in
def QC  B  (L:bJ (cj P A Fin Z B) Z s f q kk OO J M gs w t) (hj:j<A.n){p Y}(a:s.w j=.un p Y) (Q:gs[A.b+j]?=some g) (R:Io P A j (.un p Y) (kk (A.b+j)) (OO (A.b+j)) g) (S:p≠.ur) (T:p≠.ue)  sl :
 Goes P A Fin Z B s gs w t sl (A.b+j):=by
 have m:dq P A Z s kk OO J M gs.size w t:=L.ex;have F:Ah p=true:=by have:=m.I.ok j hj;rw[a]at this;exact this
 have N:(s.w j).kN=true:=by rw[a];rfl
 have D:=jr N;have i:(s.w j).pc=p.abs:=by rw[a];rfl
 have hn:=A.hn;have hb:=A.hb;obtain⟨τ,c,μ,U,O,V,W,G⟩:=R
 by_cases u:uW p=true
 . have a7:¬(p=.H6\/p=.ur):=by rintro(rfl|rfl)<;>cases u
   have hN:=G a7
   rcases Eh (Wd:=lG A) (main:=false) C X m.I.mu hj hn i u m.mu O with⟨g1,w',es,qq,s',o,l,y,z,⟨hr,H,⟨k,d⟩,K⟩,a8,a9,ad,al⟩|⟨⟨sv,rfl⟩,E,l⟩
   . have av:Mu.Gq qq=true:=Mu.VS (by cases p<;>simp_all [Ah,uW,Cg.abs,Mu.Gq]) y (MQ z)
     obtain⟨k1,k2,k3,k4⟩:=VU z av;have r:((bu.un o Y).pc,s')∈Mu.mv (s.w j).pc s.sh:=by rw[i,show(bu.un o Y).pc=o.abs from rfl,MP z];exact y
     have ax:(s.w j).deaf=1:=by rw[a];cases p<;>simp_all [bu.deaf,uW,Ah]
     have ay:(bu.un o Y).deaf=1:=by cases o<;>simp_all [bu.deaf]
     have aC:(s.w j).owns=false:=by rw[a];cases p<;>simp_all [bu.owns,uW,Ah]
     have aE:(bu.un o Y).owns=false:=by cases o<;>simp_all [bu.owns]
     refine yv (x:=.un o Y) B L hj N rfl (by rw[aC,aE]) (λ_=>by rw[a];rfl) (m.I.mv hj D rfl k1 r) (Iq m.I hj D rfl (by rw[a];rfl) r ?_) Q l a8 a9 ad (by rw[al,ax,ay]) ⟨k,H,d,τ,c,μ,U,K,V,λh=>absurd h (λh=>h.elim k2 k3),λ_=>hN⟩ ?_ sl
     . cases o<;>simp_all [bu.ex]
     by_cases aL:p=.give
     . subst aL;exact .inr ⟨Jz C X O,hr⟩
     refine .inl λE=>Mu.R3 ?_ y E
     cases p<;>simp_all [uW,Ah,Cg.abs]
   exact absurd F (by simp[Ah])
 cases p<;>simp only[uW,Ah,not_true_eq_false,zs]at u F
 case H6=>
  obtain⟨v,hv⟩:=((bq (P:=P) (A:=A) (Fin:=Fin) (Z:=Z) B).wd m).2.2;obtain⟨g1,l,hr,H,⟨k,d⟩,K⟩:=yl (Wd:=lG A) (main:=false) (w:=w) C X (λw h=>h.2.2) hv O
  exact yv (x:=.un .ur Y) (sh:=s.sh) B L hj N rfl (by rw[a];rfl) (λ_=>by rw[a];rfl) (m.I.still hj D rfl rfl (by rw[i];rfl)) (mz hj D rfl (by rw[a];rfl) (by rw[i];rfl) (by rw[a];simp[bu.ex])) Q l (br rfl) m.mu gq (by rw[a];rfl) ⟨k,H,d,τ,c,μ,U,K,V,λ_=>W (.inl rfl),λh=>absurd (.inr rfl) h⟩ (.inl λE=>E) sl
 case ud=>
  have hN:=G (by rintro(h|h)<;>cases h)
  obtain⟨g1,l,hr,H,⟨k,d⟩,K⟩:=H8 (Wd:=lG A) (main:=false) (w:=w) C X O;exact yv (x:=.un .held Y) (sh:=s.sh) B L hj N rfl (by rw[a];rfl) (λ_=>by rw[a];rfl) (m.I.still hj D rfl rfl (by rw[i];rfl)) (mz hj D rfl (by rw[a];rfl) (by rw[i];rfl) (by rw[a];simp[bu.ex])) Q l (br rfl) m.mu (λe he=>by simp at he;subst he;exact .inl (.inl rfl)) (by rw[a];rfl) ⟨k,H,d,τ,c,μ,U,K,V,λh=>absurd h (by simp),λ_=>hN⟩ (.inl λE=>E) sl
 case ur=>exact absurd rfl S
 case ue=>exact absurd rfl T
end
def TT.S4{P m K O g1 a}(h:tp P (λ_=>True) g1 a)(e:TT P m K O a):TT P m K O g1:=.step (λb c d=>b=K/\c=O/\d=a) h.1 (λb c d f=>by obtain⟨rfl,rfl,rfl⟩:=f;exact e) (λw g=>⟨a,w,#[],K,O,h.2 _ w trivial,Eff.refl _ _ _,g,rfl,rfl,rfl⟩)
def TT.Ej{P m K O g1 c}  h   a  {z:Node P}(b:pQ z ⟨m,K,O,g1,TT.S4 h a⟩):z=⟨m,K,O,c,a⟩:=by
 unfold TT.S4 at b;cases b with
 |step _ _ _ _ d=>obtain⟨rfl,rfl,rfl⟩:=d;rfl
def TT.pre{P m K O}:∀{k g1 a},jI P (λ_=>True) k g1 a->(X:TT P m K O a)->∃T ,vT ⟨m,K,O,g1,T⟩ ⟨m,K,O,a,X⟩
 |0,g1,a,h,X=>by obtain rfl:g1=a:=h;exact⟨X,.refl _⟩
 | k + 1,g1,a,⟨d,c,h⟩,X=>by
   obtain⟨b,g⟩:=TT.pre h X;refine⟨TT.S4 c b,λy hy f=>?_⟩;rcases hy with rfl|hy
   . exact f.elim
   have:y=⟨m,K,O,d,b⟩\/Relation.TransGen pQ y ⟨m,K,O,d,b⟩:=by
    cases hy with
    |single h=>exact .inl (TT.Ej c b h)
    | tail i j=>
      have e:=TT.Ej c b j
      simp_all
   exact g y this f
section
variable{P:adT}{A:bQ}{Fin:adl}{Z:Base}{s:MS P}{f:Nat->Node P}{q:adM}{kk:adS}{OO:adR}{J M:adG}{gs:adp}{w:World}{t:Trace}{j:Nat}{g:adJ}
def kO(hj:j<A.n){h X}(e:s.w j=.run h X):dL P A s (A.b+j):=.inr (.inl ⟨j,hj,rfl,by simp_all⟩)
def uX(hj:j<A.n){h X}(e:s.w j=.run h X):¬ij P A s (A.b+j):=by
 have:=A.hb;rintro(⟨e,_⟩|⟨l,a,c,d⟩|⟨e,_⟩)
 . omega
 . simp_all
 omega
def kr(hj:j<A.n){h X}(e:s.w j=.run h X):¬fS P A s (A.b+j):=by
 have:=A.hb;rintro(⟨e,_⟩|⟨l,a,c,d⟩)
 . omega
 simp_all
def od(hj:j<A.n){h X}(e:s.w j=.run h X):cK P A Fin s (A.b+j)=iO P A j:=by
 have:=A.hb;unfold cK
 grind
variable(C:ib P A.nm)(X:ig P A.nm)(F:mP P A.nm)
include C X F in
def QD  z  (D:bJ (cj P A Fin Z z) Z s f q kk OO J M gs w t) (hj:j<A.n){Y}(E:s.w j=.un .ue Y) (hg:gs[A.b+j]?=some g) (W:Io P A j (.un .ue Y) (kk (A.b+j)) (OO (A.b+j)) g) (d:A.dir=false)  sl :
 Goes P A Fin Z z s gs w t sl (A.b+j):=by
 have p:dq P A Z s kk OO J M gs.size w t:=D.ex;have B:=bq (P:=P) (A:=A) (Fin:=Fin) (Z:=Z) z;have h1:(s.w j).kN=true:=by rw[E];rfl
 have u:=jr h1;have hb:=A.hb;have a7:(A.b+j==0)=false:=by simp;omega
 obtain⟨τ,c,μ,hk,hM,hm,ay,a8⟩:=W;have G:=a8 (by simp)
 rw[show FQ P A Y.N=Y.N by simp[FQ,d]]at G
 obtain⟨g1,a9,hr,g2,H,K⟩:=Ci (Wd:=λ_=>True) (main:=false) (w:=w) C X hM
 obtain⟨k,ad⟩:=H.trans (my F K hk);obtain⟨T,hU⟩:=TT.pre ad (Y.c _ _ _ G);obtain⟨x,v⟩:∃x:bu P,x=.run false ⟨Y.m,kk (A.b+j),OO (A.b+j),_,Y.c _ _ _ G⟩:=⟨_,rfl⟩;have V:x.work=true:=by rw[v];rfl
 have a:∀sh,((s.aZ j x sh).w j)=.run false ⟨Y.m,kk (A.b+j),OO (A.b+j),_,Y.c _ _ _ G⟩:=λsh=>by rw[ba,v]
 have al:EvM A.fb A.fo #[⟨.mark .enable,false,true⟩]:=λe he=>by simp at he;subst he;exact .inl (.inr rfl)
 have L:=runT_crowd_go (P:=P) (sl:=sl) (i:=A.b+j) hg (by rw[a7];exact a9)
 have Q:bX P A s (A.b+j):=iZ p.I hj (bH u).2.2.2.2.1;obtain⟨y1,y2,y3⟩:=p.MO al Q g.frame.fn g.frame.place;have o:∀op∈MemOp.ofEvents (A.b+j) g.frame.fn g.frame.place #[⟨.mark .enable,false,true⟩],op.g=A.b+j:=λop av=>by obtain⟨e,_,rfl⟩:=za av;rfl
 have hJ:J (A.b+j):=(p.hJ _).2 (xf hj (bH u).2.2.2.2.2.1);have hP:=D.cX.sync (i:=A.b+j) (.inr hJ) o rfl ⟨⟨.refl _,rfl⟩,λ_ _=>rfl⟩ (λb=>.inl rfl) y2 y1
 have hI:bU A.n (s.aZ j x s.sh):=p.I.still hj u V (by rw[v];rfl) (by rw[v,E];rfl)
 have hL:MS.gX A.n (s.aZ j x s.sh) s:=Cq hj u V ⟨_,_,by rw[v];rfl,by rw[E];rfl,.single (pQ.dz Y.N Y.h0 Y.ht Y.c G)⟩
 have R:dq P A Z (s.aZ j x s.sh) kk OO J M gs.size w (t++MemOp.ofEvents (A.b+j) g.frame.fn g.frame.place #[⟨.mark .enable,false,true⟩]):=p.work hj u V (by rw[v,E];rfl) (λh=>by rw[d]at h;cases h) hI p.mu (λ_ _=>rfl) p.uV y3
 have r:Beside (cj P A Fin Z z) s (s.aZ j x s.sh) f (bW f (A.b+j) ⟨Y.m,kk (A.b+j),OO (A.b+j),g1,T⟩) q q kk kk OO OO J J w (A.b+j) g g1:=mZ z hj u V (λi hi=>az _ _ hi) (λi hi=>rfl) (λ_ _ _=>rfl) (λ_ _ _=>rfl) (λ_ h=>h) (.inl λh=>h) (λ{i k O y} K=>B.ly (s:=s) (i:=i) (k:=k) (O:=O) (g:=y) K)
 have S:=js (P:=P) (A:=A) (s:=s) hj h1;refine⟨_,_,L,s.aZ j x s.sh,bW f (A.b+j) ⟨Y.m,kk (A.b+j),OO (A.b+j),g1,T⟩,q,kk,OO,J,M,_,_,_,rfl,hL,?_⟩;refine bJ.step B D hg o hP R (λl y hl K=>?_) r ⟨λ_=>?_,λh=>absurd h (uX hj (a _)),λh=>absurd h (kr hj (a _)),λh=>absurd (kO hj (a _)) h⟩
 . have U:l≠A.b+j:=λe=>(D.held l hl).2.1 (by rw[e];exact S)
   exact B.tv R ((r.held l U).2 hl) _ _ (r.UB l _ _ _ U hl K)
 rw[ao];refine⟨by show A.b+j<A.b+A.n+1;omega,rfl,?_,rfl,rfl,hr,?_,.inr hJ,λl b X' h3 h4 h5=>?_⟩
 . show Y.m=cK P A Fin (s.aZ j x s.sh) (A.b+j)
   rw[od hj (a _)];exact hm
 . obtain⟨_,_,ax,_⟩:=D.walk _ S
   rw[Deaf_own,ax];show deafBehind (dW P A s (A.b+j)) _=0;rw[fC hj,E];rfl
 obtain rfl:l=j:=by omega
 rw[a]at h5;cases h5;exact hU
end
section
variable{Z:Base}{kk:adS}{OO:adR}{J M:adG}{w:World}{t:Trace}
def ju(kk:adS)(lk i:Nat):adS:=bW kk i ((kk i).join (kk lk))
def iQ(OO:adR)(lk i mb:Nat)(x:Own):adR:=bW (bW OO i ((OO i).set mb x)) lk aj.bot
def cE.VV(h:cE Z kk OO J M w t){i mb x}(hi:i≠Z.lk)(L:OO Z.lk mb=some x)(ho:∀c,OO Z.lk c≠none->c=mb)(N:Z.la.block<w.heap.size)(hd:Deaf t i=0)(ω:∀m a,m<Z.N0->touchAt t m=some a->a.loc.isMemory=true -> ¬Z.Shun a.loc->Knows t i m)(V:∀m a,Z.N0<=m->t.act? m≠some (.mark (.release a)))  fn   pos :
 cE Z (ju kk Z.lk i) (iQ OO Z.lk i mb x) J M w (t++MemOp.ofEvents i fn pos #[⟨.mark (.acquire Z.la),false,true⟩]):=by
 obtain⟨u,S⟩:∃u,u=MemOp.ofEvents i fn pos #[⟨.mark (.acquire Z.la),false,true⟩]:=⟨_,rfl⟩;have G:u=#[⟨i,fn,pos,.mark (.acquire Z.la)⟩]:=by rw[S,ofEvents_eq];simp[MemAct.ofEvent]
 rw[<-S];have A:kX u:=λop d=>by grind
 have W:∀op∈u,op.act.touch?=none:=λop d=>by rw[G]at d;simp at d;subst d;rfl
 have H:∀op∈u,op.g=i:=λop d=>by grind
 have I:∀m a,Z.N0<=m->(t++u).act? m≠some (.mark (.release a)):=λm a O e=>by
  rcases qX e with⟨o,_⟩|⟨op,d,o⟩
  . grind
  grind
 have X:OO i mb=none:=h.jR Z.lk i mb x (wK hi) L;have eK:∀l,l≠i->ju kk Z.lk i l=kk l:=λl Y=>az _ _ Y
 have q:ju kk Z.lk i i=(kk i).join (kk Z.lk):=ao _ _ _;have eO:∀l,l≠i->l≠Z.lk->iQ OO Z.lk i mb x l=OO l:=λl o B=>by unfold iQ;rw[az _ _ B,az _ _ o]
 have C:iQ OO Z.lk i mb x i=(OO i).set mb x:=by unfold iQ;rw[az _ _ hi,ao]
 have D:iQ OO Z.lk i mb x Z.lk=aj.bot:=by unfold iQ;rw[ao]
 refine h.uK (λa b=>a=b\/(a=Z.lk/\b=i)) rfl ⟨⟨.refl _,rfl⟩,λ_ _=>rfl⟩ (λb=>.inl rfl) (λop d=>by rw[G]at d;simp at d;subst d;simpa[MemAct.low]using N) (λa b e n y P O hz E=>?_) (λl b n v K=>?_) (λl b sv K=>?_) (λl b y f=>?_) (λa l b y r f=>?_)
  (λsaid=>noRace_append (h.clean said) H λn a Q op d b hb _=>by grind) (λop d a Q=>by grind) (λm op a d Q=>by grind)
  (λn a Q O h=>h.elim (λ⟨j,o,B⟩=>.inr (.inl ⟨j,o,B.app _⟩)) (λ⟨p,o,B⟩=>.inr (.inr (.inl ⟨p,o,B.app _⟩))))
 . rcases e with rfl|⟨rfl,rfl⟩
   . exact E.app u
   refine(oH hi).2 ?_;unfold Jj at E;rw[zR rfl]at E
   rcases E with E|⟨p,h0,o,B,h3⟩
   . exact(ω n y E P O hz).app u
   exact nD (y:=⟨b,fn,pos,.mark (.acquire Z.la)⟩) (m:=0) A (by grind) rfl hd o B (λk E=>I k _ (by omega)) h3
 . by_cases e:l=i
   . subst e;rw[q]at K
     exact(ar.nX K).elim (λh=>⟨l,.inl rfl,h⟩) (λh=>⟨Z.lk,.inr ⟨rfl,rfl⟩,h⟩)
   grind
 . by_cases e:l=i
   . subst e;rw[q]at K
     exact(ar.HX K).elim (λh=>⟨l,.inl rfl,h⟩) (λh=>⟨Z.lk,.inr ⟨rfl,rfl⟩,h⟩)
   grind
 . by_cases e:l=i
   . subst e;rw[C]at f
     by_cases z:b=mb
     . subst z
       simp only[aj.set,Rp,kn]at f;subst f;exact⟨Z.lk,.inr ⟨rfl,rfl⟩,L,λsv R=>by rw[q];exact(ar.yd (h.sat l) (h.sat Z.lk)).2 b sv R⟩
     simp only[aj.set,z,zD]at f;exact⟨l,.inl rfl,f,λsv R=>by rw[q];exact(ar.ti _ _).2 b sv R⟩
   by_cases T:l=Z.lk
   . subst T;rw[D]at f;cases f
   rw[eO l e T]at f;grind
 by_cases F:a=Z.lk
 . subst F;rw[D]at f;cases f
 by_cases s:l=Z.lk
 . subst s;rw[D];rfl
 by_cases U:a=i
 . subst U
   rw[C]at f;rw[eO l (wK r) s]
   by_cases z:b=mb
   . subst z;exact h.jR Z.lk l b x (wK s) L
   simp only[aj.set,z,zD]at f;exact h.jR a l b y r f
 rw[eO a U F]at f
 by_cases el:l=i
 . subst el
   rw[C]
   by_cases z:b=mb
   . subst z
     have:=h.jR Z.lk a b x (wK F) L
     simp_all
   simp only[aj.set,z,zD];exact h.jR a l b y r f
 rw[eO l el s];exact h.jR a l b y r f
end
section
variable{Z:Base}{kk:adS}{OO:adR}{J M:adG}{w:World}{t:Trace}
def oU(kk:adS)(lk i:Nat):adS:=bW kk lk (kk i)
def gu(OO:adR)(lk i mb fb:Nat)(x:Own):adR:=bW (bW OO i (((OO i).del mb).del fb)) lk (aj.bot.set mb x)
def cE.VW(h:cE Z kk OO J M w t){i mb fb x}(hi:i≠Z.lk)(T:OO i mb=some x)(ho:∀c,OO Z.lk c=none)(N:Z.la.block<w.heap.size)(hd:Deaf t i=0)  fn   pos :
 cE Z (oU kk Z.lk i) (gu OO Z.lk i mb fb x) J M w (t++MemOp.ofEvents i fn pos #[⟨.mark (.releaseMerge Z.la),false,true⟩]):=by
 obtain⟨u,R⟩:∃u,u=MemOp.ofEvents i fn pos #[⟨.mark (.releaseMerge Z.la),false,true⟩]:=⟨_,rfl⟩;have F:u=#[⟨i,fn,pos,.mark (.releaseMerge Z.la)⟩]:=by rw[R,ofEvents_eq];simp[MemAct.ofEvent]
 rw[<-R];have s:kX u:=λop d=>by grind
 have U:∀op∈u,op.act.touch?=none:=λop d=>by rw[F]at d;simp at d;subst d;rfl
 have G:∀op∈u,op.g=i:=λop d=>by grind
 have z:u[0]?=some ⟨i,fn,pos,.mark (.releaseMerge Z.la)⟩:=by grind
 have eK:∀l,l≠Z.lk->oU kk Z.lk i l=kk l:=λl V=>az _ _ V
 have W:oU kk Z.lk i Z.lk=kk i:=ao _ _ _;have eO:∀l,l≠i->l≠Z.lk->gu OO Z.lk i mb fb x l=OO l:=λl H I=>by unfold gu;rw[az _ _ I,az _ _ H]
 have k:gu OO Z.lk i mb fb x i=((OO i).del mb).del fb:=by unfold gu;rw[az _ _ hi,ao]
 have A:gu OO Z.lk i mb fb x Z.lk=aj.bot.set mb x:=by unfold gu;rw[ao]
 have K:∀b y,(((OO i).del mb).del fb) b=some y->b≠mb/\OO i b=some y:=λb y f=>by
  by_cases q:b=fb
  . simp[aj.del,q]at f
  by_cases r:b=mb
  . simp[aj.del,r]at f
  exact⟨r,by simpa[aj.del,q,r]using f⟩
 have L:∀b y,(aj.bot.set mb x) b=some y->b=mb/\y=x:=λb y f=>by
  by_cases e:b=mb
  . subst e;simp only[aj.set,Rp,kn]at f;simp_all
  simp only[aj.set,e,zD]at f;cases f
 have B:∀b,OO i b=none->(((OO i).del mb).del fb) b=none:=λb X=>by
  by_cases q:b=fb
  . simp[aj.del,q]
  by_cases r:b=mb
  . grind
  simpa[aj.del,q,r]using X
 refine h.uK (λa b=>a=b\/(a=i/\b=Z.lk)) rfl ⟨⟨.refl _,rfl⟩,λ_ _=>rfl⟩ (λb=>.inl rfl) (λop d=>by rw[F]at d;simp at d;subst d;simpa[MemAct.low]using N) (λa b e n y Y hm hz S=>?_) (λl b n v hv=>?_) (λl b sv hv=>?_) (λl b y f=>?_) (λa l b y o f=>?_)
  (λsaid=>noRace_append (h.clean said) G λn a O op d b hb _=>by grind) (λop d a O=>by grind) (λm op a d O=>by grind)
  (λn a O hm h=>h.elim (λ⟨j,H,I⟩=>.inr (.inl ⟨j,H,I.app _⟩)) (λ⟨p,H,I⟩=>.inr (.inr (.inl ⟨p,H,I.app _⟩))))
 . rcases e with rfl|⟨rfl,rfl⟩
   . exact S.app u
   have P:Knows t a n:=(oH hi).1 S;unfold Jj;rw[zR rfl];exact .inr ⟨t.size+0,by have:=h.n0;omega,by rw[act?_of (dH z)],heard_new s z hd,me P z rfl⟩
 . grind
 . grind
 . by_cases r:l=Z.lk
   . subst r;rw[A]at f
     grind
   by_cases e:l=i
   . subst e;rw[k]at f
     grind
   rw[eO l e r]at f;grind
 by_cases C:a=Z.lk
 . subst C;rw[A]at f
   obtain⟨rfl,rfl⟩:=L b y f
   by_cases el:l=i
   . subst el;rw[k]
     by_cases q:b=fb
     . simp[aj.del,q]
     simp[aj.del,q]
   rw[eO l el (wK o)];exact h.jR i l b y (wK el) T
 by_cases D:l=Z.lk
 . subst D;rw[A]
   have Q:b≠mb:=by
    by_cases E:a=i
    . subst E;rw[k]at f;grind
    rw[eO a E C]at f;intro e;subst e;have:=h.jR a i b y E f
    grind
   simp only[aj.set,Q,zD];rfl
 by_cases E:a=i
 . subst E
   rw[k]at f;rw[eO l (wK o) D];exact h.jR a l b y o (K b y f).2
 rw[eO a E C]at f
 by_cases el:l=i
 . subst el;rw[k];exact B b (h.jR a l b y o f)
 rw[eO l el D];exact h.jR a l b y o f
end
section
variable{P:adT}{A:bQ}{Fin:adl}{Z:Base}{s:MS P}{f:Nat->Node P}{q:adM}{kk:adS}{OO:adR}{J M:adG}{gs:adp}{gsz:Nat}{w:World}{t u:Trace}{j:Nat}{g:adJ}{x:bu P}{xo:Own}
def JA{x:bu P}(h:x.owns=true):x.pc=.held:=by
 cases x with
 |run b X=>cases b<;>simp_all [bu.owns,bu.pc]
 |un p Y=>cases p<;>simp_all [bu.owns,bu.pc,Cg.abs]
 |_=>simp_all [bu.owns]
def Ek(I:bU A.n s)(hj:j<A.n)(a:(s.w j).pc=.held){l}(b:l<A.n)(c:(s.w l).owns=true):l=j:=by
 by_cases e:l=j
 . exact e
 have g:=I.mu.j1;have d:=Mu.ia Mu.cr (λi=>(s.w i).pc) j .out hj
 have f:Mu.cr (Mu.set (λi=>(s.w i).pc) j .out l)<=Mu.fX A.n (λi=>Mu.cr (Mu.set (λi=>(s.w i).pc) j .out i)):=Mu.jq (λi=>Mu.cr (Mu.set (λi=>(s.w i).pc) j .out i)) b
 rw[Mu.ah _ _ e,JA c]at f;have h:Mu.cr .held=1:=rfl;have k:Mu.cr .out=0:=rfl;rw[a]at d;have:s.sh.w.L.toNat<=1:=by cases s.sh.w.L<;>simp
 omega
def lz(A:bQ)(Z:Base)(OO:adR)(i:Nat)(x:Own)(a:Nat->adx):adR:=bW (iQ OO Z.lk i A.mb x) i ((iQ OO Z.lk i A.mb x i).set A.fb (.part a))
def bQ.Tk.PS{f}(h:A.Tk j f){l}(a:f l≠none):A.dir=true/\l=A.cell j:=by
 unfold bQ.Tk at h;split at h
 . grind
 subst h;exact absurd rfl a
def dq.take{p}(H:A.Tk j p)(hZ:A.b+A.n+1<=Z.lk)(h:dq P A Z s kk OO J M gsz w t)(hj:j<A.n)(f:(s.w j).work=true)(K:x.work=true)(L:∀l,l<A.n->(s.w l).owns=false)(F:x.owns=true)(V:bU A.n (s.aZ j x s.sh))(W:∀op∈u,op.act.touch?=none/\∀a,op.act≠.mark (.release a)):
 dq P A Z (s.aZ j x s.sh) (ju kk Z.lk (A.b+j)) (lz A Z OO (A.b+j) xo p) J M gsz w (t++u):=by
 have S:A.b+j≠Z.lk:=by omega
 have r:x.busy=(s.w j).busy:=by rw[(bH f).2.2.2.2.2.1,(bH K).2.2.2.2.2.1]
 have N:∀l,l≠A.b+j->ju kk Z.lk (A.b+j) l=kk l:=λl d=>az _ _ d
 have O:ju kk Z.lk (A.b+j) (A.b+j)=(kk (A.b+j)).join (kk Z.lk):=ao _ _ _;have eO:∀l,l≠A.b+j->l≠Z.lk->lz A Z OO (A.b+j) xo p l=OO l:=λl f K=>by unfold lz iQ;rw[az _ _ f,az _ _ K,az _ _ f]
 have z:lz A Z OO (A.b+j) xo p (A.b+j)=((OO (A.b+j)).set A.mb xo).set A.fb (.part p):=by unfold lz iQ;rw[ao,az _ _ S,ao]
 have B:lz A Z OO (A.b+j) xo p Z.lk=aj.bot:=by unfold lz iQ;rw[az _ _ (wK S),ao]
 have C:bX P A s (A.b+j):=iZ h.I hj (bH f).2.2.2.2.1
 have T:∀i,OO i A.fb=none:=λi=>by
  cases e:OO i A.fb with
  |none=>rfl
  | some y=>
    obtain⟨l,_,d,_,ho,_⟩:=h.tok i y e
    grind
 have g:∀{c n:Nat},(∀i,(kk i).cell c n=none)->(ju kk Z.lk (A.b+j) (A.b+j)).cell c n=none:=λ{c n} X=>by
  rw[O];cases e:((kk (A.b+j)).join (kk Z.lk)).cell c n with
  |none=>rfl
  |some v=>rcases ar.nX e with h|h<;>rw[X]at h<;>cases h
 refine⟨V,h.size,h.dd,h.off,λhd l d=>?_,h.AZ,h.mu,h.gr,h.uV,h.Ai,λi=>?_,λi=>?_,λi y D=>?_,λl d k=>?_,λk=>?_,λc U=>?_,
  λi=>by rw[h.hJ i];exact(oR hj r i).symm,h.vU u,h.mY u,h.kM u (λop o a Q=>by simp_all),h.oQ u (λop o a Q=>by simp_all),h.qt u,h.jU u (λop o=>(W op o).2),λi d hb=>?_,h.tk,h.kq,h.fP,h.la,by simp;exact aaH h.n0 (abS _ _)⟩
 . by_cases e:l=j
   . subst e
     rw[ba];exact⟨λE=>by(rw[A7 F]at E;cases E),λR=>by simp[bu.rel,F]at R⟩
   rw[cC e];refine⟨λE=>⟨λi=>?_,λm a Y Q q q'=>(ez Q).elim (λf=>((h.zZ hd l d).1 E).2 m a Y f.1 q q') (λ⟨op,o,f⟩=>by simp_all)⟩,λR=>?_⟩
   . have f:=((h.zZ hd l d).1 E).1
     grind
   rw[N _ (by omega)];exact(h.zZ hd l d).2 R
 . by_cases e:i=A.b+j
   . subst e;rw[z]
     have:=h.ik (A.b+j);simp only[aj.set,A.d1,A.d3,wK A.d4,A.d6,zD];exact this
   by_cases G:i=Z.lk
   . subst G;rw[B];exact⟨λ_=>rfl,rfl⟩
   rw[eO i e G];exact h.ik i
 . by_cases e:i=A.b+j
   . subst e
     exact⟨g λi=>(h.eV i).1,g λi=>(h.eV i).2.1,g λi=>(h.eV i).2.2.1,g λi=>(h.eV i).2.2.2⟩
   rw[N i e];exact h.eV i
 . by_cases e:i=A.b+j
   . subst e;rw[z]at D
     simp only[aj.set,Rp,kn]at D;exact⟨j,p,hj,rfl,by rw[ba];exact F,D.symm,λ_=>H.PS⟩
   by_cases G:i=Z.lk
   . subst G;rw[B]at D;cases D
   simp_all
 . by_cases e:l=j
   . subst e;rw[z];simp[aj.set]
   rw[cC e,L l d]at k;cases k
 . have:=k j hj
   rw[ba,F]at this;cases this
 . rw[B]at U;exact absurd rfl U
 have e:i≠A.b+j:=λe=>hb (e ▸ C)
 rw[N i e,eO i e d];exact h.Ec i d hb
end
section
variable{P:adT}{A:bQ}{Fin:adl}{Z:Base}{s:MS P}{f:Nat->Node P}{q:adM}{kk:adS}{OO:adR}{J M:adG}{gs:adp}{w:World}{t:Trace}{j:Nat}{g:adJ}
variable(C:ib P A.nm)(X:ig P A.nm)(F:mP P A.nm)
include C X F in
def QE  hZ  (H:bJ (cj P A Fin Z hZ) Z s f q kk OO J M gs w t) (hj:j<A.n){Y}(S:s.w j=.lk .la Y) (hg:gs[A.b+j]?=some g) (b5:Io P A j (.lk .la Y) (kk (A.b+j)) (OO (A.b+j)) g)  sl :
 Goes P A Fin Z hZ s gs w t sl (A.b+j):=by
 have d:dq P A Z s kk OO J M gs.size w t:=H.ex;have B:=bq (P:=P) (A:=A) (Fin:=Fin) (Z:=Z) hZ;have r:(s.w j).kN=true:=by rw[S];rfl
 have w1:=jr r;have b6:(s.w j).pc=.held:=by rw[S];rfl
 have hb:=A.hb;have o:A.b+j≠Z.lk:=by omega
 have b7:(A.b+j==0)=false:=by simp;omega
 have U:∀l,l<A.n->(s.w l).owns=false:=λl E=>by
  cases e:(s.w l).owns with
  |false=>rfl
  |true=>obtain rfl:=Ek d.I hj b6 E e;rw[S]at e;cases e
 have L:∀i,OO i A.fb=none:=λi=>by
  cases e:OO i A.fb with
  |none=>rfl
  |some y=>obtain⟨l,_,E,_,ho,_⟩:=d.tok i y e;rw[U l E]at ho;cases ho
 obtain⟨xo,a,a9,b8,b9⟩:=d.PQ U;obtain⟨τ,c,μ,e,hk,hM,hm,hO,al,bc,hN⟩:=b5;obtain⟨cc,ee,av⟩:=d.uV
 have ax:e=(ee,cc.size):=by have hs:=(H.cX.sat (A.b+j)).sh _ _ al;simp only[World.shape?,av]at hs;exact(abt hs).symm
 obtain⟨p,V,ay⟩:∃p,A.Tk j p/\∀n v,p n=some v->A.dir=true/\n=A.cell j/\cc[n]?=some v:=by
  unfold bQ.Tk
  by_cases hd:A.dir=true
  . have:=bc hd
    rw[ax]at this;refine⟨λi=>if i=A.cell j then some cc[A.cell j]else none,by rw[zR hd];exact⟨_,rfl⟩,λn v G=>?_⟩
    simp only at G;split at G
    . next e=>subst e;exact⟨hd,rfl,by rw[<-G];exact abo this⟩
    cases G
  exact⟨MH,by rw[zA hd],λn v G=>by cases G⟩
 have aC:(kk Z.lk).Le ((kk (A.b+j)).join (kk Z.lk)):=ar.yd (H.cX.sat (A.b+j)) (H.cX.sat Z.lk);have u:=hN ((kk (A.b+j)).join (kk Z.lk)) xo a p (ar.ti _ _) (b8.mono aC) b9 (H.cX.jR Z.lk (A.b+j) _ _ (wK o) a9) V;obtain⟨g1,aE,hr,g2,aL,hA⟩:=Ia (Wd:=λ_=>True) (main:=false) (w:=w) C X hM
 obtain⟨k,bm⟩:=aL.trans (tB F hA hk);rw[<-d.la]at aE;have W:ju kk Z.lk (A.b+j) (A.b+j)=(kk (A.b+j)).join (kk Z.lk):=ao _ _ _;have bw:lz A Z OO (A.b+j) xo p (A.b+j)=((OO (A.b+j)).set A.mb xo).set A.fb (.part p):=by unfold lz iQ;rw[ao,az _ _ o,ao]
 rw[<-W,<-bw]at u;obtain⟨T,hU⟩:=TT.pre bm (Y.c _ _ _ u);obtain⟨x,hx⟩:∃x:bu P,x=.run true ⟨Y.m,ju kk Z.lk (A.b+j) (A.b+j),lz A Z OO (A.b+j) xo p (A.b+j),_,Y.c _ _ _ u⟩:=⟨_,rfl⟩;have w2:x.work=true:=by rw[hx];rfl
 have z:∀sh,((s.aZ j x sh).w j)=.run true ⟨Y.m,ju kk Z.lk (A.b+j) (A.b+j),lz A Z OO (A.b+j) xo p (A.b+j),_,Y.c _ _ _ u⟩:=λsh=>by rw[ba,hx]
 have aO:=runT_crowd_go (P:=P) (sl:=sl) (i:=A.b+j) hg (by rw[b7];exact aE)
 have aW:=js (P:=P) (A:=A) (s:=s) hj r
 have K:Deaf t (A.b+j)=0:=by obtain⟨_,_,K,_⟩:=H.walk _ aW;rw[K];show dW P A s (A.b+j)=0;rw[fC hj,S];rfl
 have Q:bX P A s (A.b+j):=iZ d.I hj (bH w1).2.2.2.2.1;have hJ:J (A.b+j):=(d.hJ _).2 (xf hj (bH w1).2.2.2.2.2.1);have b0:∀op∈MemOp.ofEvents (A.b+j) g.frame.fn g.frame.place #[⟨.mark (.acquire Z.la),false,true⟩],op.g=A.b+j:=λop D=>by obtain⟨e,_,rfl⟩:=za D;rfl
 have b1:∀op∈MemOp.ofEvents (A.b+j) g.frame.fn g.frame.place #[⟨.mark (.acquire Z.la),false,true⟩],op.act.touch?=none/\∀a,op.act≠.mark (.release a):=λop D=>by obtain⟨e,he,rfl⟩:=za D;simp at he;subst he;exact⟨rfl,λa h=>by simp[MemAct.ofEvent]at h⟩
 have b2:A.fb<w.heap.size:=by obtain⟨c,e,r⟩:=d.uV;exact(wS.1 r).1
 have bx:=H.cX.VV o a9 (λc hc=>(d.PR c hc).1) (by rw[d.la];exact b2) K (λm a hm ha b3 hz=>d.old _ Q m a hm ha b3 hz) d.norel g.frame.fn g.frame.place
 have a7:∀l,iQ OO Z.lk (A.b+j) A.mb xo l A.fb=none:=λl=>by
  unfold iQ
  by_cases e1:l=Z.lk
  . subst e1;rw[ao];rfl
  by_cases e2:l=A.b+j
  . subst e2;rw[az _ _ e1,ao];simp only[aj.set,A.d5,zD];exact L _
  rw[az _ _ e1,az _ _ e2];exact L _
 have b4:A.dir=true->(∀i,(kk i).cell A.fb (A.cell j)=none)/\∀m a R,touchAt t m=some a->a.loc=.cell R->R.block=A.fb/\R.off=A.cell j->m<Z.N0:=λhd=>(d.zZ hd j hj).1 (by rw[S];rfl)
 have a8:∀n,p n≠none->A.dir=true/\n=A.cell j:=λn hn=>V.PS hn
 have hP:=bx.Vk (f:=p) o a7 (λn v G i=>by
  obtain⟨hd,rfl,_⟩:=ay n v G;have r:=(b4 hd).1
  by_cases ei:i=A.b+j
  . subst ei
    rw[W];cases q:((kk (A.b+j)).join (kk Z.lk)).cell A.fb (A.cell j)with
    |none=>rfl
    |some v=>rcases ar.nX q with h|h<;>rw[r]at h<;>cases h
  . unfold ju;rw[az _ _ ei];exact r i) (λR r h2=>d.kq R ⟨r,.inr (.inr ⟨(a8 _ h2).1,j,hj,(a8 _ h2).2⟩)⟩) (by
  refine⟨cc,ee,av,?_,λn v G=>(ay n v G).2.2⟩
  rw[W];refine(ar.ti _ _).2 _ _ ?_;rw[al,ax]) (λm a R ha E r h2=>by
  obtain⟨hd,h3⟩:=a8 _ h2
  rcases ez ha with⟨h4,_⟩|⟨op,D,h4⟩
  . exact(d.old _ Q m a ((b4 hd).2 m a R h4 E ⟨r,h3⟩) h4 (by rw[E];rfl) (by rw[E];exact d.kq R ⟨r,.inr (.inr ⟨hd,j,hj,h3⟩)⟩)).app _
  rw[(b1 op D).1]at h4;cases h4) d.fP.2.1
 have hI:bU A.n (s.aZ j x s.sh):=d.I.still hj w1 w2 (by rw[hx];rfl) (by rw[hx,S];rfl)
 have hL:MS.gX A.n (s.aZ j x s.sh) s:=Cq hj w1 w2 ⟨_,_,by rw[hx];rfl,by rw[S];rfl,.single (pQ.dz Y.N Y.h0 Y.ht Y.c u)⟩
 have bA:=d.take (xo:=xo) V hZ hj w1 w2 U (by rw[hx];rfl) hI b1
 have bB:Beside (cj P A Fin Z hZ) s (s.aZ j x s.sh) f (bW f (A.b+j) ⟨Y.m,ju kk Z.lk (A.b+j) (A.b+j),lz A Z OO (A.b+j) xo p (A.b+j),g1,T⟩) q q kk (ju kk Z.lk (A.b+j)) OO (lz A Z OO (A.b+j) xo p) J J w (A.b+j) g g1:=mZ hZ hj w1 w2 (λi hi=>az _ _ hi) (λi hi=>rfl) (λi hi _=>az _ _ hi) (λi hi ht=>by unfold lz iQ;rw[az _ _ hi,az _ _ (show i≠Z.lk by omega),az _ _ hi]) (λ_ h=>h) (.inl λh=>h) (λ{i k O y} hA=>B.ly (s:=s) (i:=i) (k:=k) (O:=O) (g:=y) hA)
 refine⟨_,_,aO,s.aZ j x s.sh,bW f (A.b+j) ⟨Y.m,ju kk Z.lk (A.b+j) (A.b+j),lz A Z OO (A.b+j) xo p (A.b+j),g1,T⟩,q,ju kk Z.lk (A.b+j),lz A Z OO (A.b+j) xo p,J,M,_,_,_,rfl,hL,?_⟩;refine bJ.step B H hg b0 hP bA (λl y E hA=>?_) bB ⟨λ_=>?_,λh=>absurd h (uX hj (z _)),λh=>absurd h (kr hj (z _)),λh=>absurd (kO hj (z _)) h⟩
 . have c5:l≠A.b+j:=λe=>(H.held l E).2.1 (by rw[e];exact aW)
   exact B.tv d E _ _ hA
 rw[ao];refine⟨by show A.b+j<A.b+A.n+1;omega,rfl,?_,rfl,rfl,hr,?_,.inr hJ,λl b X' h3 h4 h5=>?_⟩
 . show Y.m=cK P A Fin (s.aZ j x s.sh) (A.b+j)
   rw[od hj (z _)];exact hm
 . rw[Deaf_own,K];rfl
 obtain rfl:l=j:=by omega
 rw[z]at h5;cases h5;exact hU
end
section
variable{P:adT}{A:bQ}{Fin:adl}{Z:Base}{s:MS P}{f:Nat->Node P}{q:adM}{kk:adS}{OO:adR}{J M:adG}{gs:adp}{gsz:Nat}{w:World}{t u:Trace}{j:Nat}{g:adJ}{x:bu P}{xo:Own}{a:nz}
def dq.give(Y:A.b+A.n+1<=Z.lk)(h:dq P A Z s kk OO J M gsz w t)(hj:j<A.n)(k:(s.w j).work=true)(D:x.work=true)(O:∀l,l<A.n->(s.w l).owns=true->l=j)(R:x.owns=false)(S:bU A.n (s.aZ j x s.sh))(T:kV (kk (A.b+j)) xo a)(E:A.GI a)(F:x.iP=(s.w j).iP)(U:A.dir=true->(kk (A.b+j)).cell A.fb (A.cell j)=some (A.val j))(V:∀op∈u,op.act.touch?=none/\∀a,op.act≠.mark (.release a)):
 dq P A Z (s.aZ j x s.sh) (oU kk Z.lk (A.b+j)) (gu OO Z.lk (A.b+j) A.mb A.fb xo) J M gsz w (t++u):=by
 have W:A.b+j≠Z.lk:=by omega
 have p:x.busy=(s.w j).busy:=by rw[(bH k).2.2.2.2.2.1,(bH D).2.2.2.2.2.1]
 have G:∀l,l≠Z.lk->oU kk Z.lk (A.b+j) l=kk l:=λl d=>az _ _ d
 have H:oU kk Z.lk (A.b+j) Z.lk=kk (A.b+j):=ao _ _ _;have eO:∀l,l≠A.b+j->l≠Z.lk->gu OO Z.lk (A.b+j) A.mb A.fb xo l=OO l:=λl k D=>by unfold gu;rw[az _ _ D,az _ _ k]
 have z:gu OO Z.lk (A.b+j) A.mb A.fb xo (A.b+j)=((OO (A.b+j)).del A.mb).del A.fb:=by unfold gu;rw[az _ _ W,ao]
 have f:gu OO Z.lk (A.b+j) A.mb A.fb xo Z.lk=aj.bot.set A.mb xo:=by unfold gu;rw[ao]
 have B:bX P A s (A.b+j):=iZ h.I hj (bH k).2.2.2.2.1
 have C:∀l,l<A.n->((s.aZ j x s.sh).w l).owns=false:=λl d=>by
  by_cases e:l=j
  . subst e;rw[ba];exact R
  rw[cC e]
  grind
 refine⟨S,h.size,h.dd,h.off,λhd l d=>⟨λr=>?_,λQ=>?_⟩,h.AZ,h.mu,h.gr,h.uV,h.Ai,λi=>?_,λi=>?_,λi y v=>?_,λl d K=>?_,λK=>?_,λc L=>?_,
  λi=>by rw[h.hJ i];exact(oR hj p i).symm,h.vU u,h.mY u,h.kM u (λop g a N=>by grind),h.oQ u (λop g a N=>by grind),h.qt u,h.jU u (λop g=>(V op g).2),λi d hb=>?_,h.tk,h.kq,h.fP,h.la,by simp;exact aaH h.n0 (abS _ _)⟩
 . have r:(s.w l).iP=false:=by
    by_cases e:l=j
    . subst e;rw[ba,F]at r;exact r
    rw[cC e]at r;exact r
   refine⟨λi=>?_,λm a X N q q'=>(ez N).elim (λk=>((h.zZ hd l d).1 r).2 m a X k.1 q q') (λ⟨op,g,k⟩=>by grind)⟩
   have k:=((h.zZ hd l d).1 r).1
   grind
 . rw[G _ (by omega)]
   by_cases e:l=j
   . grind
   rw[cC e]at Q;exact(h.zZ hd l d).2 Q
 . by_cases o:i=Z.lk
   . subst o;rw[f];simp only[aj.set,A.d3,A.d6,zD];exact⟨λ_=>rfl,rfl⟩
   by_cases e:i=A.b+j
   . subst e;rw[z]
     have:=h.ik (A.b+j);simp only[aj.del,A.d1,A.d3,wK A.d4,A.d6,zD];exact this
   rw[eO i e o];exact h.ik i
 . by_cases o:i=Z.lk
   . subst o;rw[H];exact h.eV _
   rw[G i o];exact h.eV i
 . exfalso
   by_cases o:i=Z.lk
   . subst o;rw[f]at v
     simp only[aj.set,A.d5,zD]at v;cases v
   by_cases e:i=A.b+j
   . subst e;rw[z]at v;simp[aj.del]at v
   rw[eO i e o]at v;obtain⟨l,_,d,h3,ho,_⟩:=h.tok i y v
   grind
 . grind
 . refine⟨xo,a,by rw[f];simp[aj.set],by grind,E⟩
 . rw[f]at L
   refine⟨?_,C⟩
   by_cases e:c=A.mb
   . exact e
   simp only[aj.set,e,zD]at L;exact absurd rfl L
 have e:i≠A.b+j:=λe=>hb (e ▸ B)
 rw[G i d,eO i e d];exact h.Ec i d hb
variable(C:ib P A.nm)(X:ig P A.nm)
include C X in
def QF  z  (S:bJ (cj P A Fin Z z) Z s f q kk OO J M gs w t) (hj:j<A.n){Y}(o:s.w j=.un .ur Y) (hg:gs[A.b+j]?=some g) (W:Io P A j (.un .ur Y) (kk (A.b+j)) (OO (A.b+j)) g)  sl :
 Goes P A Fin Z z s gs w t sl (A.b+j):=by
 have u:dq P A Z s kk OO J M gs.size w t:=S.ex;have B:=bq (P:=P) (A:=A) (Fin:=Fin) (Z:=Z) z;have T:(s.w j).kN=true:=by rw[o];rfl
 have U:=jr T;have a7:(s.w j).pc=.held:=by rw[o];rfl
 have hb:=A.hb;have d:A.b+j≠Z.lk:=by omega
 have a8:(A.b+j==0)=false:=by simp;omega
 have D:∀l,l<A.n->(s.w l).owns=true->l=j:=λl E e=>Ek u.I hj a7 E e
 obtain⟨τ,c,μ,hk,hM,hm,a9,aW⟩:=W;obtain⟨tf,xo,a,b0,Dl,ad,al,av,hN⟩:=a9 (.inr rfl);obtain⟨g1,F,hr,g2,⟨k,G⟩,H⟩:=H9 (Wd:=lG A) (main:=false) (w:=w) C X hM;rw[<-u.la]at F;have ax:oU kk Z.lk (A.b+j) (A.b+j)=kk (A.b+j):=az _ _ d;have ay:gu OO Z.lk (A.b+j) A.mb A.fb xo (A.b+j)=((OO (A.b+j)).del A.mb).del A.fb:=by unfold gu;rw[az _ _ d,ao]
 have K:=runT_crowd_go (P:=P) (sl:=sl) (i:=A.b+j) hg (by rw[a8];exact F)
 have aC:=js (P:=P) (A:=A) (s:=s) hj T
 have p:Deaf t (A.b+j)=0:=by obtain⟨_,_,p,_⟩:=S.walk _ aC;rw[p];show dW P A s (A.b+j)=0;rw[fC hj,o];rfl
 have L:∀op∈MemOp.ofEvents (A.b+j) g.frame.fn g.frame.place #[⟨.mark (.releaseMerge Z.la),false,true⟩],op.g=A.b+j:=λop v=>by obtain⟨e,_,rfl⟩:=za v;rfl
 have aE:∀op∈MemOp.ofEvents (A.b+j) g.frame.fn g.frame.place #[⟨.mark (.releaseMerge Z.la),false,true⟩],op.act.touch?=none/\∀a,op.act≠.mark (.release a):=λop v=>by obtain⟨e,he,rfl⟩:=za v;simp at he;subst he;exact⟨rfl,λa h=>by simp[MemAct.ofEvent]at h⟩
 have N:A.fb<w.heap.size:=by obtain⟨c,e,T⟩:=u.uV;exact(wS.1 T).1
 have Q:∀c,OO Z.lk c=none:=λc=>by
  cases e:OO Z.lk c with
  |none=>rfl
  | some y=>
    have:=(u.PR c (by rw[e];simp)).2 j hj
    rw[o]at this;cases this
 have hP:=S.cX.VW (fb:=A.fb) d Dl Q (by rw[u.la];exact N) p g.frame.fn g.frame.place
 obtain⟨x,m⟩:∃x:bu P,x=.un .ud Y:=⟨_,rfl⟩;have V:x.work=true:=by rw[m];rfl
 have r:((s.aZ j x s.sh).w j).kN=true:=by rw[ba,m];rfl
 have hI:bU A.n (s.aZ j x s.sh):=u.I.still hj U V (by rw[m];rfl) (by rw[m,o];rfl)
 have hL:MS.gX A.n (s.aZ j x s.sh) s:=mz hj U V (by rw[m,o];rfl) (by rw[m,o];rfl) (by rw[m,o];simp[bu.ex])
 have aL:=u.give z hj U V D (by rw[m];rfl) hI ad al (by rw[m,o];rfl) av aE
 have aO:Beside (cj P A Fin Z z) s (s.aZ j x s.sh) f f q (upd q (A.b+j) k) kk (oU kk Z.lk (A.b+j)) OO (gu OO Z.lk (A.b+j) A.mb A.fb xo) J J w (A.b+j) g g1:=mZ z hj U V (λi R=>rfl) (λi R=>upd_ne q k R) (λi R ht=>az _ _ (show i≠Z.lk by omega)) (λi R ht=>by unfold gu;rw[az _ _ (show i≠Z.lk by omega),az _ _ R]) (λ_ h=>h) (.inl λh=>h) (λ{i k O y} H=>B.ly (s:=s) (i:=i) (k:=k) (O:=O) (g:=y) H)
 refine⟨_,_,K,s.aZ j x s.sh,f,upd q (A.b+j) k,oU kk Z.lk (A.b+j),gu OO Z.lk (A.b+j) A.mb A.fb xo,J,M,_,_,_,rfl,hL,?_⟩;refine bJ.step B S hg L hP aL (λl y E H=>B.tv u E _ _ H) aO ⟨λE=>absurd E (m5 hj r),λ_=>⟨m5 hj r,?_,?_,g2,?_,?_⟩,λhh=>absurd hh (qv hj r),λ_ hn _=>absurd (js hj r) hn⟩
 . show A.b+j<A.b+A.n+1;omega
 . rw[Deaf_own,p]
   show _=dW P A (s.aZ j x s.sh) (A.b+j);rw[fC hj,ba,m];rfl
 . refine .inr (.inl ⟨j,hj,rfl,?_⟩)
   rw[ba,m,ax,ay];exact⟨τ,c,μ,hk,H,hm,λh=>absurd h (by simp),λ_=>hN⟩
 exact .inr (by rw[upd_same];exact G)
end

import Derived.Conc.TokenTrace
import Derived.Test.YtggpckcdfilkoaaGreatDoorC11
set_option linter.all false
namespace Go.bu
section
open Go.Conc
open Go.ConcN (sumTo upd sumTo_upd upd_ne upd_same)
section
variable{P:Rg}{A:xX P}{Z:Base}{s s':A.S}{f f':Nat->Node P}{q q':Ct}{kk kk':Zz}{OO OO':ZF}{J J' M M':ZA}{gs gs':Da}{w w':World}{t u:Trace}
structure Aside(A:xX P)(s s':A.S)(f f':Nat->Node P)(q q':Ct)(kk kk':Zz)(OO OO':ZF)(J J':ZA)(S:ZA):Prop where
 ef:∀j,¬S j->f' j=f j
 eq:∀j,¬S j->q' j=q j
 ek:∀j,¬S j->j<A.top->kk' j=kk j
 eO:∀j,¬S j->j<A.top->OO' j=OO j
 eJ:∀j,¬S j->A.Live s j->J j->J' j
 live:∀j,¬S j->(A.Live s' j↔A.Live s j)
 walk:∀j,¬S j->(A.Walk s' j↔A.Walk s j)
 held:∀j,¬S j->(A.uT s' j↔A.uT s j)
 mo:∀j,¬S j->A.Live s j->A.mo s' j=A.mo s j
 at':∀j k O x,¬S j->A.Walk s j->A.At s j k O x->A.At s' j k O x
 deaf:∀j,¬S j->A.Walk s j->A.deaf s' j=A.deaf s j
 F9:∀j,¬S j->A.Walk s j->A.F9 s j->A.F9 s' j
 atC:∀j k O x,¬S j->A.uT s j->A.LQ s j k O x->A.LQ s' j k O x
 tie:∀j x,¬S j->A.Live s j->A.WN s j x->A.WN s' j x
def cZ.PI(m:cZ A Z s f q kk OO J M gs w t)(I:qg u)(K:dX Z kk' OO' J' M' w' (t++u))(C:A.Ex s' kk' OO' J' M' gs'.size w' (t++u))(L:gs.size<=gs'.size)(S:ZA)(D:∀i,¬S i->gs'[i]?=gs[i]?)
 (a:Aside A s s' f f' q q' kk kk' OO OO' J J' S) (v:∀i,S i->∃n,gs'[i]?=some n/\Self P A s' f' q' kk' OO' J' (t++u) i n):cZ A Z s' f' q' kk' OO' J' M' gs' w' (t++u):=by
 have y:∀j,Deaf (t++u) j=Deaf t j:=λj=>dH I j
 refine⟨m.lk,K,λj g=>?_,λj g=>?_,λj g=>?_,λj x z E F G=>?_,λj g=>by rw[y];exact m.above j ac,C⟩
 . by_cases e:S j
   . obtain⟨n,B,l⟩:=v j e
     obtain⟨c,d,k⟩:=l.live g
     grind
   . have b:=(a.live j e).1 g
     obtain⟨c,d,pm,k,p,r,o,H⟩:=m.live j b;rw[a.ef j e,a.ek j e c,a.eO j e c,y j,a.mo j e b,D j e];exact⟨c,d,pm,k,p,r,o,H.1.imp id (a.eJ j e b),a.tie j _ e b H.2⟩
 . by_cases e:S j
   . obtain⟨n,B,l⟩:=v j e
     obtain⟨c,d,k,g',p,r⟩:=l.walk g
     grind
   . have b:=(a.walk j e).1 g
     obtain⟨c,d,k,x,N,p,r,o⟩:=m.walk j b;refine⟨λh=>c ((a.live j e).1 h),d,by rw[y j,a.deaf j e b];omega,x,N,am,?_,?_⟩
     . rw[a.ek j e d,a.eO j e d];exact a.at' j _ _ _ e b r
     . rw[a.eq j e]
       rcases o with⟨O,Q,R⟩|o
       . exact .inl ⟨a.F9 j e b O,Q,R⟩
       . exact .inr o
 . by_cases e:S j
   . obtain⟨n,B,l⟩:=v j e
     obtain⟨c,d,k,p,r,o⟩:=l.held g
     grind
   . have b:=(a.held j e).1 g
     obtain⟨c,d,k,p,x,V,T,U⟩:=m.held j b;refine⟨λh=>c ((a.live j e).1 h),λh=>d ((a.walk j e).1 h),k,am,x,am,T,?_⟩;rw[a.ek j e k,a.eO j e k];exact a.atC j _ _ _ e b U
 . by_cases e:S j
   . obtain⟨n,B,l⟩:=v j e
     rw[B]at z;obtain rfl:=KE z;exact l.rest E F G
   . rw[a.eq j e,y j]
     rw[D j e]at z;exact m.rest j x z (λh=>E ((a.live j e).2 h)) (λh=>F ((a.walk j e).2 h)) (λh=>G ((a.held j e).2 h))
def cZ.quiet(B:Ga A)(a:cZ A Z s f q kk OO J M gs w t){i:Nat}{x:YB}(e:gs[i]?=some x)(m:¬A.uT s i)(c:Nat)(b:Bool):offersAt x c b=[]:=by
 by_cases g:A.Live s i
 . obtain⟨_,o,_,_,_,j,_⟩:=a.live i g
   grind [offersAt_of_not_blocked]
 by_cases k:A.Walk s i
 . obtain⟨_,_,_,y,p,l,j,d⟩:=a.walk i k
   rw[e]at l;obtain rfl:=KE l;obtain⟨n,r⟩:=B.qu j;rcases d with⟨_,rfl,_⟩|d
   . unfold offersAt blk
     grind
   . exact offersAt_of_not_blocked (by rw[d.first n];decide) _ _
 . have h:=(a.rest i x e g k m).2
   refine offersAt_of_not_blocked ?_ _ _;rcases h.status with h|h<;>rw[h]<;>decide
end
section
variable{P:Rg}{A:dq}{Fin:ZD}{Z:Base}{s s':MS P}{f f':Nat->Node P}{q q':Ct}{kk kk':Zz}{OO OO':ZF}{J J' M M':ZA}{gs gs':Da}{w w':World}{t u:Trace}{i:Nat}
structure mc{P:Rg}(A:dq)(s s':MS P)(S:ZA):Prop where
 w:∀l,l<A.n -> ¬S (A.b+l)->s'.w l=s.w l
 c:¬S A.cl->s'.c=s.c
 ms:¬S 0->s'.ms=s.ms/\MS.rem P A.n s'=MS.rem P A.n s
 sh:s'.sh.ms=s.sh.ms
 gm:s'.gm=s.gm
variable{S:ZA}
def mc.live(h:mc A s s' S){j:Nat}(hj:¬S j):gV P A s' j↔gV P A s j:=by
 constructor<;>rintro(⟨b,a⟩|⟨l,a,d,e⟩|⟨b,a⟩)
 . subst b;exact .inl ⟨rfl,by rw[<-(h.ms hj).1];omega⟩
 . subst d;exact .inr (.inl ⟨l,a,rfl,by rw[<-h.w l a hj];omega⟩)
 . subst b;exact .inr (.inr ⟨rfl,by rw[<-h.c hj];omega⟩)
 . subst b;exact .inl ⟨rfl,by rw[(h.ms hj).1];omega⟩
 . subst d;exact .inr (.inl ⟨l,a,rfl,by rw[h.w l a hj];omega⟩)
 . subst b;exact .inr (.inr ⟨rfl,by rw[h.c hj];omega⟩)
def mc.walk(h:mc A s s' S){j:Nat}(hj:¬S j):ln P A s' j↔ln P A s j:=by
 constructor<;>rintro(⟨b,a⟩|⟨l,a,d,e⟩|⟨b,a⟩)
 . subst b;exact .inl ⟨rfl,by rw[<-(h.ms hj).1];omega⟩
 . subst d;exact .inr (.inl ⟨l,a,rfl,by rw[<-h.w l a hj];omega⟩)
 . subst b;exact .inr (.inr ⟨rfl,by rw[<-h.c hj];omega⟩)
 . subst b;exact .inl ⟨rfl,by rw[(h.ms hj).1];omega⟩
 . subst d;exact .inr (.inl ⟨l,a,rfl,by rw[h.w l a hj];omega⟩)
 . subst b;exact .inr (.inr ⟨rfl,by rw[h.c hj];omega⟩)
def mc.held(h:mc A s s' S){j:Nat}(hj:¬S j):ki P A s' j↔ki P A s j:=by
 constructor<;>rintro(⟨b,a⟩|⟨l,a,c,d⟩)
 . subst b;exact .inl ⟨rfl,by rw[<-(h.ms hj).1];omega⟩
 . subst c;exact .inr ⟨l,a,rfl,by rw[<-h.w l a hj];omega⟩
 . subst b;exact .inl ⟨rfl,by rw[(h.ms hj).1];omega⟩
 . subst c;exact .inr ⟨l,a,rfl,by rw[h.w l a hj];omega⟩
def qW(B:A.b+A.n+1<=Z.lk)(d:mc A s s' S)(C:∀j,¬S j->f' j=f j)(D:∀j,¬S j->q' j=q j)(E:∀j,¬S j->j<A.b+A.n+1->kk' j=kk j)(F:∀j,¬S j->j<A.b+A.n+1->OO' j=OO j)(G:∀j,¬S j->gV P A s j->J j->J' j):
 Aside (dG P A Fin Z B) s s' f f' q q' kk kk' OO OO' J J' S:=by
 have hb:=A.hb;refine⟨C,D,E,F,G,λj a=>d.live a,λj a=>d.walk a,λj a=>d.held a,λj a H=>?_,λj k O y a _ u=>?_,λj a v=>?_,λj a v hd=>?_,λj k O y a _ u=>?_,λj y a _ I=>?_⟩
 . show eF P A Fin s' j=eF P A Fin s j
   unfold eF;by_cases p:j=0
   . subst p
     simp only[ZC,(d.ms a).1,(d.ms a).2]
   rcases H with⟨g,_⟩|⟨l,i,m,_⟩|⟨g,_⟩
   . omega
   . subst m
     have e:A.b+l-A.b=l:=ac
     have r:¬A.b+l=0:=ac
     have t:A.b+l<A.b+A.n:=ac
     simp only[wN r,wS t,e,d.w l i a]
   . have t:¬j<A.b+A.n:=ac
     simp only[wN p,wN t,d.c (g ▸ a)]
 . rcases u with⟨g,h⟩|⟨l,i,m,o⟩|⟨g,h⟩
   . subst g;exact .inl ⟨rfl,by rw[(d.ms a).1];exact h⟩
   . subst m;exact .inr (.inl ⟨l,i,rfl,by rw[d.w l i a];omega⟩)
   . subst g;exact .inr (.inr ⟨rfl,by rw[d.c a];exact h⟩)
 . show iy P A s' j=iy P A s j
   unfold iy;rcases v with⟨g,L⟩|⟨l,i,m,_⟩|⟨g,_⟩
   . subst g
     rw[wS rfl,wS rfl,(d.ms a).1]
     grind
   . subst m
     have e:A.b+l-A.b=l:=ac
     have r:¬A.b+l=0:=ac
     have t:A.b+l<A.b+A.n:=ac
     simp only[wN r,wS t,e,d.w l i a]
   . have K:=d.c (g ▸ a)
     by_cases r:j=0
     . subst r
       simp only[ZC,(d.ms a).1,K]
     grind
 . rcases hd with⟨l,sv,Y,i,m,o,x⟩|⟨g,o,x⟩
   . subst m;exact .inl ⟨l,sv,Y,i,rfl,by rw[d.w l i a];omega,by rw[d.sh];omega⟩
   . subst g;exact .inr ⟨rfl,by rw[d.c a];omega,by rw[d.gm];omega⟩
 . rcases u with⟨g,g₂,z,i,m,o,x⟩|h
   . subst g;exact .inl ⟨rfl,g₂,z,i,m,o,by rw[(d.ms a).2];omega⟩
   . exact .inr h
 . exact λl b X i m o=>I l b X i m (by subst m;rw[<-o];exact(d.w l i a).symm)
theorem B2(c:A.b+A.n+1<=Z.lk)(d:cZ (dG P A Fin Z c) Z s f q kk OO J M gs w t){x:YB}(g:gs[i]?=some x)(h:s.ms≠.parked\/i≠0):offersAt x A.cF false=[]:=by
 have B:=cE (P:=P)  (Fin:=Fin)  c;have hb:=A.hb;by_cases a:ki P A s i
 . obtain⟨_,_,_,_,y,o,p,k⟩:=d.held i a
   rcases k with⟨r,_⟩|⟨j,e,m,g₂,z,v,u,_⟩
   . rcases a with⟨_,e⟩|⟨l,e,m,_⟩
     . grind
     omega
   grind [offersAt_parked_send']
 . exact d.quiet B g a _ _
theorem B3(d:A.b+A.n+1<=Z.lk)(e:cZ (dG P A Fin Z d) Z s f q kk OO J M gs w t){x:YB}(g:gs[i]?=some x)(h:∀j,j<A.n->i=A.b+j->s.w j≠.wait)(r:Nat):offersAt x r true=[]:=by
 have B:=cE (P:=P)  (Fin:=Fin)  d;have hb:=A.hb;by_cases a:ki P A s i
 . obtain⟨_,_,_,_,y,k,o,m⟩:=e.held i a
   rw[g]at k;obtain rfl:=KE k;rcases m with⟨p,g₂,z,c,_⟩|⟨j,u,v,_⟩
   . rw[c,offersAt_parked_recv']
   . rcases a with⟨c,_⟩|⟨l,c,C,D⟩
     . omega
     grind
 . exact e.quiet B g a _ _
theorem vr{i:Nat}{c:Nat}{b:Bool}(h:∀(j:Nat) (g:YB),j≠i->gs[j]?=some g->offersAt g c b=[]):partners (gs.setIfInBounds i ph) c b=[]:=(by grind [partners_nil,offersAt_ph])
end
section
variable{Z:Base}{kk:Zz}{OO:ZF}{J J' M M':ZA}{w w':World}{t u:Trace}
def dX.hand(h:dX Z kk OO J M w t){src dst:Nat}(q:src≠Z.lk)(r:dst≠Z.lk)(z:∀n,Knows t src n->Knows (t++u) dst n)(d:∀op∈u,op.act.touch?=none)(f:∀op∈u,op.act.low w.heap.size)(g:w'.heap.size=w.heap.size)(i:Calm Z w w')(hb:∀b,Kept kk OO w w' b)
 (k:∀n a,touchAt t n=some a->a.loc.isMemory=true->((∃j,J j/\Knows t j n)\/(∃p,M p/\Before t n p))->Told Z J' M' (t++u) n a):
 dX Z (dz kk dst ((kk dst).join (kk src))) OO J' M' w' (t++u):=by
 refine h.AO (λa b=>a=b\/(a=src/\b=dst)) g i hb f (λa b e n y _ _ _ c=>?_) (λj b n v l=>?_) (λj b s l=>?_) (λj b x m=>⟨j,.inl rfl,m,λs o=>?_⟩) h.om
  (λsaid=>?_) am am k
 . rcases e with rfl|⟨rfl,rfl⟩
   . exact c.app u
   grind [wo]
 . by_cases e:j=dst
   . grind [aD,az.tV]
   grind [aK]
 . by_cases e:j=dst
   . grind [aD,az.NC]
   grind [aK]
 . by_cases e:j=dst
   . subst e;rw[aD];exact(az.y7 _ _).sh b s o
   grind [aK]
 . exact noRace_appendMute (h.clean said) d
end
end
section
open Go.Conc
open Go.ConcN (sumTo upd sumTo_upd upd_ne upd_same)
variable{P:Rg}
def MS.qJ(s:MS P)(j:Nat)(x:cL P)(m1:vW)(sp1:Nat):MS P:={s with w:=λi=>if i=j then x else s.w i,ms:=m1,sp:=sp1}
section
variable{s:MS P}{j n:Nat}{x:cL P}{m1:vW}{sp1:Nat}
theorem kj:(s.qJ j x m1 sp1).w j=x:=by simp[MS.qJ]
theorem oQ{i}(h:i≠j):(s.qJ j x m1 sp1).w i=s.w i:=by simp[MS.qJ,h]
def XL:(λi=>((s.qJ j x m1 sp1).w i).pc)=Mu.set (λi=>(s.w i).pc) j x.pc:=by grind [kj,Mu.aj,oQ,Mu.ah]
def Kf(F:cL P->Nat)(hj:j<n):sumTo n (λi=>F ((s.qJ j x m1 sp1).w i))+F (s.w j)=sumTo n (λi=>F (s.w i))+F x:=by
 have e:(λi=>F ((s.qJ j x m1 sp1).w i))=upd (λi=>F (s.w i)) j (F x):=by grind [kj,upd_same,oQ,upd_ne]
 have:=sumTo_upd (λi=>F (s.w i)) (F x) id hj
 simp_all
def du.qJ(I:du n s)(hj:j<n)(E:x.cnt+m1.pend=(s.w j).cnt+s.ms.pend)(k:(s.w j).last=false)(f:x.last=false)(u:s.w j≠.gone)(v:x.ok=true)(m:x.pc=(s.w j).pc)(hi:x.oJ=false)
 (g:(sp1=s.sp/\(s.w j).oJ=false)\/(sp1=s.sp+1/\j=s.sp)) (y:x.mU=true->s.c≠.none)
 (o:match (generalizing:=false) m1 with
   |.add l=>sp1+l=n/\s.c=.none
   |.cY l p=>sp1+l=n/\s.c=.none/\1<=l/\(p=.a0\/p=.a2\/p=.a4\/p=.ae)
   |.spawn l=>sp1+l+1=n/\s.c=.none
   |.recv=>sp1=n/\s.c≠.none
   |.parked=>sp1=n/\s.c≠.none/\s.c≠.gone/\∀i,i<n->(s.qJ j x m1 sp1).w i≠.wait
   |.off=>sp1=n/\s.c≠.none):du n (s.qJ j x m1 sp1):=by
 have r:=Kf (s:=s) (x:=x) (m1:=m1) (sp1:=sp1) cL.cnt hj;have d:∀{i:Nat},((s.qJ j x m1 sp1).w i).last=(s.w i).last:=(by grind [kj,oQ])
 have dn:∀{i:Nat}{p:NX},(p=.d5\/p=.d6\/p=.d7)->((s.qJ j x m1 sp1).w i=.dn p↔s.w i=.dn p):=λ{i p} t=>by
  by_cases e:i=j
  . subst e
    rw[kj];constructor<;>intro h
    . rw[h]at f;rcases t with rfl|rfl|rfl<;>cases f
    . rw[h]at k;rcases t with rfl|rfl|rfl<;>cases k
  . rw[oQ e]
 refine⟨?_,I.g2,I.pL,λi hi h=>?_,λi l hi k h b=>?_,λi hi h=>?_,⟨I.g5.1,λh=>?_⟩,λh b q=>?_,λh b=>?_,λh=>?_,I.g9,λi a=>?_,I.okc,?_,λi a=>?_,o,λhd h i a=>?_,?_⟩
 . have:=I.g1
   show s.gc=sumTo n (λi=>((s.qJ j x m1 sp1).w i).cnt)+m1.pend;omega
 . exact I.g3 i hi am
 . rw[d]at h b;exact I.Cq i l hi k h b
 . exact I.g4 i hi am
 . obtain⟨z,A,B,F⟩:=I.g5.2 h
   exact⟨z,A,B,am⟩
 . obtain⟨i,hi,C⟩:=I.g6 h b q
   grind
 . obtain⟨i,hi,C⟩:=I.g7 h b
   grind
 . exact absurd ((I.g8 h).2.2.2 j hj) u
 . by_cases e:i=j
   . grind [kj]
   . rw[oQ e];exact I.ok i a
 . have:=I.sp
   show sp1<=n;omega
 . show ((s.qJ j x m1 sp1).w i).oJ=true↔sp1<=i
   by_cases e:i=j
   . subst e
     rw[kj,hi];rcases g with⟨h,b⟩|⟨h,b⟩
     . have:=I.idle i a
       grind
     grind
   . rw[oQ e]
     rcases g with⟨h,b⟩|⟨h,b⟩
     . rw[h];exact I.idle i a
     . rw[I.idle i a];omega
 . by_cases e:i=j
   . subst e;rw[kj]
     cases D:x.mU with
     |false=>rfl
     |true=>exact absurd h (y D)
   . rw[oQ e];exact I.early hd h i a
 . rw[XL,m,oP (λi=>(s.w i).pc)];exact I.mu
def Bq(hj:j<n)(h:x.eZ+m1.eZ<(s.w j).eZ+s.ms.eZ):MS.kS n (s.qJ j x m1 sp1) s:=by have:=Kf (s:=s) (x:=x) (m1:=m1) (sp1:=sp1) cL.eZ hj;refine .inl ?_;show m1.eZ+sumTo n _+s.c.eZ s.gc<s.ms.eZ+sumTo n _+s.c.eZ s.gc;omega
variable{A:dq}{Z:Base}{s':MS P}{kk kk':Zz}{OO:ZF}{J J' M:ZA}{gsz gsz':Nat}{w w':World}{t u:Trace}
def fP.chan(h:fP P A Z s kk OO J M gsz w t)(hI:du A.n s')(H:Cs P A s')(R:s'.d=s.d)(I:A.dir=true->∀l,l<A.n->(s'.w l).mH=(s.w l).mH/\kk' (A.b+l)=kk (A.b+l)\/(s'.w l).rel=false/\(s.w l).mH=false)(E:gsz'=A.b+s'.sp+(if s'.c.isNone||A.dir then 0 else 1))(S:A.dir=false->∃x tm,w'.heap[A.cF]?=some (.chan 0 #[] s'.c.jO x x tm))(j:∀b,b≠A.cF->w'.heap[b]?=w.heap[b]?)
 (T:s'.sh=s.sh) (U:s'.gc=s.gc) (V:s'.gv=s.gv) (W:s'.gm=s.gm) (K:∀l,l<A.n->(s'.w l).owns=(s.w l).owns) (a8:∀i b n v,(kk' i).cell b n=some v->∃l,(kk l).cell b n=some v) (L:kk' Z.lk=kk Z.lk)
 (X:∀i,J' i↔jf P A s' i) (r:s'.c=s.c\/(s.c=.none/\(s'.c=.jq\/∃q,s'.c=.wt q)/\∀m,Knows t 0 m->Knows (t++u) A.cl m)) (hu:∀op∈u,op.act.touch?=none/\∀a,op.act≠.mark (.release a))
 (C:∀i,dA P A s' i->dA P A s i\/(∀m,Knows t 0 m->Knows (t++u) i m)) (N:∀i,i≠Z.lk -> ¬dA P A s' i->kk' i=az.bot/\OO i=au.bot):
 fP P A Z s' kk' OO J' M gsz' w' (t++u):=by
 have k:∀{m:Nat}{a:Touch},touchAt (t++u) m=some a->touchAt t m=some a:=(by grind [iN])
 have g:∀i b n,(∀l,(kk l).cell b n=none)->(kk' i).cell b n=none:=λi b n hn=>by
  cases e:(kk' i).cell b n with
  |none=>rfl
  |some v=>grind
 have F:s'.c=.gone->s.c=.gone:=am
 refine⟨hI,E,R.trans h.dd,H,λhd l G=>⟨λY=>?_,λhr=>?_⟩,S,by rw[T];exact h.mu.same (.of_heap (j _ (vj A.d1))),by rw[U,V,W];exact h.gr.same (.of_heap (j _ (vj A.d2))),by rw[j _ (vj A.d1)];exact h.BZ,by rw[j _ (vj A.d2)];exact h.Fx,h.lq,
  λi=>⟨g i _ _ λl=>(h.jr l).1,g i _ _ λl=>(h.jr l).2.1,g i _ _ λl=>(h.jr l).2.2.1,g i _ _ λl=>(h.jr l).2.2.2⟩,λi y hy=>?_,λl G a7=>h.Fy l G am,λa7=>?_,λc r=>?_,
  X,λp hp=>?_,λr=>h.sR u (F r),λm a z O Q i hi=>?_,λm a z O Q=>?_,λi hi m a hm z D hz=>?_,h.oO u am,N,h.zc,h.px,h.jT,h.la,by simp;exact FL h.n0 (Iq _ _)⟩
 . have Y:(s.w l).mH=false:=am
   exact⟨λi=>g i _ _ ((h.Fc hd l G).1 Y).1,λm a ad z=>((h.Fc hd l G).1 Y).2 m a ad (k z)⟩
 . rcases I hd l G with⟨e1,e2⟩|⟨e,_⟩
   . rw[e2];exact(h.Fc hd l G).2 (by rw[cL.rel,<-e1,<-K l G];exact hr)
   grind
 . obtain⟨l,f,h3,h4,h5,h6⟩:=h.tok i y hy
   exact⟨l,f,h3,h4,am,h6⟩
 . rw[L];exact h.Wj am
 . obtain⟨h3,h4⟩:=h.Wk c r
   grind
 . obtain⟨o,h2,h3⟩:=h.B1 u p hp
   grind
 . rcases C i hi with o|o
   . exact(h.quiet m a (k z) O Q i o).app u
   . exact o m (h.quiet m a (k z) O Q 0 (.inl rfl))
 . have h0:=h.said m a (k z) O Q
   rcases r with r|⟨r,B,o⟩
   . rw[r];exact h0.app u
   . rw[r]at h0
     rcases B with B|⟨_,B⟩<;>rw[B]<;>exact o m h0
 . have a9:m<t.size:=HL hm h.n0
   rcases C i hi with o|o
   . exact(h.old i o m a hm (k z) D hz).app u
   . exact o m (h.old 0 (.inl rfl) m a hm (k z) D hz)
end
end
open Go.Conc
open Go.ConcN (sumTo upd sumTo_upd upd_ne upd_same)
section
variable{P:Rg}{A:dq}{Fin:ZD}{Z:Base}{s s':MS P}{f f':Nat->Node P}{q q':Ct}{kk kk':Zz}{OO OO':ZF}{J J' M M':ZA}{gs gs':Da}{w w':World}{t u:Trace}{j:Nat}{g g₂:YB}{z v:Value}
theorem zQ{l}:l∈MS.rem P A.n s↔l<A.n/\(s.w l).mU=false:=by
 unfold MS.rem
 grind
def XN{m1 sp1}(hj:j<A.n)(h:(s.w j).mU=false):MS.rem P A.n (s.qJ j .Fa m1 sp1)=(MS.rem P A.n s).erase j/\(MS.rem P A.n s).length=(MS.rem P A.n (s.qJ j .Fa m1 sp1)).length+1:=by
 have e:MS.rem P A.n (s.qJ j .Fa m1 sp1)=(MS.rem P A.n s).erase j:=by
  unfold MS.rem;rw[List.Nodup.erase_eq_filter (List.Nodup.sublist List.filter_sublist ahD),J4];refine Ff λi _=>?_
  by_cases a:i=j
  . subst a;rw[kj];simp[cL.mU]
  grind [oQ]
 grind [zQ]
def DX(hj:j<A.n)(e:s.w j=.wait):¬gV P A s (A.b+j):=by
 have:=A.hb;rintro(⟨e,_⟩|⟨l,a,c,d⟩|⟨e,_⟩)
 . omega
 . grind
 omega
def vt(hj:j<A.n)(e:s.w j=.wait\/s.w j=.Fa):¬ln P A s (A.b+j):=by
 have:=A.hb;rintro(⟨e,_⟩|⟨l,a,c,d⟩|⟨e,_⟩)
 . omega
 . grind
 omega
theorem DY(hj:j<A.n)(e:s.w j=.Fa):eF P A Fin s (A.b+j)=rZ P A:=by
 have:=A.hb;unfold eF
 grind
def me  g   fn   pos :MemOp.ofEvents g fn pos #[]=#[]:=by grind [ofEvents_eq]
def xB(t:Trace):t++(#[]:Trace)=t:=ap
def Kg:qg #[]:=λop h=>by simp at h
def XO  L  (k:A.dir=false) (B:cZ (dG P A Fin Z L) Z s f q kk OO J M gs w t) (hj:j<A.n){O}(o:s.w j=.run false O) (hm:s.ms≠.parked) (N:gs[A.b+j]?=some g)
 (Q:∀w,Sat (kk (A.b+j)) (OO (A.b+j)) w->stepG P false g w=.comm g₂ #[scase A.cF v z] true .send w #[]) (R:OO (A.b+j) A.fb=none) (S:V (kk (A.b+j)) v (A.res j)) (U:T P (rZ P A) lR (kk (A.b+j)) (OO (A.b+j)) (Go.Conc.served g₂ undef))  sl :
 Goes P A Fin Z L s gs w t sl (A.b+j):=by
 have m:fP P A Z s kk OO J M gs.size w t:=B.ex;have hb:=A.hb;have D:(A.b+j==0)=false:=am
 obtain⟨c,tm,W⟩:=m.Gq k
 have E:s.c.jO=false:=by
  cases e:s.c with
  |gone=>have:=(m.I.g8 (by rw[e];rfl)).2.2.2 j hj;grind
  |_=>rfl
 rw[E]at W;have X:=(CS.1 N).1;obtain⟨_,_,_,_,_,_,hd,_⟩:=B.live _ (pY hj o);have F:∀Y∈(#[scase A.cF v z]:Array CommCase),NoWays w (gs.setIfInBounds (A.b+j) ph) Y:=(by grind [ways_send_none,vr,B2])
 have p:=crowd_waits (P:=P) (sl:=sl) N (by rw[D];exact Q w (B.eU.sat _)) F
 rw[me]at p;have G:∀i,¬(i=A.b+j)->(gs.setIfInBounds (A.b+j) (parked g₂ #[scase A.cF v z] .send))[i]?=gs[i]?:=am
 have r:(gs.setIfInBounds (A.b+j) (parked g₂ #[scase A.cF v z] .send))[A.b+j]?=some (parked g₂ #[scase A.cF v z] .send):=am
 have hP:dX Z kk OO J M w (t++#[]):=by rw[xB];exact B.eU
 obtain⟨s',a⟩:=S1 (s.qJ j .wait s.ms s.sp);have d:s'.w j=.wait:=by rw[a,kj]
 have a7:∀{l:Nat},l≠j->s'.w l=s.w l:=(by grind [oQ])
 have hI:du A.n s':=by
  rw[a];refine m.I.qJ hj (by rw[o];rfl) (by rw[o];rfl) rfl am rfl (by rw[o];rfl) rfl (.inl ⟨rfl,by rw[o];rfl⟩) (λh=>by cases h) ?_
  have:=m.I.ms
  grind
 have u:∀l,l<A.n->(s'.w l).mU=(s.w l).mU:=λl _=>by
  by_cases e:l=j
  . subst e;rw[d,o];rfl
  grind
 have x:∀l,(s'.w l).busy=(s.w l).busy:=λl=>by
  by_cases e:l=j
  . subst e;rw[d,o];rfl
  grind
 have H:fP P A Z s' kk OO J M (gs.setIfInBounds (A.b+j) (parked g₂ #[scase A.cF v z] .send)).size w (t++#[]):=by
  refine m.chan hI (XI k (by rw[a];exact m.off.2.2 k)) (by rw[a];rfl) am (by rw[KV,a];exact m.size) (by rw[a];exact m.Gq) am (by rw[a];rfl) (by rw[a];rfl) (by rw[a];rfl) (by rw[a];rfl) (λl _=>?_) am rfl (λi=>?_) (.inl (by rw[a];rfl)) am (λi C=>.inl ?_) (λi K hn=>m.JX i K λh=>hn ?_)
  . by_cases e:l=j
    . subst e;rw[d,o];rfl
    grind
  . rw[m.hJ i]
    unfold jf;simp only[x,show s'.c=s.c by rw[a];rfl]
  . rw[a]at C;exact C
  . rw[a];exact h
 have hL:MS.kS A.n s' s:=by rw[a];exact Bq hj (by rw[o];simp[cL.eZ])
 have hS:mc A s s' (λi=>i=A.b+j):=⟨am,λ_=>by rw[a];rfl,λ_=>⟨by rw[a];rfl,DR u⟩,by rw[a];rfl,by rw[a];rfl⟩
 refine⟨_,_,p,s',f,q,kk,OO,J,M,_,_,_,rfl,hL,?_⟩;refine B.PI Kg hP H ap (λi=>i=A.b+j) G (by simp_all [qW]) (λi C=>?_)
 subst C;have y:ki P A s' (A.b+j):=.inr ⟨j,hj,rfl,d⟩;refine⟨_,r,λh=>absurd h (DX hj d),λh=>absurd h (vt hj (.inl d)),λ_=>⟨DX hj d,vt hj (.inl d),?_,am,rfl,.inr ⟨j,hj,rfl,g₂,z,v,rfl,S,R,U,k⟩⟩,λ_ _ h=>absurd y h⟩
 omega
def sX(a b c s r cap:Nat)(f1 d:FuncId)(e f:String):Trace:=#[{g:=a,fn:=f1,pos:=e,act:=.send c s},{g:=b,fn:=d,pos:=f,act:=.recv c r cap},{g:=a,fn:=f1,pos:=e,act:=.sendDone c s},{g:=b,fn:=d,pos:=f,act:=.recvDone c r}]
theorem sY{a b c s r cap f1 d e f op}(h:op∈sX a b c s r cap f1 d e f):op.act.touch?=none/\(op.act≠.mark .disable/\op.act≠.mark .enable)/\(∀B,c<B->op.act.low B)/\∀a,op.act≠.mark (.release a):=by
 simp  [sX,LY]at h;rcases h with rfl|rfl|rfl|rfl<;>exact⟨rfl,⟨ap,ap⟩,λB g=>g,ap⟩
def zS{w c cap s r buf cl tm d}(a:ChanAt w c){b}:
 ((w.at d).setChan c cap buf cl s r tm).heap[b]?=if b=c then some (.chan cap buf cl s r tm)else w.heap[b]?:=by
 obtain⟨_,_,_,_,_,_,h⟩:=a;simp  [World.setChan,World.at]
 grind
theorem DZ  m   R :(yA P A Fin m R).solo=false:=by cases m<;>rfl
theorem uA(e:s.ms=.recv):eF P A Fin s 0=yA P A Fin (MS.rem P A.n s).length (MS.rem P A.n s):=by
 unfold eF
 grind
def nR(e:s.ms=.recv):gV P A s 0:=.inl ⟨rfl,aq⟩
def zT(hd:A.dir=false)(e:s.ms=.recv\/s.ms=.parked):¬ln P A s 0:=by
 have:=A.hb;have:=BY hd;rintro(⟨_,h⟩|⟨l,a,b,c⟩|⟨h,_⟩)
 . grind
 . omega
 omega
def Kh{x}:Xs P A s 0 x:=λj h X a b _=>by have:=A.hb;omega
def Oj{x}(e:s.w j=.Fa):Xs P A s (A.b+j) x:=λl h X a c d=>aq
def handed  U  (u:A.dir=false) (C:cZ (dG P A Fin Z U) Z s f q kk OO J M gs w t) (hj:j<A.n) (D:s.ms=.recv\/s.ms=.parked) (E:s.w j=.wait\/∃X0,s.w j=.run false X0) (aF:(s.w j).eZ+s.ms.eZ=119){c tm gw gm v}  d
 (hF:w.heap[A.cF]?=some (.chan 0 #[] false c c tm)) (dj:Deaf t (A.b+j)=0) (d0:Deaf t 0=0)
 (W:gs'.size=gs.size) (hw:gs'[A.b+j]?=some gw) (hm:gs'[0]?=some gm) (ho:∀i,i≠0->i≠A.b+j->gs'[i]?=gs[i]?)
 (hv:V (kk (A.b+j)) v (A.res j)) (X:T P (rZ P A) lR (kk (A.b+j)) (OO (A.b+j)) gw)
 (Y:∀k',(kk 0).Le k'->V k' v (A.res j)->T P (yA P A Fin ((MS.rem P A.n s).length-1) ((MS.rem P A.n s).erase j)) lR k' (OO 0) gm)  f1 F   G H :
 ∃s' f' kk',MS.kS A.n s' s/\cZ (dG P A Fin Z U) Z s' f' q kk' OO J M gs' ((w.at d).setChan A.cF 0 #[] false (c+1) (c+1) tm) (t++sX (A.b+j) 0 A.cF c c 0 f1 F G H):=by
 have z:fP P A Z s kk OO J M gs.size w t:=C.ex;have hb:=A.hb;have B:ChanAt w A.cF:=⟨_,_,_,_,_,_,hF⟩;have aL:A.cF<w.heap.size:=am
 have hu:qg (sX (A.b+j) 0 A.cF c c 0 f1 F G H):=λop h=>(sY h).2.1
 have a7:(kk (A.b+j)).Le ((kk 0).join (kk (A.b+j))):=az.Dk (C.eU.sat 0) (C.eU.sat _);have a8:=Y _ (az.y7 _ _) (hv.mono a7);obtain⟨K⟩:=T.tree (by grind [DZ]) a8
 obtain⟨L⟩:=T.tree (P:=P) (m:=rZ P A) rfl X;have aO:=D
 have a9:s.sp=A.n/\s.c≠.none:=by
  have:=z.I.ms
  grind
 have aW:s.c.jO=false:=by
  cases e:s.c with
  |gone=>have:=(z.I.g8 (by rw[e];rfl)).2.2.2 j hj;grind
  |_=>rfl
 have hP:dX Z (dz kk 0 ((kk 0).join (kk (A.b+j)))) OO J M ((w.at d).setChan A.cF 0 #[] false (c+1) (c+1) tm) (t++sX (A.b+j) 0 A.cF c c 0 f1 F G H):=by
  refine C.eU.hand (src:=A.b+j) (dst:=0) ac ac (λn hn=>?_) (by grind [sY]) (by grind [sY]) (by simp[World.setChan,World.at]) ⟨⟨.refl _,rfl⟩,λb hb=>by have:=z.jT.1 u;simp only[World.setChan,World.at];grind⟩ (λb=>?_) (λn a ha hm h=>h.elim (λ⟨j,h1,h2⟩=>.inr (.inl ⟨j,h1,h2.app _⟩)) (λ⟨p,h1,h2⟩=>.inr (.inr (.inl ⟨p,h1,h2.app _⟩))))
  . exact aiS (t:=t) hu (m1:=0) (m2:=3) (c:=A.cF) (k:=c) (x:={g:=A.b+j,fn:=f1,pos:=G,act:=.send A.cF c}) (y:={g:=0,fn:=F,pos:=H,act:=.recvDone A.cF c}) rfl rfl rfl rfl dj d0 hn
  . unfold Kept
    rw[zS B]
    by_cases ab:b=A.cF
    . subst ab
      exact .inr (.inl ⟨B,⟨_,_,_,_,_,_,by rw[zS B,wS rfl]⟩,λi=>(z.lq i).1 u⟩)
    grind
 have ad:(s.w j).mU=false:=by rcases E with h|⟨_,h⟩<;>rw[h]<;>rfl
 obtain⟨s',o⟩:=S1 (s.qJ j .Fa .recv s.sp);obtain⟨N,al⟩:=XN (A:=A) (s:=s) (m1:=.recv) (sp1:=s.sp) hj ad;rw[<-o]at N al;have r:s'.w j=.Fa:=by rw[o,kj]
 have b0:∀{l:Nat},l≠j->s'.w l=s.w l:=(by grind [oQ])
 have O:s'.c=s.c:=by rw[o];rfl
 have Q:s'.ms=.recv:=by rw[o];rfl
 have av:(s.w j).busy=true/\(s.w j).cnt=1/\(s.w j).last=false/\(s.w j).pc=.out/\(s.w j).oJ=false/\s.w j≠.gone/\(s.w j).owns=false:=by rcases E with h|⟨_,h⟩<;>rw[h]<;>simp[cL.busy,cL.cnt,cL.last,cL.pc,cL.oJ,cL.owns]
 obtain⟨b1,b2,b3,b4,b5,b6,b7⟩:=av
 have hI:du A.n s':=by rw[o];refine z.I.qJ hj (by rw[b2];rcases D with e|e<;>rw[e]<;>rfl) b3 rfl b6 rfl (by rw[b4];rfl) rfl am am a9
 have ax:∀l,(s'.w l).busy=(s.w l).busy:=λl=>by
  by_cases e:l=j
  . subst e;rw[r,b1];rfl
  grind
 have ay:fP P A Z s' (dz kk 0 ((kk 0).join (kk (A.b+j)))) OO J M gs'.size ((w.at d).setChan A.cF 0 #[] false (c+1) (c+1) tm) (t++sX (A.b+j) 0 A.cF c c 0 f1 F G H):=by
  refine z.chan hI am (by rw[o];rfl) am (by rw[W,o];exact z.size) (λ_=>⟨c+1,tm,by simp_all [zS]⟩) (by simp_all [zS]) (by rw[o];rfl) (by rw[o];rfl) (by rw[o];rfl) (by rw[o];rfl) (λl _=>?_) (λi b n v h=>?_) (by grind [aK]) (λi=>?_) (.inl O) (by grind [sY]) (λi S=>.inl ?_) (λi aC hn=>?_)
  . by_cases e:l=j
    . subst e;rw[r,b7];rfl
    grind
  . by_cases e:i=0
    . grind [aD,az.tV]
    grind [aK]
  . rw[z.hJ i]
    unfold jf
    grind
  . rw[o]at S;exact S
  . have R:¬dA P A s i:=λh=>hn (by rw[o];exact h)
    rw[aK _ _ (λe=>R (.inl e))]
    exact z.JX i aC R
 have hL:MS.kS A.n s' s:=by rw[o];refine Bq hj ?_;have e1:(cL.Fa (P:=P)).eZ=18:=rfl;have e2:vW.recv.eZ=100:=rfl;omega
 have hS:mc A s s' (λi=>i=0\/i=A.b+j):=⟨am,λ_=>O,ac,by rw[o];rfl,by rw[o];rfl⟩
 refine⟨s',dz (dz f 0 ⟨_,_,_,_,K⟩) (A.b+j) ⟨_,_,_,_,L⟩,dz kk 0 ((kk 0).join (kk (A.b+j))),hL,?_⟩;refine C.PI hu hP ay ac (λi=>i=0\/i=A.b+j) am (qW U hS (by grind [aK]) ac (by grind [aK]) am am) (λi S=>?_)
 rcases S with rfl|rfl
 . refine⟨gm,hm,λ_=>?_,λh=>absurd h (zT u (.inl Q)),λh=>absurd h (sW aq),λh=>absurd (nR Q) h⟩
   have aE:(0:Nat)≠A.b+j:=ac
   rw[aK _ _ aE,aD,aD];refine⟨by show 0<A.b+A.n+1;omega,rfl,?_,rfl,rfl,K.running,by grind [dH],.inl rfl,Kh⟩
   show yA P A Fin _ _=eF P A Fin s' 0
   grind [uA]
 . refine⟨gw,hw,λ_=>?_,λh=>absurd h (vt hj (.inr r)),λh=>absurd h (Bo hj r),λh=>absurd (zP hj r) h⟩
   rw[aD,aK _ _ ac]
   refine⟨by show A.b+j<A.b+A.n+1;omega,rfl,?_,rfl,rfl,L.running,by grind [dH],.inr ((z.hJ _).2 (.inl ⟨j,hj,rfl,b1⟩)),Oj r⟩
   show rZ P A=eF P A Fin s' (A.b+j)
   grind [DY]
def tt5{k O g g₂ a z y}(h:iw P A k O g g₂ z)(c:iw P A k O g a y)(b:Sat k O w):a=g₂/\y=z:=by
 have e:=(h w b).symm.trans (c w b);simp  [rcase]at e
 grind
def ZAt{g g' cs a sh b}(h:parked g cs sh=parked g' a b):(∀v,Go.Conc.served g v=Go.Conc.served g' v)/\cs=a/\sh=b/\g.frame=g'.frame:=by
 refine⟨λv=>?_,?_,?_,?_⟩
 . show Go.Conc.served (parked g cs sh) v=Go.Conc.served (parked g' a b) v;rw[h]
 . have:=congrArg (λx:YB=>x.offers) h
   simp  [parked,td]at this
   grind
 . have:=congrArg (λx:YB=>x.offers) h
   simp  [parked,td]at this
   grind
 . show(parked g cs sh).frame=(parked g' a b).frame;rw[h]
def Gt{k O g g₂ z m R N}(h:(yA P A Fin (m+1) R).fY k O g N)(b:iw P A k O g g₂ z)(c:Sat k O w){j}(hj:j∈R):
 ∀k' v,k.Le k'->V k' v (A.res j)->T P (yA P A Fin m (R.erase j)) lR k' O (g₂.finishComm P #[rcase A.cF z] (.recv true) 0 v true):=by
 obtain⟨_,a,y,d,f,i,e⟩:=h;obtain⟨rfl,rfl⟩:=tt5 b d c;exact e j hj
def TB{m R k O g N}(h:(yA P A Fin m R).fY k O g N):
 ∃g₂ z,iw P A k O g g₂ z/\iw P A k O g₂ g₂ z/\g₂.status=.running/\(yA P A Fin m R).fY k O g₂ lR:=by
 cases m with
 |zero=>obtain⟨_,g₂,z,c,a,b,d⟩:=h;exact⟨g₂,z,c,a,b,rfl,g₂,z,a,a,b,d⟩
 |succ m=>obtain⟨_,g₂,z,c,a,b,d⟩:=h;exact⟨g₂,z,c,a,b,rfl,g₂,z,a,a,b,d⟩
def D5(hj:j<A.n)(h:(s.w j).mU=false):∃m,(MS.rem P A.n s).length=m+1:=by
 have:j∈MS.rem P A.n s:=zQ.2 ⟨hj,h⟩;have:=List.length_pos_of_mem this
 simp_all
def Ki(I:du A.n s)(hj:j<A.n)(h:s.w j≠.gone):s.c.jO=false:=by
 cases e:s.c with
 |gone=>exact absurd ((I.g8 (by rw[e];rfl)).2.2.2 j hj) h
 |_=>rfl
def TC  u  (d:A.dir=false) (o:cZ (dG P A Fin Z u) Z s f q kk OO J M gs w t) (hj:j<A.n){Q}(y:s.w j=.run false Q) (B:s.ms=.parked) (F:gs[A.b+j]?=some g)
 (R:∀w,Sat (kk (A.b+j)) (OO (A.b+j)) w->stepG P false g w=.comm g₂ #[scase A.cF v z] true .send w #[]) (S:V (kk (A.b+j)) v (A.res j)) (U:T P (rZ P A) lR (kk (A.b+j)) (OO (A.b+j)) (Go.Conc.served g₂ undef))  sl :
 Goes P A Fin Z u s gs w t sl (A.b+j):=by
 have G:fP P A Z s kk OO J M gs.size w t:=o.ex;have hb:=A.hb;have C:(A.b+j==0)=false:=am
 obtain⟨c,tm,D⟩:=G.Gq d;rw[Ki G.I hj am]at D
 have W:=(CS.1 F).1;obtain⟨_,_,_,_,_,_,hd,_⟩:=o.live _ (pY hj y);obtain⟨_,_,_,X,gp,H,_,Y⟩:=o.held 0 (.inl ⟨rfl,B⟩);obtain⟨_,gm,K,rfl,p6,p7,L⟩|⟨l,h1,h2,_⟩:=Y
 . have a:=stand_get (i:=A.b+j) (show(0:Nat)≠A.b+j by omega) H
   have h:partners (gs.setIfInBounds (A.b+j) ph) A.cF false=[(0,0)]:=by
    rw[partners_one a (λk x hk N=>?_),offersAt_parked_recv,wS rfl]
    . rfl
    . rcases getElem?_stand gs (A.b+j) k x N with⟨_,rfl⟩|⟨a7,N⟩
      . exact offersAt_ph ..
      grind [B2]
   have e:=crowd_send_meets (P:=P) (sl:=sl) F (by rw[C];exact R w (o.eU.sat _)) D ac H h
   rw[me]at e;have E:(s.w j).mU=false:=by rw[y];rfl
   obtain⟨m,p⟩:=D5 (A:=A) (s:=s) hj E;rw[p]at L;have O:0<gs.size:=ac
   obtain⟨s',f',kk',hL,r⟩:=handed u d o hj (.inr B) am (by rw[y,B];rfl) (gs':=(gs.setIfInBounds 0 (gm.finishComm P #[rcase A.cF K] (.recv true) 0 v true)).setIfInBounds (A.b+j) (g₂.finishComm P #[scase A.cF v z] .send 0 undef false)) (gw:=Go.Conc.served g₂ undef) (gm:=gm.finishComm P #[rcase A.cF K] (.recv true) 0 v true) w.drawn D hd X ap
    (by rw[Ik aq];rfl) am
    am S U
    (λk' e1 e2=>by rw[p];exact Gt L p6 (o.eU.sat 0) (by grind [zQ]) k' v e1 e2) g₂.frame.fn gm.frame.fn g₂.frame.place gm.frame.place
   refine⟨_,_,e,s',f',q,kk',OO,J,M,_,_,sl,rfl,hL,?_⟩;rw[show w.at w.drawn=w from rfl]at r
   simpa[sX]using r
 omega
def TD  X  (v:A.dir=false) (u:cZ (dG P A Fin Z X) Z s f q kk OO J M gs w t) (Y:s.ms=.recv) (hj:j<A.n) (hw:s.w j=.wait) (hg:gs[0]?=some g)
 (hs:iw P A (kk 0) (OO 0) g g₂ z){N}(ht:(yA P A Fin (MS.rem P A.n s).length (MS.rem P A.n s)).fY (kk 0) (OO 0) g N)  sl :
 Goes P A Fin Z X s gs w t sl 0:=by
 have hE:fP P A Z s kk OO J M gs.size w t:=u.ex;have hb:=A.hb;obtain⟨c,tm,hF⟩:=hE.Gq v;rw[Ki hE.I hj am]at hF
 have ad:=(CS.1 hg).1;obtain⟨_,_,_,_,_,_,d0,_⟩:=u.live _ (nR Y)
 have h:∀{i:Nat}{x:YB},gs[i]?=some x->i≠0->ki P A s i->∃a,a<A.n/\i=A.b+a/\s.w a=.wait/\∃p B o,x=parked p #[scase A.cF o B] .send/\V (kk i) o (A.res a)/\T P (rZ P A) lR (kk i) (OO i) (Go.Conc.served p undef):=λ{i x} F G D=>by
  obtain⟨_,_,_,_,y,r1,r2,r3⟩:=u.held i D;rw[F]at r1;obtain rfl:=KE r1
  rcases r3 with⟨h0,_⟩|⟨a,h1,h2,p,B,o,h3,h4,_,h5,_⟩
  . omega
  . refine⟨a,h1,h2,?_,p,B,o,h3,h4,h5⟩
    rcases D with⟨h6,_⟩|⟨l,h6,h7,h8⟩
    . omega
    grind
 obtain⟨_,_,_,_,x0,e0,_⟩:=u.held (A.b+j) (.inr ⟨j,hj,rfl,hw⟩);obtain⟨a0,_,_,_,al,av,ax,rfl,_⟩:=h e0 ac (.inr ⟨j,hj,rfl,hw⟩)
 have a7:partners (gs.setIfInBounds 0 ph) A.cF true≠[]:=λe=>by
  have:(A.b+j,0)∈partners (gs.setIfInBounds 0 ph) A.cF true:=mem_partners.2 ⟨_,stand_get ac e0,by simp_all [offersAt_parked_send]⟩
  grind
 have a8:∀i k,(i,k)∈partners (gs.setIfInBounds 0 ph) A.cF true->k=0/\i≠0/\∃x,gs[i]?=some x/\ki P A s i:=λi k H=>by
  obtain⟨x,F,hk⟩:=mem_partners.1 H
  rcases getElem?_stand gs 0 i x F with⟨_,rfl⟩|⟨hi,F⟩
  . grind [offersAt_ph]
  . by_cases D:ki P A s i
    . obtain⟨a,_,_,_,p,B,o,rfl,_⟩:=h F hi D
      rw[offersAt_parked_send,wS rfl]at hk
      simp_all
    . rw[u.quiet (by grind [cE]) F D]at hk;grind
 have K:∀i k,(i,k)∈partners (gs.setIfInBounds 0 ph) A.cF true->k=0/\i≠0/\∃p o B L,gs[i]?=some (parked p #[scase A.cF o B] L):=λi k H=>am
 obtain⟨i,p,o,B,L,d,G,E,C⟩:=crowd_recv_meets_some (P:=P) (sl:=sl) hg (show stepG P (0==0) g w=_ from hs w (u.eU.sat 0)) hF a7 K
 rw[me]at C
 have r:ki P A s i:=K3 λD=>by
  have:=u.quiet (by simp[cE]) E D A.cF true
  rw[offersAt_parked_send,wS rfl]at this
  grind
 obtain⟨a,a2,rfl,a3,ay,aC,a9,O,Q,e3⟩:=h E G r;obtain⟨i1,i2,i3,i4⟩:=ZAt O
 have i5:o=a9:=by
  have:=congrArg (λx:Array CommCase=>x[0]?) i2
  simp[scase]at this
  grind
 subst i3;subst i5;obtain⟨_,_,_,dj,_⟩:=u.held _ r;have R:=(CS.1 E).1;have S:(s.w a).mU=false:=by rw[a3];rfl
 obtain⟨m,U⟩:=D5 (A:=A) (s:=s) a2 S;have W:=ht;rw[U]at W
 obtain⟨s',f',kk',hL,ab⟩:=handed X v u a2 (.inl Y) (.inl a3) (by rw[a3,Y];rfl) (gs':=(gs.setIfInBounds (A.b+a) (p.finishComm P #[scase A.cF o B] .send 0 undef false)).setIfInBounds 0 (g₂.finishComm P #[rcase A.cF z] (.recv true) 0 o true)) (gw:=Go.Conc.served p undef) (gm:=g₂.finishComm P #[rcase A.cF z] (.recv true) 0 o true) d hF dj d0 ap
  (by rw[It ac,Ik R];rfl) am
  (λi O Q=>by rw[It (vj O),It (vj Q)]) Q am
  (λk' O Q=>by rw[U];exact Gt W hs (u.eU.sat 0) (zQ.2 ⟨a2,S⟩) k' o O Q) p.frame.fn g₂.frame.fn p.frame.place g₂.frame.place
 refine⟨_,_,C,s',f',q,kk',OO,J,M,_,_,sl,rfl,hL,?_⟩;simpa[sX]using ab
def zV(hd:A.dir=false)(a:s.ms=.parked):¬gV P A s 0:=by
 have:=A.hb;have:=BY hd;rintro(⟨_,h⟩|⟨l,b,c,d⟩|⟨h,_⟩)
 . grind
 . omega
 omega
def TE  K  (d:A.dir=false) (p:cZ (dG P A Fin Z K) Z s f q kk OO J M gs w t) (x:s.ms=.recv) (B:∀j,j<A.n->s.w j≠.wait) (C:s.c≠.gone) (L:gs[0]?=some g)
 (Q:iw P A (kk 0) (OO 0) g g₂ z) (D:iw P A (kk 0) (OO 0) g₂ g₂ z) (R:g₂.status=.running) (ht:(yA P A Fin (MS.rem P A.n s).length (MS.rem P A.n s)).fY (kk 0) (OO 0) g₂ lR)  sl :
 Goes P A Fin Z K s gs w t sl 0:=by
 have b:fP P A Z s kk OO J M gs.size w t:=p.ex;have hb:=A.hb;obtain⟨c,tm,N⟩:=b.Gq d
 have r:s.c.jO=false:=by grind [DU]
 rw[r]at N;have S:=(CS.1 L).1;obtain⟨_,_,_,_,_,_,d0,_⟩:=p.live _ (nR x)
 have u:∀E∈(#[rcase A.cF z]:Array CommCase),NoWays w (gs.setIfInBounds 0 ph) E:=λE T=>by
  have:E=rcase A.cF z:=am
  subst this;exact ways_recv_none N (by grind [vr,B3])
 have k:=crowd_waits (P:=P) (sl:=sl) L (show stepG P (0==0) g w=_ from Q w (p.eU.sat 0)) u
 rw[me]at k;have F:∀i,¬(i=0)->(gs.setIfInBounds 0 (parked g₂ #[rcase A.cF z] (.recv true)))[i]?=gs[i]?:=am
 have l:(gs.setIfInBounds 0 (parked g₂ #[rcase A.cF z] (.recv true)))[0]?=some (parked g₂ #[rcase A.cF z] (.recv true)):=am
 have U:dX Z kk OO J M w (t++#[]):=by rw[xB];exact p.eU
 obtain⟨s',a⟩:=S1 (s.tC .parked s.gc);have e:s'.ms=.parked:=by rw[a];rfl
 have V:s'.w=s.w:=by rw[a];rfl
 have v:s'.c=s.c:=by rw[a];rfl
 have m:=b.I.ms;rw[x]at m
 have W:du A.n s':=by rw[a];exact⟨by have:=b.I.g1;rw[x]at this;exact this,b.I.g2,b.I.pL,b.I.g3,b.I.Cq,b.I.g4,b.I.g5,b.I.g6,b.I.g7,b.I.g8,b.I.g9,b.I.ok,b.I.okc,b.I.sp,b.I.idle,⟨m.1,m.2,C,B⟩,b.I.early,b.I.mu⟩
 have G:fP P A Z s' kk OO J M (gs.setIfInBounds 0 (parked g₂ #[rcase A.cF z] (.recv true))).size w (t++#[]):=by
  refine b.chan W am (by rw[a];rfl) am (by rw[KV,a];exact b.size) am am (by rw[a];rfl) (by rw[a];rfl) (by rw[a];rfl) (by rw[a];rfl) am am rfl (λi=>?_) (.inl v) am (λi y=>.inl ?_) (λi H X=>b.JX i H λh=>X ?_)
  . rw[b.hJ i]
    unfold jf
    simp_all
  . rw[a]at y;exact y
  . rw[a];exact h
 have Y:MS.kS A.n s' s:=by
  refine .inl ?_;rw[a];show vW.parked.eZ+sumTo A.n (λi=>(s.w i).eZ)+s.c.eZ s.gc<s.ms.eZ+sumTo A.n (λi=>(s.w i).eZ)+s.c.eZ s.gc
  rw[x];have e1:vW.parked.eZ=99:=rfl;have e2:vW.recv.eZ=100:=rfl;omega
 have O:MS.rem P A.n s'=MS.rem P A.n s:=(by grind [DR])
 have hS:mc A s s' (λi=>i=0):=⟨am,λ_=>v,ac,by rw[a];rfl,by rw[a];rfl⟩
 refine⟨_,_,k,s',f,q,kk,OO,J,M,_,_,_,rfl,Y,?_⟩;refine p.PI Kg U G ap (λi=>i=0) F (by simp_all [qW]) (λi y=>?_)
 subst y;have o:ki P A s' 0:=.inl ⟨rfl,e⟩;refine⟨_,l,λh=>absurd h (zV d e),λh=>absurd h (zT d (.inr e)),λ_=>⟨zV d e,zT d (.inr e),?_,am,rfl,.inl ⟨rfl,g₂,z,rfl,D,R,aq⟩⟩,λ_ _ h=>absurd o h⟩
 omega
end
def m8(c:Nat):KP:=#[⟨.obj c,false,true⟩,⟨.obj c,true,true⟩]
def sZ  i   fn   pos   c :MemOp.ofEvents i fn pos (m8 c)=#[{g:=i,fn:=fn,pos:=pos,act:=.access ⟨.obj c,false,true⟩},{g:=i,fn:=fn,pos:=pos,act:=.close c}]:=by rw[ofEvents_eq];simp[m8,MemAct.ofEvent]
def ku{i fn pos c op}(h:op∈MemOp.ofEvents i fn pos (m8 c)):op.g=i/\(op.act≠.mark .disable/\op.act≠.mark .enable)/\(∀a,op.act.touch?=some a->a.loc=.obj c/\a.kind=.atomic)/\(∀B,c<B->op.act.low B)/\∀a,op.act≠.mark (.release a):=by
 rw[sZ]at h;simp  [LY]at h;rcases h with rfl|rfl
 . exact⟨rfl,am,λa b=>by simp  [MemAct.touch?]at b;grind,λB d=>d,ap⟩
 . exact⟨rfl,am,λa b=>(by cases b),λB d=>d,ap⟩
section
variable{P:Rg}{A:dq}{Fin:ZD}{Z:Base}{s s':MS P}{f f':Nat->Node P}{q q':Ct}{kk kk':Zz}{OO OO':ZF}{J J' M M':ZA}{gs gs':Da}{w w':World}{t u:Trace}{j:Nat}{g g₂:YB}{z v:Value}
theorem iw.again{k O g g₂ z a}(h:iw P A k O g g₂ z)(c:g.status=.running)  sh :iw P A k O {parked g #[rcase A.cF a] sh with status:=.running} g₂ z:=λw b=>by exact h w b
def stV{m R k O g z sh N}(h:(yA P A Fin m R).fY k O g N)(e:g.status=.running):
 T P (yA P A Fin m R) lR k O {parked g #[rcase A.cF z] sh with status:=.running}:=by
 refine .fY lR rfl ?_ (λ_ _ _ h=>h.elim);cases m with
 |zero=>obtain⟨_,g₂,y,a,b,c,d⟩:=h;exact⟨rfl,g₂,y,a.again e sh,b,c,d⟩
 |succ m=>obtain⟨_,g₂,y,a,b,c,d⟩:=h;exact⟨rfl,g₂,y,a.again e sh,b,c,d⟩
def dX.shut(h:dX Z kk OO J M w t){i c x tm}(C:∀l,J l->l=i)(D:∀p,¬M p)(r:w.heap[c]?=some (.chan 0 #[] false x x tm))(E:∀l,OO l c=none)(F:∀n b,touchAt t n=some b->b.loc=.obj c->b.kind=.plain->Knows t i n)(v:Z.W0.heap.size<=c)  fn   pos :
 dX Z kk OO (λ_=>False) (λp=>p=t.size+1) {w with heap:=w.heap.setIfInBounds c (.chan 0 #[] true x x tm)} (t++MemOp.ofEvents i fn pos (m8 c)):=by
 have k:c<w.heap.size:=am;have j:(MemOp.ofEvents i fn pos (m8 c))[1]?=some {g:=i,fn:=fn,pos:=pos,act:=.close c}:=by simp[sZ]
 have f:∀b,(w.heap.setIfInBounds c (.chan 0 #[] true x x tm))[b]?=if b=c then some (.chan 0 #[] true x x tm)else w.heap[b]?:=am
 refine h.AO (λa b=>a=b) ap ⟨⟨.refl _,rfl⟩,am⟩ (λb=>?_) (λop d=>(ku d).2.2.2.1 _ k) (λa b e n y _ _ _ G=>by subst e;exact G.app _) am am am h.om
  (λsaid=>noRace_append (h.clean said) (λop d=>(ku d).1) λn a q op d b hb r=>?_) (λop d a q z=>?_) (λm op a d q z=>?_) (λn a q z H=>?_)
 . show Kept kk OO w _ b
   unfold Kept;rw[f];by_cases s:b=c
   . subst s
     exact .inr (.inl ⟨⟨_,_,_,_,_,_,r⟩,⟨_,_,_,_,_,_,by rw[f,wS rfl]⟩,E⟩)
   grind
 . obtain⟨A,I⟩:=(ku d).2.2.1 b hb
   obtain⟨L,_,_,N⟩:=r
   grind
 . obtain⟨A,I⟩:=(ku d).2.2.1 a q
   rw[A];exact⟨k,λl o O=>aq⟩
 . refine .inr (.inr (.inl ⟨t.size+1,rfl,?_⟩))
   have u:m=0:=by
    rw[sZ]at d
    match m,d with
    |0,_=>rfl
    |1,d=>simp at d;subst d;simp[MemAct.touch?]at q
    |m+2,d=>grind
   subst u;exact .inr (hb_po ac am (kV (m:=1) j) (ku (K9 d)).1)
 . rcases H with⟨l,B,K⟩|⟨p,B,_⟩
   . obtain rfl:=C l B
     exact .inr (.inr (.inl ⟨t.size+1,rfl,rq (m:=1) K j rfl⟩))
   grind
def TF  hZ  (u:A.dir=false) (H:cZ (dG P A Fin Z hZ) Z s f q kk OO J M gs w t) (V:s.c=.oI) (hg:gs[A.cl]?=some g){N}(ht:(zJ P A).fY (kk A.cl) (OO A.cl) g N)  sl :
 Goes P A Fin Z hZ s gs w t sl A.cl:=by
 have d:fP P A Z s kk OO J M gs.size w t:=H.ex;have hb:=A.hb;obtain⟨rfl,g',nq,b0,W,hq⟩:=ht;have aL:=BY u;obtain⟨x,tm,hF⟩:=d.Gq u;have ab:s.c.jO=false:=by rw[V];rfl
 rw[ab]at hF;obtain⟨c0,v0,m0,K⟩:=d.I.g8 (by rw[V];rfl)
 have F:s.sp=A.n/\(s.ms=.recv\/s.ms=.parked):=by
  have:=d.I.ms;cases e:s.ms with
  |recv=>grind
  |parked=>grind
  |add l=>grind
  |cY l p=>grind
  |spawn l=>grind
  |off=>exact absurd e (d.off.2.2 u)
 have b1:=(CS.1 hg).1;obtain⟨_,_,_,_,_,_,hd,_⟩:=H.live _ (Bm (.inl V));have ad:(A.cl==0)=false:=am
 have b2:A.cF<w.heap.size:=am
 have D:=runT_crowd_go (P:=P) (sl:=sl) (i:=A.cl) hg (by rw[ad];exact W w x x tm (H.eU.sat _) hF)
 obtain⟨w',al⟩:=S1 ({w with heap:=w.heap.setIfInBounds A.cF (.chan 0 #[] true x x tm)})
 have hP:=H.eU.shut (i:=A.cl) (c:=A.cF) (x:=x) (tm:=tm) (λl O=>by
  rcases(d.hJ l).1 O with⟨j,v,B,C⟩|⟨v,_⟩
  . rw[K j v]at C;cases C
  omega) (λp hp=>by
  obtain⟨_,_,C⟩:=d.hM p hp
  grind) hF (λl=>(d.lq l).1 u) (λn b hb O X=>d.quiet n b hb (by rw[O];exact⟨rfl,u⟩) X _ (Od am)) (d.jT.1 u) g.frame.fn g.frame.place
 rw[<-al]at D hP
 change runT P (crowd gs w sl) A.cl=(_,MemOp.ofEvents A.cl g.frame.fn g.frame.place (m8 A.cF))at D
 have hu:qg (MemOp.ofEvents A.cl g.frame.fn g.frame.place (m8 A.cF)):=λop h=>(ku h).2.1
 have k:∀b,w'.heap[b]?=if b=A.cF then some (.chan 0 #[] true x x tm)else w.heap[b]?:=am
 have b3:g'.status≠.blocked/\g'.status≠.waiting:=by rcases hq.status with h|h<;>rw[h]<;>simp
 have av:∀o,woken P g g' w' o=o.again w':=λo=>by
  unfold Go.Conc.woken
  grind
 have a9:∀i o,gs[i]?=some o->i≠0->i≠A.cl->woken P g g' w' o=o:=λi o ho Q hn=>by
  have nl:¬gV P A s i:=by
   rintro(⟨e,_⟩|⟨l,v,B,C⟩|⟨e,_⟩)
   . omega
   . grind
   omega
  have nw:¬ln P A s i:=by
   rintro(⟨e,_⟩|⟨l,v,B,C⟩|⟨e,_⟩)
   . omega
   . grind
   omega
  have nh:¬ki P A s i:=by
   rintro(⟨e,_⟩|⟨l,v,B,C⟩)
   . omega
   grind
  exact woken_quitsD (H.rest i o ho nl nw nh).2
 have ax:∀i,¬(i=0\/i=A.cl)->((gs.map (woken P g g' w')).setIfInBounds A.cl g')[i]?=gs[i]?:=am
 have R:((gs.map (woken P g g' w')).setIfInBounds A.cl g')[A.cl]?=some g':=am
 obtain⟨s',r⟩:=S1 ({s with c:=.gone,ms:=.recv}:MS P)
 have Y:s'.ms=.recv:=by rw[r]
 have S:s'.w=s.w:=by rw[r]
 have G:s'.c=.gone:=by rw[r]
 have aO:MS.rem P A.n s'=MS.rem P A.n s:=DR am
 obtain⟨d0,g0,ay,tr,_⟩:Deaf t 0=0/\∃g0,((gs.map (woken P g g' w')).setIfInBounds A.cl g')[0]?=some g0/\∃tr:TT P (yA P A Fin (MS.rem P A.n s).length (MS.rem P A.n s)) (kk 0) (OO 0) g0,True:=by
  rw[It ac,Kv]
  rcases F.2 with hm|hm
  . obtain⟨_,p1,pm,pk,pO,p2,p3,_⟩:=H.live 0 (nR hm)
    have pm:(f 0).m=eF P A Fin s 0:=pm;rw[uA hm]at pm;refine⟨p3,(f 0).g,by grind [woken_run],?_⟩
    rw[<-pm,<-pk,<-pO];exact⟨(f 0).t,trivial⟩
  . obtain⟨_,_,_,p3,gp,p4,_,p5⟩:=H.held 0 (.inl ⟨rfl,hm⟩)
    rcases p5 with⟨_,gm,zm,rfl,p6,p7,p8⟩|⟨l,v,B,_⟩
    . rw[p4]
      refine⟨p3,_,rfl,?_⟩;rw[av,again_recv_closed (by rw[k,wS rfl])]
      obtain⟨tr⟩:=T.tree (by grind [DZ]) (stV (z:=zm) (sh:=.recv true) p8 p7)
      exact⟨tr,trivial⟩
    omega
 have hI:du A.n s':=by
  rw[r];refine⟨?_,d.I.g2,am,d.I.g3,d.I.Cq,am,⟨d.I.g5.1,am⟩,λh=>(by cases h),d.I.g7,am,am,d.I.ok,rfl,d.I.sp,d.I.idle,⟨F.1,ap⟩,am,d.I.mu⟩
  have:=d.I.g1;show s.gc=sumTo A.n (λj=>(s.w j).cnt)+vW.recv.pend
  rcases F.2 with e|e<;>rw[e]at this<;>exact this
 have L:(MemOp.ofEvents A.cl g.frame.fn g.frame.place (m8 A.cF))[1]?=some {g:=A.cl,fn:=g.frame.fn,pos:=g.frame.place,act:=.close A.cF}:=by simp[sZ]
 have a7:(t++MemOp.ofEvents A.cl g.frame.fn g.frame.place (m8 A.cF)).act? (t.size+1)=some (.close A.cF)/\(t++MemOp.ofEvents A.cl g.frame.fn g.frame.place (m8 A.cF)).heard (t.size+1):=⟨act?_of (kV (m:=1) L),heard_new (m:=1) hu L hd⟩
 have a8:∀i,dA P A s' i->dA P A s i:=λi E=>by
  rcases E with Q|⟨j,v,B⟩|⟨v,B⟩
  . exact .inl Q
  . exact .inr (.inl ⟨j,am,B⟩)
  . exact .inr (.inr ⟨v,am⟩)
 have aW:∀i,dA P A s i->dA P A s' i:=λi E=>by
  rcases E with Q|⟨j,v,B⟩|⟨v,B⟩
  . exact .inl Q
  . exact .inr (.inl ⟨j,am,B⟩)
  . exact .inr (.inr ⟨v,am⟩)
 have b4:∀op∈MemOp.ofEvents A.cl g.frame.fn g.frame.place (m8 A.cF),∀a,op.act.touch?=some a->a.kind=.atomic:=λop U a ha=>((ku U).2.2.1 a ha).2
 have aC:fP P A Z s' kk OO (λ_=>False) (λp=>p=t.size+1) ((gs.map (woken P g g' w')).setIfInBounds A.cl g').size w' (t++MemOp.ofEvents A.cl g.frame.fn g.frame.place (m8 A.cF)):=by
  refine⟨hI,?_,by rw[r];exact d.dd,am,am,λ_=>⟨x,tm,by rw[k,wS rfl,G];rfl⟩,?_,?_,?_,?_,d.lq,d.jr,λi y hy=>?_,λl O aE=>d.Fy l O am,λaE=>d.Wj am,λc hc=>?_,λi=>?_,λp hp=>?_,am,λm a ha W X i E=>d.pW _ am m a ha W X i (a8 i E),λm a ha W X=>?_,λi E=>d.wJ _ i (a8 i E),d.oO _ (λop U=>(ku U).2.2.2.2),λi aF hn=>d.JX i aF am,d.zc,d.px,d.jT,d.la,by simp;exact FL d.n0 (Iq _ _)⟩
  . have:=d.size
    rw[V]at this;rw[G];simp only[KV,Array.size_map,pw.isNone]at this ⊢
    grind
  . rw[show s'.sh=s.sh by rw[r]];exact d.mu.same (.of_heap (by rw[k,wN (vj A.d1)]))
  . rw[show s'.gc=s.gc by rw[r],show s'.gv=s.gv by rw[r],show s'.gm=s.gm by rw[r]];exact d.gr.same (.of_heap (by rw[k,wN (vj A.d2)]))
  . rw[k,wN (vj A.d1)];exact d.BZ
  . rw[k,wN (vj A.d2)];exact d.Fx
  . rw[S];exact d.tok i y hy
  . rw[S];exact d.Wk c hc
  . refine⟨am,?_⟩
    rintro(⟨j,v,B,C⟩|⟨v,B⟩)
    . rw[S,K j v]at C;cases C
    . rw[G]at B;cases B
  . subst hp
    exact⟨a7.2,by have:=d.n0;omega,am⟩
  . have Q:=d.vm _ am m a ha W X
    rw[V]at Q;rw[G];exact Q
 have hL:MS.kS A.n s' s:=by
  refine .inl ?_;rw[r];show vW.recv.eZ+sumTo A.n (λi=>(s.w i).eZ)+pw.gone.eZ s.gc<s.ms.eZ+sumTo A.n (λi=>(s.w i).eZ)+s.c.eZ s.gc
  rw[V];have e2:vW.recv.eZ=100:=rfl;have e3:pw.gone.eZ s.gc=0:=rfl;have e4:pw.oI.eZ s.gc=3:=rfl;have e5:99<=s.ms.eZ:=by rcases F.2 with e|e<;>rw[e]<;>simp[vW.eZ]
  omega
 have hS:mc A s s' (λi=>i=0\/i=A.cl):=⟨am,ac,ac,by rw[r],by rw[r]⟩
 refine⟨_,_,D,s',dz f 0 ⟨_,_,_,_,tr⟩,upd q A.cl nq,kk,OO,λ_=>False,(λp=>p=t.size+1),_,_,_,rfl,hL,?_⟩
 refine H.PI hu hP aC ap (λi=>i=0\/i=A.cl) ax (qW hZ hS (by grind [aK]) (by grind [upd_ne]) am am (λi E O _=>?_)) (λi E=>?_)
 . rcases O with⟨e,_⟩|⟨l,v,B,C⟩|⟨e,_⟩
   . omega
   . grind
   omega
 . rcases E with rfl|rfl
   . refine⟨g0,ay,λ_=>?_,λh=>absurd h (zT u (.inl Y)),λh=>absurd h (sW am),λh=>absurd (nR Y) h⟩
     rw[aD];refine⟨ac,rfl,?_,rfl,rfl,tr.running,by grind [dH],.inl rfl,Kh⟩
     show yA P A Fin _ _=eF P A Fin s' 0
     grind [uA]
   . refine⟨g',R,λh=>absurd h ?_,λh=>absurd h ?_,λh=>absurd h (xA am),(by grind [upd_same,dH])⟩
     . rintro(⟨e,_⟩|⟨l,v,B,C⟩|⟨_,C⟩)
       . omega
       . omega
       grind
     . rintro(⟨e,_⟩|⟨l,v,B,C⟩|⟨_,C⟩)
       . omega
       . omega
       grind
theorem zW{w:World}{b i c e v}(h:w.heap[b]?=some (.cells c e (0,0)))(a:w.cell? ⟨b,i,none⟩=some v):c[i]?=some v:=by simpa[World.cell?,h]using a
theorem ahI{w:World}{b c e}(h:w.heap[b]?=some (.cells c e (0,0))):w.shape? b=some (e,c.size):=by simp[World.shape?,h]
def TG(h:∀i,∃O,Sat (kk i) O w):∃K ,(∀b n v,K.cell b n=some v->∃i,(kk i).cell b n=some v)/\(∀b s,K.sh b=some s->∃i,(kk i).sh b=some s)/\∀i,(kk i).Le K:=by
 classical
 refine⟨⟨λb n=>if e:∃v,∃i,(kk i).cell b n=some v then some e.choose else none,λb=>if e:∃s,∃i,(kk i).sh b=some s then some e.choose else none⟩,λb n v a=>?_,λb s c=>?_,λi=>⟨λb n v a=>?_,λb s c=>?_⟩⟩
 . simp only at a
   split at a
   . grind
   grind
 . simp only at c
   split at c
   . grind
   grind
 . have e:∃v,∃i,(kk i).cell b n=some v:=am
   obtain⟨l,d⟩:=e.choose_spec;obtain⟨_,f⟩:=h i;obtain⟨_,g⟩:=h l;have:=g.cell b n _ d;rw[f.cell b n v a]at this
   grind
 . have e:∃s,∃i,(kk i).sh b=some s:=am
   obtain⟨l,d⟩:=e.choose_spec;obtain⟨_,f⟩:=h i;obtain⟨_,g⟩:=h l;have:=g.sh b _ d;rw[f.sh b s c]at this
   grind
def Ok  hZ  (o:cZ (dG P A Fin Z hZ) Z s f q kk OO J M gs w t) (r:∀j,j<A.n->s.w j=.gone) (aW:s.c=.gone\/A.cl=0) (hu:qg u) (W:∀op∈u,op.act.touch?=none) (N:∀op∈u,op.act.low w.heap.size) (d0:Deaf t 0=0)
 (O:∀i,J i->i=0) (X:∀p n,M p->Before t n p->Knows (t++u) 0 n) (Y:gs'[0]?=some g) (a7:∀i,i≠0->gs'[i]?=gs[i]?) (b0:gs'.size=gs.size) (C:∃e,(kk 0).sh A.fb=some e):
 ∃K x a,(∀i,(kk i).Le K)/\qf K x a/\A.GI a/\iz P Z.W0 K (((OO 0).set A.mb x).set A.fb (.part (dB A.fo))) g gs' w (t++u):=by
 have B:fP P A Z s kk OO J M gs.size w t:=o.ex;have hb:=A.hb;have F:(0:Nat)≠Z.lk:=ac
 obtain⟨es,C⟩:=C;obtain⟨K,b1,b2,z⟩:=TG λi=>⟨_,o.eU.sat i⟩
 have H:∀n a,touchAt t n=some a->a.loc.isMemory=true -> ¬Z.na a.loc->Knows (t++u) 0 n:=λn a ha hm hz=>by
  rcases o.eU.acc n a ha hm with h|⟨j,S,h⟩|⟨p,hp,h⟩|⟨h,_⟩
  . exact h.app u
  . rw[O j S]at h;exact h.app u
  . grind
  grind
 obtain⟨x,a,hx,a8,a9⟩:=B.Wj λj S=>by rw[r j S];rfl
 have b3:∀i,OO i A.fb=none:=λi=>by
  cases e:OO i A.fb with
  |none=>rfl
  |some y=>obtain⟨j,_,D,_,k,_⟩:=B.tok i y e;rw[r j D]at k;cases k
 have ab:dX Z (dz kk 0 K) (dz (dz OO 0 ((OO 0).set A.mb x)) Z.lk au.bot) (λ_=>False) (λ_=>False) w (t++u):=by
  have E:∀j b y,dz (dz OO 0 ((OO 0).set A.mb x)) Z.lk au.bot j b=some y->(j≠Z.lk/\OO j b=some y/\¬(j=0/\b=A.mb))\/(j=0/\b=A.mb/\y=x):=λj b y d=>by
   by_cases e:j=Z.lk
   . subst e;rw[aD]at d;cases d
   . rw [aK _ _ e]at d
     by_cases T:j=0
     . subst T
       rw[aD]at d
       by_cases eb:b=A.mb
       . subst eb
         simp only[au.set,ZC,td]at d
         grind
       . simp only[au.set,wN eb]at d
         grind
     simp_all [aK]
  refine o.eU.AO (λa b=>a=b\/b=0) rfl ⟨⟨.refl _,rfl⟩,am⟩ (λb=>.inl rfl) N (λi j e n y d al hz av=>?_) (λj b n v hv=>?_) (λj b s hv=>?_) (λj b y d=>?_) (λi j b y ax d=>?_)
   (λsaid=>noRace_appendMute (o.eU.clean said) W) am am (λn a ha al h=>?_)
  . rcases e with rfl|rfl
    . exact av.app u
    grind [wo]
  . grind [aD,aK]
  . grind [aD,aK]
  . rcases E j b y d with⟨D,k,h3⟩|⟨rfl,rfl,rfl⟩
    . refine⟨j,.inl rfl,k,λs hs=>?_⟩
      by_cases e:j=0
      . subst e;rw[aD];exact(z 0).sh b s hs
      grind [aK]
    . exact⟨Z.lk,.inr rfl,hx,λs hs=>by rw[aD];exact(z _).sh _ s hs⟩
  . cases q:dz (dz OO 0 ((OO 0).set A.mb x)) Z.lk au.bot j b with
    |none=>rfl
    | some y'=>
      rcases E i b y d with⟨D,k,h3⟩|⟨rfl,rfl,rfl⟩
      . rcases E j b y' q with⟨k1,k2,k3⟩|⟨rfl,rfl,rfl⟩
        . have:=o.eU.om i j b y ax k
          grind
        . have:=o.eU.om i Z.lk _ y D k
          grind
      . rcases E j A.mb y' q with⟨k1,k2,k3⟩|⟨rfl,_,_⟩
        . have:=o.eU.om j Z.lk _ y' k1 k2
          grind
        omega
  . rcases h with⟨j,D,k⟩|⟨p,D,k⟩
    . rw[O j D]at k;exact .inl (k.app u)
    . exact .inl (X p n D k)
 obtain⟨ay,b4⟩:=B.I.mu.rest λi U=>by rw[r i U];rfl
 obtain⟨Q,ce,G⟩:=B.BZ
 have R:es=(ce,Q.size):=by
  have:=(o.eU.sat 0).sh _ _ C
  grind [ahI]
 have b5:Q[A.fo]?=some (.int .i32 0):=by have:=B.mu.cw;rw[ay]at this;exact zW G this
 have b6:Q[A.fo+1]?=some (.int .u32 0):=by
  have:=B.mu.cs
  grind [zW]
 have b7:∀n v,dB A.fo n=some v->(n=A.fo\/n=A.fo+1)/\Q[n]?=some v:=λn v hv=>by
  unfold dB at hv
  grind
 have b8:∀n,dB A.fo n≠none->(n=A.fo\/n=A.fo+1):=λn hn=>by
  cases e:dB A.fo n with
  |none=>grind
  |some v=>grind
 have aC:∀i n,(n=A.fo\/n=A.fo+1)->(dz kk 0 K i).cell A.fb n=none:=λi n hn=>by
  have hk:∀l,(kk l).cell A.fb n=none:=λl=>by rcases hn with h|h<;>rw[h]<;>first|exact(B.jr l).1|exact(B.jr l).2.1
  cases e:(dz kk 0 K i).cell A.fb n with
  |none=>rfl
  |some v=>grind [aD,aK]
 have aE:∀L:Addr,L.block=A.fb->dB A.fo L.off≠none -> ¬Z.na (.cell L):=λL D k=>B.px L am
 have aF:=ab.abX F (b:=A.fb) (f:=dB A.fo) (λi=>?_) am aE ⟨Q,ce,G,?_,am⟩ (λm a L ha hl b9 hf=>?_) B.jT.2.1
 . have aL:∀i,0<i -> ¬gV P A s i/\¬ln P A s i/\¬ki P A s i:=λi U=>by
    refine⟨?_,?_,?_⟩
    . rintro(⟨h,_⟩|⟨a,a1,a2,V⟩|⟨h,V⟩)
      . omega
      . grind
      grind
    . rintro(⟨h,_⟩|⟨a,a1,a2,V⟩|⟨h,V⟩)
      . omega
      . grind
      grind
    . rintro(⟨h,_⟩|⟨a,a1,a2,V⟩)
      . omega
      grind
   have hS:=aF.finish (P:=P) (gs:=gs') (g:=g) (q:=q) Y ⟨λi y U d=>by
    rw[a7 i ac]at d
    rw[dH hu];obtain⟨n1,n2,n3⟩:=aL i U;exact(o.rest i y d n1 n2 n3).2,λj S=>by rw[dH hu];exact o.above j ac⟩ (by grind [dH])
   rw[aD,aD,aK _ _ F,aD]at hS;exact⟨K,x,a,z,a8.mono (z _),a9,hS⟩
 . by_cases e:i=Z.lk
   . subst e;rw[aD];rfl
   . rw[aK _ _ e]
     by_cases T:i=0
     . subst T;rw[aD];simp only[au.set,wN A.d5];grind
     . rw[aK _ _ T];grind
 . rw[aD,<-R];exact(z 0).sh _ _ C
 . have aO:touchAt t m=some a:=by
    grind [iN]
   exact H m a aO (by rw[hl];rfl) am
def Z'  Q  (k:A.dir=false) (v:cZ (dG P A Fin Z Q) Z s f q kk OO J M gs w t) (hm:s.ms=.recv) (B:s.c=.gone) (R:gs[0]?=some g){N}(S:(yA P A Fin (MS.rem P A.n s).length (MS.rem P A.n s)).fY (kk 0) (OO 0) g N)  sl :
 ∃ο T,runT P (crowd gs w sl) 0=(.next T,ο)/\∃gs' w' D k' O' g',T=crowd gs' w' D/\iz P Z.W0 k' O' g' gs' w' (t++ο)/\Fin k' O' g':=by
 have C:fP P A Z s kk OO J M gs.size w t:=v.ex;obtain⟨c0,v0,m0,b⟩:=C.I.g8 (by rw[B];rfl);obtain⟨xs,tm,U⟩:=C.Gq k;rw[show s.c.jO=true by rw[B];rfl]at U
 have o:MS.rem P A.n s=[]:=by
  cases hr:MS.rem P A.n s with
  |nil=>rfl
  | cons a l=>
    have:a∈MS.rem P A.n s:=am
    obtain⟨E,V⟩:=zQ.1 this;rw[b a E]at V;cases V
 rw[o]at S;obtain⟨_,g₂,z,E,_,e3,F,e4⟩:=S;have G:=(CS.1 R).1;obtain⟨_,_,_,_,_,_,W,_⟩:=v.live _ (nR hm);have r:=crowd_recv_closed (P:=P) (sl:=sl) R (show stepG P (0==0) g w=_ from E w (v.eU.sat 0)) U (by grind [vr,B3]);rw[me]at r;obtain⟨u,a7⟩:=S1 (#[{g:=0,fn:=g₂.frame.fn,pos:=g₂.frame.place,act:=.recvClosed A.cF}]:Trace);have e:runT P (crowd gs w sl) 0=(.next (crowd (gs.setIfInBounds 0 (g₂.finishComm P #[rcase A.cF z] (.recv true) 0 z false)) w sl),u):=am
 have H:A.cF<w.heap.size:=am;have d:∀op∈u,op={g:=0,fn:=g₂.frame.fn,pos:=g₂.frame.place,act:=.recvClosed A.cF}:=am;have X:qg u:=λop h=>aq
 have L:u[0]?=some {g:=0,fn:=g₂.frame.fn,pos:=g₂.frame.place,act:=.recvClosed A.cF}:=am
 obtain⟨K,x,a,h1,h2,h3,hS⟩:=Ok (gs':=gs.setIfInBounds 0 (g₂.finishComm P #[rcase A.cF z] (.recv true) 0 z false)) Q v b (.inl B) X (λop h=>by rw[d op h];rfl) (λop h=>by rw[d op h];exact H) W (λi hi=>by
  rcases(C.hJ i).1 hi with⟨a,O,a2,j⟩|⟨_,j⟩
  . rw[b a O]at j;cases j
  . rw[B]at j;cases j) (λp n hp hk=>by
  obtain⟨O,_,j⟩:=C.hM p hp;rcases j with⟨_,Y⟩|⟨_,Y⟩
  . grind
  . exact ajn (t:=t) X (m:=0) (y:={g:=0,fn:=g₂.frame.fn,pos:=g₂.frame.place,act:=.recvClosed A.cF}) L Y O rfl W hk) (Ik G) am ap F
 exact⟨u,_,e,_,w,sl,_,_,_,rfl,hS,e4 _ x a (h1 0) h2 h3⟩
end
def zX(n:Nat)(f1 a:FuncId)(b c:String):Trace:=#[{g:=0,fn:=f1,pos:=b,act:=.go n},{g:=n,fn:=a,pos:=c,act:=.start}]
theorem nT{n f1 b c d op}(h:op∈zX n f1 b c d):op.act.touch?=none/\(op.act≠.mark .disable/\op.act≠.mark .enable)/\(∀B,op.act.low B)/\∀a,op.act≠.mark (.release a):=by
 simp  [zX,LY]at h;rcases h with rfl|rfl<;>exact⟨rfl,am,λB=>trivial,ap⟩
def bot_join  k :az.bot.join k=k:=rfl
section
variable{P:Rg}{A:dq}{Fin:ZD}{Z:Base}{s s':MS P}{f f':Nat->Node P}{q q':Ct}{kk kk':Zz}{OO OO':ZF}{J J' M M':ZA}{gs gs':Da}{w w':World}{t u:Trace}{j m:Nat}{g g' g₂ child:YB}{z v:Value}
def D9{gs:Da}{g' child}(a:0<gs.size):(∀i,i≠0->i≠gs.size->((gs.setIfInBounds 0 g').push child)[i]?=gs[i]?)/\((gs.setIfInBounds 0 g').push child)[0]?=some g'/\((gs.setIfInBounds 0 g').push child)[gs.size]?=some child:=am
def Gu{gs}(b:gs[0]?=some g)(c:stepG P true g w=.spawn g' child w #[])  sl :
 runT P (crowd gs w sl) 0=(.next (crowd ((gs.setIfInBounds 0 g').push child) w sl),zX gs.size g.frame.fn child.frame.fn g.frame.place g.frame.place):=by
 have a:=runT_crowd_spawn  (sl:=sl)  b (show stepG P _ g w=_ from c);exact a
theorem Kk  m :(vN P A Fin m).solo=false:=by
 cases m with
 |zero=>unfold vN;grind
 |succ m=>rfl
def wQ(e:s.ms=.add m):gV P A s 0:=.inl ⟨rfl,aq⟩
def Ea(e:s.ms=.spawn m):gV P A s 0:=.inl ⟨rfl,aq⟩
def Gv(a:s.c=.none)(e:s.ms=.add m):¬ln P A s 0:=by
 have:=A.hb;rintro(⟨_,h⟩|⟨l,b,d,f⟩|⟨_,h⟩)
 . grind
 . omega
 grind
def Kl(e:s.ms=.add m):eF P A Fin s 0=vN P A Fin m:=by
 unfold eF
 grind
def rUr  W  (H:cZ (dG P A Fin Z W) Z s f q kk OO J M gs w t) (U:s.ms=.spawn m) (hg:gs[0]?=some g){N}(ht:(N8 P A Fin m).fY (kk 0) (OO 0) g N)  sl :
 Goes P A Fin Z W s gs w t sl 0:=by
 have D:fP P A Z s kk OO J M gs.size w t:=H.ex;have hb:=A.hb;obtain⟨rfl,g',child,hs,K,Y⟩:=ht;have L:=D.I.ms;rw[U]at L;obtain⟨aE,F⟩:=L;have o:gs.size=A.b+s.sp:=by have:=D.size;rw[F]at this;simpa[pw.isNone]using this
 have r:s.sp<A.n:=ac
 have hj:A.n-(m+1)=s.sp:=ac
 rw[hj]at K;obtain⟨O⟩:=T.tree (P:=P) (m:=mT P A s.sp) rfl K;obtain⟨Q⟩:=T.tree (by grind [Kk]) Y
 have a7:=(CS.1 hg).1;obtain⟨_,_,_,_,_,_,d0,_⟩:=H.live _ (Ea U);have dn:Deaf t gs.size=0:=H.above _ (AK _);have R:=Gu (sl:=sl) hg (hs w (H.eU.sat 0));have hu:qg (zX gs.size g.frame.fn child.frame.fn g.frame.place g.frame.place):=λop h=>(nT h).2.1
 have a8:∀n,Knows t 0 n->Knows (t++zX gs.size g.frame.fn child.frame.fn g.frame.place g.frame.place) gs.size n:=λn V=>BP (t:=t) (c:=0) hu (m1:=0) (m2:=1) (x:={g:=0,fn:=g.frame.fn,pos:=g.frame.place,act:=.go gs.size}) (y:={g:=gs.size,fn:=child.frame.fn,pos:=g.frame.place,act:=.start}) rfl rfl rfl rfl d0 dn V
 have d:s.w s.sp=.idle:=by have:=(D.I.idle s.sp r).2 (AK _);cases e:s.w s.sp<;>rw[e]at this<;>first|rfl|cases this
 have a9:¬dA P A s gs.size:=by
  rintro(h|⟨l,z,B⟩|⟨z,B⟩)
  . omega
  . omega
  omega
 obtain⟨fk,fO⟩:=D.JX gs.size ac a9
 obtain⟨X,hX⟩:=S1 (⟨mT P A s.sp,kk 0,au.bot,child,O⟩:Node P);obtain⟨s',k⟩:=S1 (s.qJ s.sp (.run false X) (.add m) (s.sp+1));have u:s'.w s.sp=.run false X:=by rw[k,kj]
 have aF:∀{l:Nat},l≠s.sp->s'.w l=s.w l:=(by grind [oQ])
 have C:s'.c=s.c:=by rw[k];rfl
 have G:s'.ms=.add m:=by rw[k];rfl
 have S:s'.sp=s.sp+1:=by rw[k];rfl
 have hI:du A.n s':=by rw[k];refine D.I.qJ r (by rw[d,U];rfl) (by rw[d];rfl) rfl am rfl (by rw[d];rfl) rfl ac (λh=>by cases h) am
 have ab:∀l,J l->jf P A s' l:=λl hl=>by
  rcases(D.hJ l).1 hl with⟨a,z,B,h3⟩|⟨z,B⟩
  . refine .inl ⟨a,z,B,?_⟩
    by_cases e:a=s.sp
    . subst e;rw[u];rfl
    grind
  . exact .inr ⟨z,aq⟩
 have hP:=H.eU.hand (J':=jf P A s') (M':=M) (w':=w) (src:=0) (dst:=gs.size) ac ac a8 (by grind [nT]) (by grind [nT]) rfl ⟨⟨.refl _,rfl⟩,am⟩ (λb=>.inl rfl) (λn a ha aL h=>h.elim (λ⟨j,z,B⟩=>.inr (.inl ⟨j,ab j z,B.app _⟩)) (λ⟨p,z,B⟩=>.inr (.inr (.inl ⟨p,z,B.app _⟩))))
 rw[fk,bot_join]at hP;obtain⟨aO,ad,al⟩:=D9 (g':=g') (child:=child) a7
 have av:fP P A Z s' (dz kk gs.size (kk 0)) OO (jf P A s') M ((gs.setIfInBounds 0 g').push child).size w (t++zX gs.size g.frame.fn child.frame.fn g.frame.place g.frame.place):=by
  refine D.chan hI am (by rw[k];rfl) (λ_ l _=>?_) (by rw[Array.size_push,KV,S,C,F];simp[pw.isNone];omega) (by rw[C];exact D.Gq) am (by rw[k];rfl) (by rw[k];rfl) (by rw[k];rfl) (by rw[k];rfl) (λl _=>?_) (λi b n v h=>?_) (by grind [aK]) am (.inl C) (by grind [nT]) (λi hi=>?_) (λi ax V=>?_)
  . by_cases e:l=s.sp
    . subst e;rw[u,d];exact .inr ⟨rfl,rfl⟩
    grind [aK]
  . by_cases e:l=s.sp
    . subst e;rw[u,d];rfl
    grind
  . grind [aD,aK]
  . rcases hi with h0|⟨l,z,B⟩|⟨z,B⟩
    . exact .inl (.inl h0)
    . rw[S]at z
      by_cases e:l=s.sp
      . grind
      . exact .inl (.inr (.inl ⟨l,ac,B⟩))
    grind
  . have ay:¬dA P A s i:=λh=>V (by
     rcases h with h0|⟨l,z,B⟩|⟨z,B⟩
     . exact .inl h0
     . exact .inr (.inl ⟨l,ac,B⟩)
     grind)
    have E:i≠gs.size:=λe=>V (.inr (.inl ⟨s.sp,ac,ac⟩))
    rw[aK _ _ E];exact D.JX i ax ay
 have hL:MS.kS A.n s' s:=by rw[k];refine Bq r ?_;rw[d,U];have e1:(cL.run (P:=P) false X).eZ=20:=rfl;have e2:(vW.add m).eZ=40*m+200:=rfl;have e3:(vW.spawn m).eZ=40*m+225:=rfl;omega
 have hS:mc A s s' (λi=>i=0\/i=gs.size):=⟨am,λ_=>C,ac,by rw[k];rfl,by rw[k];rfl⟩
 refine⟨_,_,R,s',dz (dz f 0 ⟨_,_,_,_,Q⟩) gs.size X,q,dz kk gs.size (kk 0),OO,jf P A s',M,_,_,_,rfl,hL,?_⟩;refine H.PI hu hP av ap (λi=>i=0\/i=gs.size) am (qW W hS (by grind [aK]) ac (by grind [aK]) am am) (λi hi=>?_)
 rcases hi with rfl|rfl
 . refine⟨g',ad,λ_=>?_,λh=>absurd h (Gv (C.trans F) G),λh=>absurd h (sW aq),λh=>absurd (wQ G) h⟩
   have E:(0:Nat)≠gs.size:=ac
   rw[aK _ _ E,aD,aK _ _ E];refine⟨ac,rfl,?_,rfl,rfl,Q.running,by grind [dH],.inl rfl,Kh⟩
   show vN P A Fin m=eF P A Fin s' 0;rw[Kl G]
 . have aC:gV P A s' gs.size:=by rw[o];exact pY r u
   refine⟨child,al,λ_=>?_,λh=>absurd h (by rw[o];exact Bj r u),λh=>absurd h (by rw[o];exact py r u),λh=>absurd aC h⟩
   rw[aD,aD,hX];refine⟨by show gs.size<A.b+A.n+1;omega,rfl,?_,rfl,fO.symm,O.running,by grind [dH],.inr (.inl ⟨s.sp,r,o,by rw[u];rfl⟩),λl h X' z B h3=>?_⟩
   . show mT P A s.sp=eF P A Fin s' gs.size
     rw[o,uz r u]
   grind [B0.refl]
def rUp  X  (o:A.dir=false) (G:cZ (dG P A Fin Z X) Z s f q kk OO J M gs w t) (U:s.ms=.add 0) (hg:gs[0]?=some g){N}(Y:(vN P A Fin 0).fY (kk 0) (OO 0) g N)  sl :
 Goes P A Fin Z X s gs w t sl 0:=by
 have r:fP P A Z s kk OO J M gs.size w t:=G.ex;have hb:=A.hb;have C:=BY o;unfold vN at Y;rw[wN aq]at Y
 obtain⟨rfl,g',child,hs,a7,a8⟩:=Y;have H:=r.I.ms;rw[U]at H;obtain⟨D,z⟩:=H;have D:s.sp=A.n:=ac
 have k:gs.size=A.b+A.n:=by have:=r.size;rw[z,D]at this;simpa[pw.isNone]using this
 obtain⟨K⟩:=T.tree (P:=P) (m:=DN P A) rfl a7;obtain⟨L⟩:=T.tree (by grind [DZ]) a8
 have a9:=(CS.1 hg).1;obtain⟨_,_,_,_,_,_,d0,_⟩:=G.live _ (wQ U);have dn:Deaf t gs.size=0:=G.above _ (AK _);have O:=Gu (sl:=sl) hg (hs w (G.eU.sat 0));have hu:qg (zX gs.size g.frame.fn child.frame.fn g.frame.place g.frame.place):=λop h=>(nT h).2.1
 have ab:∀n,Knows t 0 n->Knows (t++zX gs.size g.frame.fn child.frame.fn g.frame.place g.frame.place) gs.size n:=λn V=>BP (t:=t) (c:=0) hu (m1:=0) (m2:=1) (x:={g:=0,fn:=g.frame.fn,pos:=g.frame.place,act:=.go gs.size}) (y:={g:=gs.size,fn:=child.frame.fn,pos:=g.frame.place,act:=.start}) rfl rfl rfl rfl d0 dn V
 have ad:¬dA P A s gs.size:=by
  rintro(h|⟨l,B,u⟩|⟨B,u⟩)
  . omega
  . omega
  grind
 obtain⟨fk,fO⟩:=r.JX gs.size ac ad
 obtain⟨s',d⟩:=S1 ({s with ms:=.recv,c:=.jq}:MS P)
 have al:s'.w=s.w:=by rw[d]
 have E:s'.c=.jq:=by rw[d]
 have Q:s'.ms=.recv:=by rw[d]
 have av:s'.sp=s.sp:=by rw[d]
 obtain⟨v0,m0,W⟩:=r.I.calm (by rw[z];rfl)
 have hI:du A.n s':=by
  rw[d];refine⟨?_,r.I.g2,am,r.I.g3,r.I.Cq,λi R h=>?_,am,λh=>(by cases h),r.I.g7,λh=>(by cases h),am,r.I.ok,rfl,r.I.sp,r.I.idle,⟨D,ap⟩,am,r.I.mu⟩
  . have:=r.I.g1
    rw[U]at this;exact this
  . have h:s.w i=.dn .d7:=h
    have:=W i R;rw[h]at this;cases this
 have ax:∀l,J l->jf P A s' l:=λl W=>by
  rcases(r.hJ l).1 W with⟨a,B,u,h3⟩|⟨B,u⟩
  . exact .inl ⟨a,B,u,am⟩
  . rw[z]at u;cases u
 have hP:=G.eU.hand (J':=jf P A s') (M':=M) (w':=w) (src:=0) (dst:=gs.size) ac ac ab (by grind [nT]) (by grind [nT]) rfl ⟨⟨.refl _,rfl⟩,am⟩ (λb=>.inl rfl) (λn a ha b0 h=>h.elim (λ⟨j,B,u⟩=>.inr (.inl ⟨j,ax j B,u.app _⟩)) (λ⟨p,B,u⟩=>.inr (.inr (.inl ⟨p,B,u.app _⟩))))
 rw[fk,bot_join]at hP;obtain⟨b1,ay,aC⟩:=D9 (g':=g') (child:=child) a9;have S:=r.Gq;rw[z]at S
 have aE:fP P A Z s' (dz kk gs.size (kk 0)) OO (jf P A s') M ((gs.setIfInBounds 0 g').push child).size w (t++zX gs.size g.frame.fn child.frame.fn g.frame.place g.frame.place):=by
  refine r.chan hI am (by rw[d]) am (by rw[Array.size_push,KV,av,E,k,D,o];rfl) (by rw[E];exact S) am (by rw[d]) (by rw[d]) (by rw[d]) (by rw[d]) am (λi b n v h=>?_) (by grind [aK]) am am (by grind [nT]) (λi R=>?_) (λi aF V=>?_)
  . grind [aD,aK]
  . rcases R with h0|⟨l,B,u⟩|⟨B,u⟩
    . exact .inl (.inl h0)
    . exact .inl (.inr (.inl ⟨l,ac,u⟩))
    grind
  . have aL:¬dA P A s i:=λh=>V (by
     rcases h with h0|⟨l,B,u⟩|⟨B,u⟩
     . exact .inl h0
     . exact .inr (.inl ⟨l,ac,u⟩)
     grind)
    have F:i≠gs.size:=λe=>V (.inr (.inr ⟨ac,aq⟩))
    rw[aK _ _ F];exact r.JX i aF aL
 have hL:MS.kS A.n s' s:=by
  refine .inl ?_;rw[d];show vW.recv.eZ+sumTo A.n (λi=>(s.w i).eZ)+pw.jq.eZ s.gc<s.ms.eZ+sumTo A.n (λi=>(s.w i).eZ)+s.c.eZ s.gc
  rw[z,U];have e2:vW.recv.eZ=100:=rfl;have e3:pw.jq.eZ s.gc=14:=rfl;have e4:pw.none.eZ s.gc=0:=rfl;have e5:(vW.add 0).eZ=200:=rfl;omega
 have aW:MS.rem P A.n s'=List.range A.n:=by unfold MS.rem;rw[al];exact List.filter_eq_self.2 λl W=>by rw[r.I.early (r.dd.trans o) z l am];rfl
 have hS:mc A s s' (λi=>i=0\/i=gs.size):=⟨am,ac,ac,by rw[d],by rw[d]⟩
 refine⟨_,_,O,s',dz (dz f 0 ⟨_,_,_,_,L⟩) gs.size ⟨_,_,_,_,K⟩,q,dz kk gs.size (kk 0),OO,jf P A s',M,_,_,_,rfl,hL,?_⟩;refine G.PI hu hP aE ap (λi=>i=0\/i=gs.size) am (qW X hS (by grind [aK]) ac (by grind [aK]) am am) (λi R=>?_)
 rcases R with rfl|rfl
 . refine⟨g',ay,λ_=>?_,λh=>absurd h (zT o (.inl Q)),λh=>absurd h (sW aq),λh=>absurd (nR Q) h⟩
   have F:(0:Nat)≠gs.size:=ac
   rw[aK _ _ F,aD,aK _ _ F];refine⟨ac,rfl,?_,rfl,rfl,L.running,by grind [dH],.inl rfl,Kh⟩
   show yA P A Fin _ _=eF P A Fin s' 0
   grind [uA,List.length_range]
 . have aO:gV P A s' gs.size:=by grind [Bm]
   refine⟨child,aC,λ_=>?_,λh=>absurd h (by rw[k,<-C];exact Oe o (.inr E)),λh=>absurd h (by rw[k,<-C];exact xA (XI o aq)),λh=>absurd aO h⟩
   rw[aD,aD];refine⟨by show gs.size<A.b+A.n+1;omega,rfl,?_,rfl,fO.symm,K.running,by grind [dH],.inr (.inr ⟨k.trans C.symm,by rw[E];rfl⟩),by rw[k,<-C];exact Y4⟩
   show DN P A=eF P A Fin s' gs.size
   grind [Og]
def dX.acV(h:dX Z kk OO J M w t)(d:∀i,J i->J' i):dX Z kk OO J' M w t:=⟨h.sat,h.om,h.tW,h.Hr,h.clean,h.seen,λn a b c=>(h.acc n a b c).imp_right am,h.n0,h.Dl,h.rp,h.vH,h.Fo,h.mine⟩
def TH(C:lH P A.ng)(X:mP P A.ng)  v  (j:A.dir=true) (K:cZ (dG P A Fin Z v) Z s f q kk OO J M gs w t) (L:s.ms=.add 0) (hg:gs[0]?=some g){N}(Q:(vN P A Fin 0).fY (kk 0) (OO 0) g N)  sl :
 Goes P A Fin Z v s gs w t sl 0:=by
 have e:fP P A Z s kk OO J M gs.size w t:=K.ex;have B:=cE (P:=P) (A:=A) (Fin:=Fin) (Z:=Z) v;have hb:=A.hb;have R:=Te j;unfold vN at Q;rw[wS j]at Q;obtain⟨rfl,c0,μ,S,hF⟩:=Q;have x:=e.I.ms;rw[L]at x;obtain⟨T,m⟩:=x;have T:s.sp=A.n:=ac
 obtain⟨_,_,_,_,_,_,d0,_⟩:=K.live _ (wQ L);obtain⟨g2,⟨n,z⟩,D⟩:=wy (P:=P) (n:=A.ng) (b:=A.gb) (ν:=.normal) (cs:=c0::μ) (Wd:=qI A) X C;cases n with
 |zero=>grind [Kc]
 | succ n=>
   obtain⟨g1,⟨al,U⟩,V⟩:=z;have o:=runT_crowd_go (P:=P) (sl:=sl) (i:=0) hg (by rw[S];exact U true w (B.wd e));rw[me]at o;obtain⟨s',d⟩:=S1 ({s with ms:=.off,c:=.wt .w0}:MS P);have av:s'.w=s.w:=by rw[d]
   have r:s'.c=.wt .w0:=by rw[d]
   have ax:s'.ms=.off:=by rw[d]
   have E:s'.sp=s.sp:=by rw[d]
   have ho:Cs P A s':=⟨am,am,am⟩;obtain⟨v0,m0,F⟩:=e.I.calm (by rw[m];rfl)
   have hI:du A.n s':=by
    rw[d];refine⟨?_,e.I.g2,am,e.I.g3,e.I.Cq,λi W h=>?_,am,λh=>(by cases h),e.I.g7,λh=>(by cases h),am,e.I.ok,rfl,e.I.sp,e.I.idle,am,am,e.I.mu⟩
    . have:=e.I.g1
      rw[L]at this;exact this
    . have h:s.w i=.dn .d7:=h
      have:=F i W;rw[h]at this;cases this
   have Y:∀l,J l->jf P A s' l:=λl F=>by
    rcases(e.hJ l).1 F with⟨a,u,p,h3⟩|⟨u,p⟩
    . exact .inl ⟨a,u,p,am⟩
    . rw[m]at p;cases p
   have hP:dX Z kk OO (jf P A s') M w (t++#[]):=by rw[xB];exact K.eU.acV Y
   have a7:fP P A Z s' kk OO (jf P A s') M gs.size w (t++#[]):=by
    refine e.chan hI ho (by rw[d]) am (by rw[E,r,j,e.size,m];rfl) am am (by rw[d]) (by rw[d]) (by rw[d]) (by rw[d]) am am rfl am am am (λi W=>.inl ?_) (λi a8 hn=>e.JX i a8 λh=>hn ?_)
    . rcases W with h0|⟨l,u,p⟩|⟨u,_⟩
      . exact .inl h0
      . exact .inr (.inl ⟨l,ac,p⟩)
      . exact .inl (u.trans R)
    . rcases h with h0|⟨l,u,p⟩|⟨u,_⟩
      . exact .inl h0
      . exact .inr (.inl ⟨l,ac,p⟩)
      grind
   have hL:MS.kS A.n s' s:=by
    refine .inl ?_;rw[d];show vW.off.eZ+sumTo A.n (λi=>(s.w i).eZ)+(pw.wt .w0).eZ s.gc<s.ms.eZ+sumTo A.n (λi=>(s.w i).eZ)+s.c.eZ s.gc;rw[m,L];have e2:vW.off.eZ=0:=rfl;have e3:(pw.wt .w0).eZ s.gc=13:=rfl;have e4:pw.none.eZ s.gc=0:=rfl;have e5:(vW.add 0).eZ=200:=rfl;omega
   have hS:jU A s s' 0:=⟨am,ac,ac,E,by rw[d],am⟩;have G:¬gV P A s' 0:=by grind [H9]
   have a9:¬ki P A s' 0:=by grind [xA]
   have ab:ln P A s' 0:=by grind [Bl]
   have H:=zO ho r;rw[R]at H;have ad:Beside (dG P A Fin Z v) s s' f f q (upd q 0 n) kk kk OO OO J (jf P A s') w 0 g g1:=r8 v hS am (by grind [upd_ne]) am am am am (λ{i k O y} D=>B.qu (s:=s) (i:=i) (k:=k) (O:=O) (g:=y) D);refine⟨_,_,o,s',f,upd q 0 n,kk,OO,jf P A s',M,_,_,_,rfl,hL,?_⟩;refine cZ.step B K hg am hP a7 (λl y F D=>B.zf e F _ _ D) ad ⟨λh=>absurd h G,λ_=>⟨G,?_,?_,g2,?_,?_⟩,λh=>absurd h a9,λ_ h _=>absurd ab h⟩
   . omega
   . rw[xB,d0]
     show 0=iy P A s' 0;rw[H];rfl
   . refine .inr (.inr ⟨R.symm,?_⟩)
     rw[r];exact⟨c0,μ,D,aq⟩
   . exact .inr (by rw[upd_same];exact V)
def TJ(C:lH P A.ng)(X:mP P A.ng)(hsl:∀  n   k   O   g gB ,n8 P (λ_=>True) n g gB->Fin k O gB->Fin k O g)  R  (d:A.dir=true) (G:cZ (dG P A Fin Z R) Z s f q kk OO J M gs w t) (S:s.c=.wt .wa) (hg:gs[0]?=some g) (T:Ls P A Fin (.wt .wa) (kk 0) (OO 0) g)  sl :
 ∃ο m',runT P (crowd gs w sl) 0=(.next m',ο)/\∃gs' w' U k' O' g',m'=crowd gs' w' U/\iz P Z.W0 k' O' g' gs' w' (t++ο)/\Fin k' O' g':=by
 have D:fP P A Z s kk OO J M gs.size w t:=G.ex;have hb:=A.hb;have e0:=Te d;obtain⟨c0,μ,hM,hT⟩:=T;rw[wS d]at hT;obtain⟨V,hF⟩:=hT;obtain⟨H,W,hr,⟨k,E⟩⟩:=R1 (Wd:=λ_=>True) (γ:=true) (w:=w) C X hM be;have v:=runT_crowd_go (P:=P) (sl:=sl) (i:=0) hg W;obtain⟨u,F⟩:=S1 (MemOp.ofEvents 0 g.frame.fn g.frame.place #[⟨.mark (.acquire ⟨A.gb,0,none⟩),false,true⟩]:Trace);have z:∀op∈u,op=⟨0,g.frame.fn,g.frame.place,.mark (.acquire ⟨A.gb,0,none⟩)⟩:=λop h=>by rw[F,ofEvents_eq]at h;simpa[MemAct.ofEvent]using h
 have Y:u[0]?=some ⟨0,g.frame.fn,g.frame.place,.mark (.acquire ⟨A.gb,0,none⟩)⟩:=by simp_all [ofEvents_eq]
 rw[<-F]at v;obtain⟨_,_,_,m⟩:=D.I.g8 (by rw[S];rfl);have a7:=(CS.1 hg).1
 have d0:Deaf t 0=0:=by
  obtain⟨_,_,a8,_⟩:=G.walk _ (Bl S);have r:(dG P A Fin Z R).deaf s A.cl=0:=by show iy P A s A.cl=0;rw[zO D.off S];rfl
  grind
 have hu:qg u:=λop h=>am
 have hG:A.gb<w.heap.size:=by obtain⟨c,e,r⟩:=D.Fx;grind
 have L:∀i o,gs[i]?=some o->i≠0->woken P g H w o=o:=λi o ho h0=>by
  have nl:¬gV P A s i:=by
   rintro(⟨e,_⟩|⟨l,r,N,Q⟩|⟨e,_⟩)
   . omega
   . grind
   omega
  have nw:¬ln P A s i:=by
   rintro(⟨e,_⟩|⟨l,r,N,Q⟩|⟨e,_⟩)
   . omega
   . grind
   omega
  have nh:¬ki P A s i:=by
   rintro(⟨e,_⟩|⟨l,r,N,Q⟩)
   . omega
   grind
  exact woken_quitsD (G.rest i o ho nl nw nh).2
 obtain⟨K,x,a,r,N,Q,hS⟩:=Ok (gs':=(gs.map (woken P g H w)).setIfInBounds 0 H) (g:=H) R G m (.inr e0) hu (λop h=>by rw[z op h];rfl) (λop h=>by rw[z op h];exact hG) d0 (λi hi=>by
  rcases(D.hJ i).1 hi with⟨a,a1,a2,B⟩|⟨B,_⟩
  . rw[m a a1]at B;cases B
  omega) (λp n hp hk=>by
  obtain⟨a1,a2,B⟩:=D.hM p hp;rcases B with⟨B,_⟩|⟨B,_⟩
  . exact tx (y:=⟨0,g.frame.fn,g.frame.place,.mark (.acquire ⟨A.gb,0,none⟩)⟩) hu Y rfl d0 B a1 (λk hk e=>by
     rcases xy e with⟨r,_⟩|⟨op,a9,r⟩
     . exact D.norel k _ ac r
     grind) hk
  grind) am am ap V
 exact⟨u,_,v,_,w,sl,_,_,_,rfl,hS,hsl _ _ _ _ _ E (hF K x a (r 0) (λj hj=>(r (A.b+j)).1 _ _ _ ((D.Fc d j hj).2 (by rw[m j hj];rfl))) N Q)⟩
def TK(C:kX P A.nm)(X:kY P A.nm)(F:sz P A.nm)  v  (a:A.dir=true) (H:cZ (dG P A Fin Z v) Z s f q kk OO J M gs w t) (hj:j<A.n){Y}(o:s.w j=.un .ue Y) (hg:gs[A.b+j]?=some g) (K:N9 P A j (.un .ue Y) (kk (A.b+j)) (OO (A.b+j)) g)  sl :
 Goes P A Fin Z v s gs w t sl (A.b+j):=by
 have d:fP P A Z s kk OO J M gs.size w t:=H.ex;have B:=cE (P:=P) (A:=A) (Fin:=Fin) (Z:=Z) v;have hb:=A.hb;have L:(A.b+j==0)=false:=am
 obtain⟨ν,c,μ,hk,hM,hm,a9,Q⟩:=K;have hN:=Q ap;rw[show Lt P A Y.N=T P (rZ P A) lR by simp[Lt,a]]at hN;obtain⟨R,S,hr,g2,z,D⟩:=HA (Wd:=λ_=>True) (γ:=false) (w:=w) C X hM;obtain⟨k,U⟩:=z.trans (rB F D hk);obtain⟨tr⟩:=T.tree (P:=P) (m:=rZ P A) rfl hN;obtain⟨T,_⟩:=TT.pre U tr;obtain⟨x,r⟩:=S1 (.Fa:cL P);have p:(s.bW j x s.sh).w j=.Fa:=by rw[bV,r]
 have V:EvM A.fb A.fo #[⟨.mark .enable,false,true⟩]:=λe he=>aq
 have E:=runT_crowd_go (P:=P) (sl:=sl) (i:=A.b+j) hg (by rw[L];exact S);have G:dA P A s (A.b+j):=mV d.I hj (by rw[o];rfl);obtain⟨y1,y2,y3⟩:=d.Tq V G g.frame.fn g.frame.place;have u:∀op∈MemOp.ofEvents (A.b+j) g.frame.fn g.frame.place #[⟨.mark .enable,false,true⟩],op.g=A.b+j:=(by grind [Go.Conc.mem_ofEvents]);have hJ:J (A.b+j):=(d.hJ _).2 (CE hj (by rw[o];rfl));have hP:=H.eU.sync (i:=A.b+j) (.inr hJ) u rfl ⟨⟨.refl _,rfl⟩,am⟩ (λb=>.inl rfl) y2 y1;have hI:du A.n (s.bW j x s.sh):=d.I.CG hj (by rw[o];rfl) (by rw[r];rfl) (.inr (d.dd.trans a)) (by rw[r];rfl) (by rw[r,o];rfl);have hL:MS.kS A.n (s.bW j x s.sh) s:=zM hj (by rw[r,o];simp[cL.eZ]);have W:=d.DQ (x:=x) (sh:=s.sh) (w':=w) hj (by rw[r,o];rfl) (by rw[r,o];rfl) (λ_=>by rw[r,o];rfl) hI d.mu am d.BZ y3
 have hS:jU A s (s.bW j x s.sh) (A.b+j):=DQ hj (.inr ⟨λhl=>by
  obtain⟨o1,o2,o3,o4,_⟩:=d.off.2.1 a;rcases hl with⟨_,h⟩|⟨l,_,h1,_⟩|⟨_,h⟩
  . grind
  . omega
  grind,(d.off.2.1 a).2.1⟩)
 have a7:Beside (dG P A Fin Z v) s (s.bW j x s.sh) f (dz f (A.b+j) ⟨rZ P A,kk (A.b+j),OO (A.b+j),R,T⟩) q q kk kk OO OO J J w (A.b+j) g R:=r8 v hS (by grind [aK]) ac am am am (.inl ⟨id,id⟩) (λ{i k O y} D=>B.qu (s:=s) (i:=i) (k:=k) (O:=O) (g:=y) D);refine⟨_,_,E,s.bW j x s.sh,dz f (A.b+j) ⟨rZ P A,kk (A.b+j),OO (A.b+j),R,T⟩,q,kk,OO,J,M,_,_,_,rfl,hL,?_⟩;refine cZ.step B H hg u hP W (λl y hl D=>B.zf d hl _ _ D) a7 ⟨λ_=>?_,λh=>absurd h (vt hj (.inr p)),λh=>absurd h (Bo hj p),λh=>absurd (zP hj p) h⟩;rw[aD];refine⟨by show A.b+j<A.b+A.n+1;omega,rfl,?_,rfl,rfl,hr,?_,.inr hJ,Oj p⟩
 . show rZ P A=eF P A Fin (s.bW j x s.sh) (A.b+j)
   grind [DY]
 . obtain⟨_,_,a8,_⟩:=H.walk _ (nz (P:=P) (A:=A) (s:=s) hj (by rw[o];rfl))
   rw[Deaf_own,a8];show deafBehind (iy P A s (A.b+j)) _=0;rw[jG hj,o];rfl
end
section
variable{P:Rg}{A:dq}{Fin:ZD}{Z:Base}{s s':MS P}{f f':Nat->Node P}{q q':Ct}{kk kk':Zz}{OO OO':ZF}{J J' M M':ZA}{gs gs':Da}{w w':World}{t u:Trace}{j m:Nat}{g g' g₂ child:YB}{z v:Value}
def aeA  L  (z:cZ (dG P A Fin Z L) Z s f q kk OO J M gs w t):∃(i:Nat) (g:YB),gs[i]?=some g/\g.status=.running:=by
 have o:fP P A Z s kk OO J M gs.size w t:=z.ex;have B:=cE (P:=P) (A:=A) (Fin:=Fin) (Z:=Z) L;refine K3 λC=>?_
 have a:∀i,¬gV P A s i:=λi k=>by
  obtain⟨_,N,_,_,_,O,_⟩:=z.live i k
  grind
 have F9:∀i,ln P A s i->Z3 P A s i:=λi D=>by
  obtain⟨_,_,_,x,x',N,O,R⟩:=z.walk i D
  rcases R with⟨h,_⟩|h
  . exact h
  . exact absurd ⟨i,x,N,h.first (B.qu O).1⟩ C
 have hb:=A.hb
 obtain⟨S,T,U,V,E⟩:s.sp=A.n/\s.c≠.none/\s.c≠.gone/\(∀j,j<A.n->s.w j≠.wait)/\s.ms.pend=0:=by
  have d:=o.I.ms;cases e:s.ms with
  |parked=>rw[e]at d;exact⟨d.1,d.2.1,d.2.2.1,d.2.2.2,rfl⟩
  |add l=>exact absurd (wQ e) (a 0)
  |spawn l=>exact absurd (Ea e) (a 0)
  |recv=>exact absurd (nR e) (a 0)
  | cY l p=>
    rw[e]at d
    rcases F9 0 (Ms e)with⟨l,_,_,r,F,_⟩|⟨_,h,_⟩
    . omega
    grind
  | off=>
    rw[e]at d
    have hd:A.dir=true:=by
     cases q:A.dir with
     |true=>rfl
     |false=>exact absurd e (o.off.2.2 q)
    refine⟨d.1,d.2,(o.off.2.1 hd).2.2.2.2,λj W D=>?_,rfl⟩
    obtain⟨_,_,_,_,_,_,_,h|⟨_,_,_,_,_,_,_,_,_,_,h⟩⟩:=z.held (A.b+j) (.inr ⟨j,W,rfl,D⟩)
    . omega
    grind
 have Q:s.c=.wt .w4/\s.gm=0:=by
  cases e:s.c with
  |none=>grind
  |gone=>grind
  |jq=>exact absurd (Bm (.inr e)) (a _)
  |oI=>exact absurd (Bm (.inl e)) (a _)
  | wt p=>
    rcases F9 _ (Bl e)with⟨l,_,_,r,F,_⟩|⟨_,h,h'⟩
    . omega
    grind
 have m:∀l,l<A.n->ln P A s (A.b+l)->∃sv Y,s.w l=.lk (.lx sv) Y/\s.sh.ms=0:=λl k h=>by
  rcases F9 _ h with⟨l',sv,Y,r,F,h3,h4⟩|⟨r,_⟩
  . grind
  omega
 have u:∀l,l<A.n->s.w l=.gone\/∃sv Y,s.w l=.lk (.lx sv) Y/\s.sh.ms=0:=λl k=>by
  have v:=o.I.idle l k;cases e:s.w l with
  |idle=>rw[e]at v;have:=v.1 rfl;omega
  |run h X=>exact absurd (pY k e) (a _)
  |lk p Y=>have:=m l k (.inr (.inl ⟨l,k,rfl,aq⟩));grind
  |un p Y=>have:=m l k (.inr (.inl ⟨l,k,rfl,aq⟩));grind
  |wait=>grind
  |Fa=>exact absurd (zP k e) (a _)
  |dn p=>grind [sU]
  |gone=>grind
 have y:∀l,l<A.n->s.w l=.gone:=λl k=>by
  rcases u l k with h|⟨sv,Y,h,h0⟩
  . exact h
  . have r:=o.I.mu.alive (λi G=>by
     rcases u i G with h|⟨sv,Y,h,_⟩
     . exact .inl (by rw[h];rfl)
     . exact .inr ⟨sv,by rw[h];rfl⟩) h0 l k
    rw[h]at r;cases r
 have H:s.gc=0:=by
  have r:=o.I.g1;rw[E]at r
  have F:sumTo A.n (λj=>(s.w j).cnt)=0:=by
   have:∀n,n<=A.n->sumTo n (λj=>(s.w j).cnt)=0:=λn=>by
    induction n with
    |zero=>intro _;rfl
    | succ n ih=>
      intro hn;have e1:=ih ac
      simp only[sumTo,e1,y n ac]
      rfl
   grind
  omega
 have K:s.c.waits=true:=by rw[Q.1];rfl
 by_cases hv:s.gv=1
 . obtain⟨i,G,h⟩:=o.I.g7 hv H
   grind
 . have:=o.I.g2
   obtain⟨i,G,h⟩:=o.I.g6 K ac Q.2
   grind
variable(C:lH P A.ng)(X:mP P A.ng)(CM:kX P A.nm)(XM:kY P A.nm)(F:sz P A.nm)
include C X CM XM F in
def rUd  r   sl   i  {k O g N}  L   h   c
 (u:cZ (dG P A Fin Z r) Z s f q kk OO J M gs w t) (U:gV P A s i) (Q:f i=⟨eF P A Fin s i,k,O,g,.fY N L h c⟩):
 ∃ ο y,runT P (crowd gs w sl) i=(.next y,ο)/\
  ((∃s' f' q' kk' OO' J' M' gs' w' o,y=crowd gs' w' o/\MS.kS A.n s' s/\cZ (dG P A Fin Z r) Z s' f' q' kk' OO' J' M' gs' w' (t++ο))\/
   (∃gs' w' o k' O' g',y=crowd gs' w' o/\iz P Z.W0 k' O' g' gs' w' (t++ο)/\Fin k' O' g')):=by
 have R:fP P A Z s kk OO J M gs.size w t:=u.ex
 have goes:Goes P A Fin Z r s gs w t sl i->∃ο y,runT P (crowd gs w sl) i=(.next y,ο)/\
  ((∃s' f' q' kk' OO' J' M' gs' w' o,y=crowd gs' w' o/\MS.kS A.n s' s/\cZ (dG P A Fin Z r) Z s' f' q' kk' OO' J' M' gs' w' (t++ο))\/
   (∃gs' w' o k' O' g',y=crowd gs' w' o/\iz P Z.W0 k' O' g' gs' w' (t++ο)/\Fin k' O' g')):=λ⟨ο,y,S,T⟩=>⟨ο,y,S,.inl T⟩
 obtain⟨_,d,_,B,D,_,_,_,_⟩:=u.live i U;rw[Q]at d B D;have d:gs[i]?=some g:=d;have B:k=kk i:=B;have D:O=OO i:=D;subst B D
 rcases U with⟨rfl,E⟩|⟨j,x,rfl,H⟩|⟨rfl,G⟩
 . cases e:s.ms with
   | add l=>
     rw[Kl e]at h;cases l with
     | zero=>
       by_cases hd:A.dir=true
       . exact goes (TH C X r hd u e d h sl)
       . exact goes (rUp r (Bool.eq_false_iff.2 hd) u e d h sl)
     |succ l=>exact goes (TA C X r u e rfl rfl d h sl)
   |cY l p=>rw[e]at E;exact E.elim
   | spawn l=>
     have m:eF P A Fin s 0=N8 P A Fin l:=by unfold eF;rw[wS rfl,e]
     rw[m]at h;exact goes (rUr r u e d h sl)
   |parked=>rw[e]at E;exact E.elim
   |off=>rw[e]at E;exact E.elim
   | recv=>
     have a:A.dir=false:=by
      cases q:A.dir with
      |false=>rfl
      |true=>exact absurd e (R.off.2.1 q).1
     rw[uA e]at h;obtain⟨g₂,z,V,r2,r3,r4⟩:=TB h
     by_cases K:∃j,j<A.n/\s.w j=.wait
     . obtain⟨j,x,H⟩:=K
       exact goes (TD r a u e x H d V h sl)
     . by_cases G:s.c=.gone
       . obtain⟨ο,y,S,gs',w',o,k',O',g',T,e3⟩:=Z' r a u e G d h sl
         exact⟨ο,y,S,.inr ⟨gs',w',o,k',O',g',T,e3⟩⟩
       . exact goes (TE r a u e (λj x H=>K ⟨j,x,H⟩) G d V r2 r3 r4 sl)
 . cases e:s.w j with
   | run b X0=>
     have m:=uz (Fin:=Fin) x e;have I:=h;rw[m]at I
     rcases I with I|I|⟨a,rfl,W,g₂,z,v,hs,hv,ht⟩
     . exact goes (aaH CM XM F r u x e (Y:=⟨eF P A Fin s (A.b+j),_,_,g,N,L,h,c⟩) Q I sl)
     . exact goes (aes CM XM F r u x e (Y:=⟨eF P A Fin s (A.b+j),_,_,g,N,L,h,c⟩) Q I sl)
     . have hb:b=false:=by
        cases b with
        |false=>rfl
        |true=>exact absurd W (R.Fy j x (by rw[e];rfl))
       subst hb
       by_cases E:s.ms=.parked
       . exact goes (TC r a u x e E d hs hv ht sl)
       . exact goes (XO r a u x e E d hs W hv ht sl)
   |Fa=>have m:=DY (Fin:=Fin) x e;rw[m]at h;exact goes (AsT C X r u x e d h sl)
   |_=>rw[e]at H;exact H.elim
 . have a:A.dir=false:=by
    cases q:A.dir with
    |false=>rfl
    | true=>
      obtain⟨_,_,o3,o4,_⟩:=R.off.2.1 q;cases e:s.c with
      |jq=>exact absurd e o3
      |oI=>exact absurd e o4
      |_=>rw[e]at G;exact G.elim
   cases e:s.c with
   |jq=>rw[Og a e]at h;exact goes (CV1 C X r u e rfl rfl d h a sl)
   | oI=>
     rw[Of a (by rw[e];simp)]at h
     exact goes (TF r a u e d h sl)
   |_=>rw[e]at G;exact G.elim
def Ends(P:Rg)(Fin:ZD)(Z:Base)(gs:Da)(w:World)(t:Trace)(sl:Option (Nat × Nat))(i:Nat):Prop:=∃ο b,runT P (crowd gs w sl) i=(.next b,ο)/\∃gs' w' a c d g',b=crowd gs' w' a/\iz P Z.W0 c d g' gs' w' (t++ο)/\Fin c d g'
variable(hsl:∀(n:Nat) (k:az) (O:au) (g gB:YB),n8 P (λ_=>True) n g gB->Fin k O gB->Fin k O g)
include C X CM XM F hsl in
def rTq  a   sl   i  {g}(b:cZ (dG P A Fin Z a) Z s f q kk OO J M gs w t) (x:ln P A s i) (d:gs[i]?=some g) (k:M6 P A Fin s i (kk i) (OO i) g):
 Goes P A Fin Z a s gs w t sl i\/Mp P A s gs w sl i g\/Ends P Fin Z gs w t sl i:=by
 have z:fP P A Z s kk OO J M gs.size w t:=b.ex;have hb:=A.hb;rcases x with⟨rfl,B⟩|⟨j,m,rfl,x⟩|⟨rfl,y⟩
 . cases e:s.ms with
   | cY l p=>
     rcases k with⟨_,h⟩|⟨l,n,D,_⟩|⟨n,h⟩
     . rw[e]at h;exact .inl (aiy C X a b e d h sl)
     . omega
     . have:=z.I.ms
       rw[e]at this;rw[this.2.1]at h;exact h.elim
   |_=>rw[e]at B;exact B.elim
 . rcases k with⟨n,_⟩|⟨l,n,D,h⟩|⟨n,_⟩
   . omega
   . obtain rfl:l=j:=ac
     cases e:s.w l with
     | lk p Y=>
       rw[e]at h;by_cases o:p=.la
       . subst o;exact .inl (XA CM XM F a b m e d h sl)
       . exact(Xx CM XM a b m e d h o sl).imp_right .inl
     | un p Y=>
       rw[e]at h;by_cases r:p=.ur
       . subst r;exact .inl (XB CM XM a b m e d h sl)
       . by_cases u:p=.ue
         . subst u
           by_cases hd:A.dir=true
           . exact .inl (TK CM XM F a hd b m e d h sl)
           . exact .inl (Xz CM XM F a b m e d h (Bool.eq_false_iff.2 hd) sl)
         . exact .inl (Xy CM XM a b m e d h r u sl)
     |dn p=>rw[e]at h;exact .inl (XG C X a b m e d h sl)
     |_=>rw[e]at x;exact x.elim
   . omega
 . rcases k with⟨n,h⟩|⟨l,n,D,h⟩|⟨_,h⟩
   . have:s.c≠.none:=λq=>by rw[q]at y;exact y
     rw[z.off.1 (H8 n) this]at h;exact h.elim
   . omega
   . cases e:s.c with
     | wt p=>
       rw[e]at h;by_cases v:p=.wa
       . subst v
         by_cases hd:A.dir=true
         . have E:=Te hd
           rw[E]at d h ⊢;exact .inr (.inr (TJ C X hsl a hd b e d h sl))
         . exact .inl (XK C X a b e d h (Bool.eq_false_iff.2 hd) sl)
       . exact(XJ C X a b e v d h sl).imp_right .inl
     |_=>rw[e]at y;exact y.elim
include C X CM XM F hsl in
def TL  b  (a:cZ (dG P A Fin Z b) Z s f q kk OO J M gs w t)  sl :
 ∃N gs' w' d o k' O' g',runNT P N (crowd gs w sl) t=(.next (crowd gs' w' d),o)/\iz P Z.W0 k' O' g' gs' w' o/\Fin k' O' g':=
 acD (cE (P:=P) (A:=A) (Fin:=Fin) (Z:=Z) b) Fin (λa=>aeA b a) (by intro s f q kk OO J M gs w t sl i k O g N p h c a r u;exact rUd C X CM XM F b sl i p h c a r u)
  (by
    intro s f q kk OO J M gs w t sl i g a v x j _;rcases rTq C X CM XM F hsl b sl i a v x j with⟨ο,l,m,n⟩|⟨hd,e⟩|⟨ο,l,m,n⟩
    . exact⟨ο,l,m,.inl n⟩
    . exact⟨_,_,e,.inr (.inr ⟨hd,rfl,rfl⟩)⟩
    . exact⟨ο,l,m,.inr (.inl n)⟩) s _ f _ q kk OO J M gs w sl t rfl rfl a
end
theorem Eb{F}:∀{n},(∀i,i<n->F i=0)->sumTo n F=0
 |0,_=>rfl
 |n+1,h=>by simp  [sumTo,Eb (n:=n) λi a=>h i ac,h n _]
def rT1  n :Mu.Inv n (λ_=>.out) ⟨.zero,0⟩:=by
 have a:∀(F:Mu.Pc->Nat),F .out=0->Mu.tot n (λ_=>F .out)=0:=(by simp_all [Mu.Hu]);refine⟨⟨λi _=>trivial,?_,λ_=>⟨?_,?_,?_⟩,λh=>(by cases h),λ_ _ _ h=>absurd rfl h⟩,λh=>(by cases h),am⟩
 . rw[a Mu.dQ rfl];rfl
 . rw[a Mu.kB rfl,a Mu.eI rfl,a Mu.tz rfl];rfl
 . rw[a Mu.gz rfl]
 . rw[a Mu.eH rfl,a Mu.eI rfl];rfl
def MS.start  P  (d:Bool) (n:Nat):MS P:=⟨d,.add n,0,λ_=>.idle,.none,⟨.zero,0⟩,0,0,0⟩
def rSw  P   d   n :du n (MS.start P d n):=by
 refine⟨?_,Jq _,λh=>(by cases h),λj _ h=>(by rcases h with h|h<;>cases h),λi j _ _ h=>(by cases h),λj _ h=>(by cases h),⟨Jq _,λh=>(by cases h)⟩,λh=>(by cases h),λh=>(by cases h),λh=>(by cases h),λk h=>(by cases h),λj _=>rfl,rfl,Jq _,λj _=>⟨λ_=>Jq _,λ_=>rfl⟩,⟨IC _,rfl⟩,λ_ _ j _=>rfl,rT1 n⟩;show 0=sumTo n (λ_=>0)+0
 grind [Eb]
structure lS where
 n:Nat
 dir:Bool
 cF:Nat
 fb:Nat
 fo:Nat
 gb:Nat
 mb:Nat
 GI:uK->Prop
 res:Nat->AV
 val:Nat->Value
 nm:Jl
 ng:W6
 hn:n<=900
 d1:cF≠fb
 d2:cF≠gb
 d3:cF≠mb
 d4:fb≠gb
 d5:fb≠mb
 d6:gb≠mb
def lS.at(A:lS)  b  (hb:0<b):dq:=⟨b,A.n,if A.dir then 0 else b+A.n,A.cF,A.fb,A.fo,A.gb,A.mb,A.GI,A.res,A.val,A.nm,A.ng,⟨hb,by split<;>simp⟩,A.hn,A.d1,A.d2,A.d3,A.d4,A.d5,A.d6⟩
theorem lS.Ec(A:lS)  b   hb :(A.at b hb).dir=A.dir:=by
 show((if A.dir=true then 0 else b+A.n)==0)=A.dir
 grind
def lS.rest(A:lS)(O:au):au:=λb=>if(A.dir=false/\b=A.cF)\/b=A.fb\/b=A.gb\/b=A.mb then none else O b
section
variable{P:Rg}{Fin:ZD}
theorem qK{w:World}{b i c e}(h:w.heap[b]?=some (.cells c e (0,0))):w.frozen? ⟨b,i,none⟩=false:=by simp[World.frozen?,h]
def ta{w:World}{b i c e v}(h:w.heap[b]?=some (.cells c e (0,0)))(a:c[i]?=some v):w.cell? ⟨b,i,none⟩=some v:=by simp[World.cell?,h,a]
def WE2(A:lS)(C:lH P A.ng)(X:mP P A.ng)(CM:kX P A.nm)(XM:kY P A.nm)(F:sz P A.nm){k O g cg eg x a lp}
 (hF:A.dir=false->∃xF tm,O A.cF=some (.obj (.chan 0 #[] false xF xF tm))) (hG:O A.gb=some (.obj (.cells cg eg (0,0)))) (b5:cg[0]?=some (.int .u64 0)) (b6:cg[1]?=some (.int .u32 0)) (hL:O A.fb=some (.part lp)) (b7:lp A.fo=some (.int .i32 0)) (b8:lp (A.fo+1)=some (.int .u32 0)) (c5:A.dir=true->∀j,j<A.n->lp (A.fo+2+j)≠none) (hsl:∀  n   k   O   g gB ,n8 P (λ_=>True) n g gB->Fin k O gB->Fin k O g)
 (hM:O A.mb=some x) (c6:qf k x a) (b9:A.GI a) (ht:∀b  hb ,T P (vN P (A.at b hb) Fin A.n) lR k (A.rest O) g):Ha P k O g Fin:=by
 intro W0 gs w sl t hS;have a8:∀b x,O b=some x->W0.heap.size<=b:=by obtain⟨_,_,_,_,_,_,_,_,_,h⟩:=hS;exact h
 have hb:0<gs.size:=by
  obtain⟨_,_,h0,_⟩:=hS
  grind
 obtain⟨B,H⟩:=S1 (A.at gs.size hb);obtain⟨lk,c7⟩:=S1 (gs.size+A.n+1);obtain⟨Z0,z1,z2,z3,z4,h0,⟨q,aL⟩,bm,M,bq⟩:=dX.start hS lk ⟨A.fb,A.fo,none⟩ ac
 have r:Sat k O w:=by have:=M.sat 0;grind [aD]
 obtain⟨tr⟩:=T.tree (Kk (P:=P) (A:=B) (Fin:=Fin) A.n) (by rw[H];exact ht gs.size hb)
 have U:(0:Nat)≠lk:=ac
 have a9:∀i,bS O A.gb i:=λi=>.inl ⟨_,hG⟩
 have ab:∀i,k.cell A.gb i=none:=λi=>by
  cases e:k.cell A.gb i with
  |none=>rfl
  |some v=>exact absurd (a9 i) (r.apart _ _ _ e)
 have I:∀i,(i=A.fo\/i=A.fo+1\/(A.dir=true/\∃j,j<A.n/\i=A.fo+2+j))->bS O A.fb i:=λi D=>.inr (.inr ⟨_,hL,am⟩)
 have al:∀i,(i=A.fo\/i=A.fo+1\/(A.dir=true/\∃j,j<A.n/\i=A.fo+2+j))->k.cell A.fb i=none:=λi D=>by
  cases e:k.cell A.fb i with
  |none=>rfl
  |some v=>exact absurd (I i D) (r.apart _ _ _ e)
 have N:=r.obj _ _ hG;obtain⟨cl,el,Q,_,aO⟩:=r.part _ _ hL
 have br:∀b y,A.rest O b=some y->O b=some y/\(A.dir=false->b≠A.cF)/\b≠A.fb/\b≠A.gb/\b≠A.mb:=λb y h=>by
  unfold lS.rest at h
  grind
 obtain⟨kk,av⟩:=S1 (dz (dz (λ_=>az.bot) 0 k) lk k)
 obtain⟨OO,ax⟩:=S1 (dz (dz (λ_=>au.bot) 0 (A.rest O)) lk (au.bot.set A.mb x))
 have ay:kk 0=k:=by rw[av,aK _ _ U,aD]
 have aW:kk lk=k:=by rw[av,aD]
 have aC:∀i,i≠0->i≠lk->kk i=az.bot:=λi o h2=>by rw[av,aK _ _ h2,aK _ _ o]
 have b0:OO 0=A.rest O:=by rw[ax,aK _ _ U,aD]
 have b1:OO lk=au.bot.set A.mb x:=by rw[ax,aD]
 have bw:∀i,i≠0->i≠lk->OO i=au.bot:=λi o h2=>by rw[ax,aK _ _ h2,aK _ _ o]
 have E:∀i b y,OO i b=some y->(i=0/\O b=some y/\(A.dir=false->b≠A.cF)/\b≠A.fb/\b≠A.gb/\b≠A.mb)\/(i=lk/\b=A.mb/\y=x):=λi b y h=>by
  by_cases K:i=0
  . subst K;rw[b0]at h;grind
  . by_cases L:i=lk
    . subst L
      rw[b1]at h
      by_cases eb:b=A.mb
      . subst eb;simp only[au.set,ZC,td]at h;grind
      . simp only[au.set,wN eb]at h;cases h
    . rw[bw i K L]at h;cases h
 have c8:∀i b n v,(kk i).cell b n=some v->k.cell b n=some v:=λi b n v h=>by
  by_cases K:i=0
  . grind
  . by_cases L:i=lk
    . grind
    . rw[aC i K L]at h;cases h
 have bx:dX Z0 kk OO (λ_=>False) (λ_=>False) w t:=by
  have h:=M.AO (u:=#[]) (w':=w) (kk':=kk) (OO':=OO) (J':=λ_=>False) (M':=λ_=>False) (λa b=>a=b\/(a=0/\b=lk)) rfl ⟨⟨.refl _,rfl⟩,am⟩ (λb=>.inl rfl) (λop h=>by simp at h) (λi j e n y G hm hz hk=>?_) (λj b n v R=>?_) (λj b s R=>?_) (λj b y G=>?_) (λi j b y c9 G=>?_)
   (λsaid=>by rw[xB];exact M.clean said) (λop J=>by simp at J) (λm op a J=>by simp at J) (λn a ha hm h=>?_)
  . grind
  . rw[xB]
    rcases e with rfl|⟨rfl,rfl⟩
    . omega
    . unfold OT
      rw[z2,wS rfl,z1];obtain⟨op,J,_⟩:=touch_of G
      grind
  . by_cases K:j=0
    . subst K;rw[ay]at R;exact⟨0,.inl rfl,by rw[aD];omega⟩
    . by_cases L:j=lk
      . subst L;rw[aW]at R;exact⟨0,ac,by rw[aD];omega⟩
      . rw[aC j K L]at R;cases R
  . by_cases K:j=0
    . subst K;rw[ay]at R;exact⟨0,.inl rfl,by rw[aD];omega⟩
    . by_cases L:j=lk
      . subst L;rw[aW]at R;exact⟨0,ac,by rw[aD];omega⟩
      . rw[aC j K L]at R;cases R
  . rcases E j b y G with⟨rfl,o,_⟩|⟨rfl,rfl,rfl⟩
    . exact⟨0,.inl rfl,by rw[aD];omega,λs V=>by rw[aD]at V;grind⟩
    . exact⟨0,ac,by rw[aD];omega,λs V=>by rw[aD]at V;grind⟩
  . cases e:OO j b with
    |none=>rfl
    | some y'=>
      rcases E i b y G with⟨rfl,_,_,_,_,h5⟩|⟨rfl,o,_⟩
      . grind
      grind
  grind
 have bA:A.gb<w.heap.size:=am
 have f:∀i b,((A.dir=false/\b=A.cF)\/b=A.fb\/b=A.gb)->OO i b=none:=λi b hb=>by
  cases e:OO i b with
  |none=>rfl
  | some y=>
    rcases E i b y e with⟨_,_,o,h2,h3,_⟩|⟨_,o,_⟩
    . grind
    . rcases hb with⟨_,rfl⟩|rfl|rfl
      . exact absurd o A.d3
      . exact absurd o A.d5
      . exact absurd o A.d6
 have d:∀i b n,k.cell b n=none->(kk i).cell b n=none:=λi b n h=>by
  cases e:(kk i).cell b n with
  |none=>rfl
  |some v=>grind
 have hP:=bx.zc (λl=>∃c:Addr,l=.cell c/\c.spot=none/\c.block=A.gb/\(c.off=0\/c.off=1)) (λc ⟨c',e,_,o,_⟩=>by cases e;rw[o];exact⟨bA,λi=>⟨iR (f i _ ac),d i _ _ (ab _)⟩⟩) am
 obtain⟨Z,hZ⟩:=S1 (⟨λl=>Z0.na l\/∃c:Addr,l=.cell c/\c.spot=none/\c.block=A.gb/\(c.off=0\/c.off=1),Z0.N0,Z0.lk,Z0.la,Z0.W0⟩:Base)
 rw[<-hZ]at hP;have aE:Z.lk=lk:=am
 have ca:Z.N0=t.size:=am
 have b2:Z.W0=W0:=am
 have W:B.b+B.n+1<=Z.lk:=by rw[aE,H];show gs.size+A.n+1<=lk;omega
 have S:∀m b,touchAt t m=some b->b.loc.isMemory=true->b.kind≠.atomic->Knows t 0 m:=λm b hb hm hk=>am
 have Y:∀l,Fb B l->l.isMemory=true:=λl hl=>by cases l<;>first|rfl|exact hl.elim
 have a7:∀i,dA P B (MS.start P A.dir A.n) i↔i=0:=λi=>by
  constructor
  . rintro(h|⟨l,o,_⟩|⟨_,o⟩)
    . exact h
    . exact absurd o (Nat.not_lt_zero _)
    . exact absurd rfl o
  . exact λh=>.inl h
 have bB:w.cell? ⟨A.gb,0,none⟩=some (.int .u64 (ju (0:Nat) 0)):=by rw[show ju ((0:Nat):Int) 0=0 by simp[ju]];exact ta N b5
 have z:B.dir=A.dir:=by rw[H];exact A.Ec _ _
 have bC:fP P B Z (MS.start P A.dir A.n) kk OO (λ_=>False) (λ_=>False) gs.size w t:=by
  have bE:B.fo=A.fo/\B.fb=A.fb/\B.n=A.n:=by rw[H];exact⟨rfl,rfl,rfl⟩
  rw[H]at a7 Y z bE ⊢
  refine⟨rSw P A.dir A.n,rfl,z.symm,⟨λ_ h=>absurd rfl h,λ_=>by simp[MS.start],λ_=>by simp[MS.start]⟩,λhd j hj=>⟨λ_=>⟨λi=>d i _ _ (al _ (.inr (.inr ⟨z ▸ hd,j,hj,rfl⟩))),λm a ad ha _ _=>?_⟩,λh=>(by cases h)⟩,λhd=>?_,⟨ta Q (aO _ _ b7),ta Q (aO _ _ b8),λi=>qK Q⟩,⟨bB,ta N b6,λi=>qK N⟩,⟨_,_,Q⟩,⟨_,_,N⟩,λi=>⟨λhd=>f i _ (.inl ⟨z ▸ hd,rfl⟩),f i _ (.inr (.inr rfl))⟩,
   λi=>⟨d i _ _ (al _ (.inl rfl)),d i _ _ (al _ ac),d i _ _ (ab _),d i _ _ (ab _)⟩,λi y G=>?_,λj _ h=>(by cases h),λ_=>⟨x,a,?_,?_,b9⟩,λc hc=>⟨?_,λj _=>rfl⟩,λi=>⟨λh=>h.elim,?_⟩,λp hp=>hp.elim,λh=>(by cases h),λm b hb V hk i D=>?_,λm b hb V hk=>?_,λi D m b hm hb b3 hz=>?_,λm c hm h=>?_,λi o h2=>?_,λl hl h=>?_,λc hc h=>?_,by rw[b2];exact⟨λhd=>(by obtain⟨_,_,h⟩:=hF (z ▸ hd);exact a8 _ _ h),a8 _ _ hL,a8 _ _ hG⟩,?_,?_⟩
  . obtain⟨op,J,_⟩:=touch_of ha
    grind
  . obtain⟨xF,tm,h⟩:=hF (z ▸ hd)
    exact⟨xF,tm,r.obj _ _ h⟩
  . have G:OO i A.fb=some y:=G
    rw[f i A.fb ac]at G;cases G
  . show OO Z.lk A.mb=some x
    rw[aE,b1];simp[au.set]
  . grind
  . rw[aE]at hc
    cases e:OO lk c with
    |none=>grind
    | some y=>
      rcases E lk c y e with⟨h,_⟩|⟨_,h,_⟩
      . omega
      . exact h
  . rintro(⟨j,_,_,h⟩|⟨_,h⟩)<;>cases h
  . grind
  . exact S m b hb (Y _ V) am
  . rw[(a7 i).1 D]
    rcases bq m b hb b3 with h|⟨h,_⟩
    . exact h
    . exact absurd (by rw[hZ];exact .inl h) hz
  . have:=lt_of_act? h
    omega
  . grind
  . obtain⟨c,rfl,b4⟩:=h
    obtain⟨V,hl⟩:=hl;rw[hZ];refine .inr ⟨c,rfl,V,b4,?_⟩
    rcases hl with⟨o,_⟩|⟨_,h2⟩
    . exact absurd (b4.symm.trans o).symm A.d4
    omega
  . rw[hZ]at h
    rcases h with h|⟨c',e,_,h,_⟩
    . have:=(M.rp c h).2 0
      rw[aD]at this;exact this.1 (by rw[hc.1];exact I _ (hc.2.imp id (·.imp id λh=>⟨z ▸ h.1,h.2⟩)))
    grind
  . grind
  omega
 have cb:B.b=gs.size:=by rw[H];rfl
 have aF:∀i,i≠0 -> ¬gV P B (MS.start P A.dir A.n) i/\¬ln P B (MS.start P A.dir A.n) i/\¬ki P B (MS.start P A.dir A.n) i:=λi D=>by
  refine⟨?_,?_,?_⟩
  . rintro(⟨h,_⟩|⟨_,_,_,h⟩|⟨_,h⟩)
    . omega
    . exact h
    . exact h
  . rintro(⟨h,_⟩|⟨_,_,_,h⟩|⟨_,h⟩)
    . omega
    . exact h
    . exact h
  . rintro(⟨h,_⟩|⟨_,_,_,h⟩)
    . omega
    . cases h
 have hC:cZ (dG P B Fin Z W) Z (MS.start P A.dir A.n) (λ_=>⟨_,_,_,_,tr⟩) q kk OO (λ_=>False) (λ_=>False) gs w t:=by
  refine⟨rfl,hP,λi hl=>?_,λi hw=>?_,λi hh=>?_,λi y G n1 n2 n3=>?_,aL.above,bC⟩
  . have D:i=0:=K3 λh=>(aF i h).1 hl
    subst D;exact⟨by show 0<B.b+B.n+1;omega,h0,(by show vN P B Fin A.n=eF P B Fin (MS.start P A.dir A.n) 0;rfl),ay.symm,b0.symm,tr.running,bm,.inl rfl,Kh⟩
  . have D:i=0:=K3 λh=>(aF i h).2.1 hw
    subst D;exact absurd hw (Gv (s:=MS.start P A.dir A.n) (m:=A.n) rfl rfl)
  . have D:i=0:=K3 λh=>(aF i h).2.2 hh
    subst D;exact absurd hh (sW (by simp[MS.start]))
  . have D:i≠0:=λe=>n1 (by subst e;exact wQ (s:=MS.start P A.dir A.n) (m:=A.n) rfl)
    exact⟨D,aL.old i y ac G⟩
 rw[<-b2];exact TL (by rw[H];exact C) (by rw[H];exact X) (by rw[H];exact CM) (by rw[H];exact XM) (by rw[H];exact F) hsl W hC sl
end

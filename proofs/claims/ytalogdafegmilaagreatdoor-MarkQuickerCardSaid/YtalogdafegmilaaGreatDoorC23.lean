/- Part 23 of the proof. -/
import Derived.Conc.TokenTrace
import Derived.Test.YtalogdafegmilaaGreatDoorC22
set_option linter.all false
namespace Go.aN
open Go.Conc
open Go.ConcN (sumTo upd sumTo_upd upd_ne upd_same)
section
variable{P:Program}{A:pu P}{Z:Base}{s s':A.S}{f f':Nat->Node P}{q q':Nat->Nat}{kk kk':Nat->ag}{OO OO':Nat->ah}{J J' M M':Nat->Prop}{gs gs':Array Goroutine}{w w':World}{t u:Trace}
structure Aside(A:pu P)(s s':A.S)(f f':Nat->Node P)(q q':Nat->Nat)(kk kk':Nat->ag)(OO OO':Nat->ah)(J J':Nat->Prop)(S:Nat->Prop):Prop where
 ef:∀j,¬S j->f' j=f j
 eq:∀j,¬S j->q' j=q j
 ek:∀j,¬S j->j<A.top->kk' j=kk j
 eO:∀j,¬S j->j<A.top->OO' j=OO j
 eJ:∀j,¬S j->A.Live s j->J j->J' j
 live:∀j,¬S j->(A.Live s' j↔A.Live s j)
 walk:∀j,¬S j->(A.Walk s' j↔A.Walk s j)
 held:∀j,¬S j->(A.mS s' j↔A.mS s j)
 mo:∀j,¬S j->A.Live s j->A.mo s' j=A.mo s j
 at':∀j k O x,¬S j->A.Walk s j->A.At s j k O x->A.At s' j k O x
 deaf:∀j,¬S j->A.Walk s j->A.deaf s' j=A.deaf s j
 xk:∀j,¬S j->A.Walk s j->A.xk s j->A.xk s' j
 L7:∀j k O x,¬S j->A.mS s j->A.Cn s j k O x->A.Cn s' j k O x
 tie:∀j x,¬S j->A.Live s j->A.JZ s j x->A.JZ s' j x
theorem br.E1(hC:br A Z s f q kk OO J M gs w t)(hu:kP u)(hP:bV Z kk' OO' J' M' w' (t++u))(hEx:A.Ex s' kk' OO' J' M' gs'.size w' (t++u))(hsz:gs.size<=gs'.size)(S:Nat->Prop)(hS:∀i,¬S i->gs'[i]?=gs[i]?)
 (ha:Aside A s s' f f' q q' kk kk' OO OO' J J' S) (hs:∀i,S i->∃g1,gs'[i]?=some g1/\Self P A s' f' q' kk' OO' J' (t++u) i g1):br A Z s' f' q' kk' OO' J' M' gs' w' (t++u):=by
 have hD:∀j,Deaf (t++u) j=Deaf t j:=λj=>bK hu j
 refine⟨hC.lk,hP,λj hj=>?_,λj hj=>?_,λj hj=>?_,λj x hx n1 n2 n3=>?_,λj hj=>by rw[hD];exact hC.above j (Nat.le_trans hsz hj),hEx⟩
 . by_cases e:S j
   . obtain⟨g1,h1,h2⟩:=hs j e
     obtain⟨p0,p1,p2⟩:=h2.live hj;exact⟨p0,by rw[h1,p1],p2⟩
   . have hj0:=(ha.live j e).1 hj
     obtain⟨p0,p1,pm,p2,p3,p4,p5,p6⟩:=hC.live j hj0;rw[ha.ef j e,ha.ek j e p0,ha.eO j e p0,hD j,ha.mo j e hj0,hS j e];exact⟨p0,p1,pm,p2,p3,p4,p5,p6.1.imp id (ha.eJ j e hj0),ha.tie j _ e hj0 p6.2⟩
 . by_cases e:S j
   . obtain⟨g1,h1,h2⟩:=hs j e
     obtain⟨p0,p1,p2,g',p3,p4⟩:=h2.walk hj;exact⟨p0,p1,p2,g1,g',h1,p3,p4⟩
   . have hj0:=(ha.walk j e).1 hj
     obtain⟨p0,p1,p2,x,x',p3,p4,p5⟩:=hC.walk j hj0;refine⟨λh=>p0 ((ha.live j e).1 h),p1,by rw[hD j,ha.deaf j e hj0];exact p2,x,x',by rw[hS j e];exact p3,?_,?_⟩
     . rw[ha.ek j e p1,ha.eO j e p1];exact ha.at' j _ _ _ e hj0 p4
     . rw[ha.eq j e]
       rcases p5 with⟨d1,d2,d3⟩|p5
       . exact .inl ⟨ha.xk j e hj0 d1,d2,d3⟩
       . exact .inr p5
 . by_cases e:S j
   . obtain⟨g1,h1,h2⟩:=hs j e
     obtain⟨p0,p1,p2,p3,p4,p5⟩:=h2.held hj;exact⟨p0,p1,p2,p3,g1,h1,p4,p5⟩
   . have hj0:=(ha.held j e).1 hj
     obtain⟨p0,p1,p2,p3,x,r1,r2,r3⟩:=hC.held j hj0;refine⟨λh=>p0 ((ha.live j e).1 h),λh=>p1 ((ha.walk j e).1 h),p2,by rw[hD j];exact p3,x,by rw[hS j e];exact r1,r2,?_⟩;rw[ha.ek j e p2,ha.eO j e p2];exact ha.L7 j _ _ _ e hj0 r3
 . by_cases e:S j
   . obtain⟨g1,h1,h2⟩:=hs j e
     rw[h1]at hx;obtain rfl:=Option.some.inj hx;exact h2.rest n1 n2 n3
   . rw[ha.eq j e,hD j]
     rw[hS j e]at hx;exact hC.rest j x hx (λh=>n1 ((ha.live j e).2 h)) (λh=>n2 ((ha.walk j e).2 h)) (λh=>n3 ((ha.held j e).2 h))
theorem br.quiet(B:xl A)(hC:br A Z s f q kk OO J M gs w t){i:Nat}{x:Goroutine}(hx:gs[i]?=some x)(hh:¬A.mS s i)(c:Nat)(b:Bool):offersAt x c b=[]:=by
 by_cases hl:A.Live s i
 . obtain⟨_,p1,_,_,_,p4,_⟩:=hC.live i hl
   rw[hx]at p1;obtain rfl:=Option.some.inj p1;exact offersAt_of_not_blocked (by rw[p4];decide) _ _
 by_cases hw:A.Walk s i
 . obtain⟨_,_,_,y,y',p3,p4,p5⟩:=hC.walk i hw
   rw[hx]at p3;obtain rfl:=Option.some.inj p3;obtain⟨a1,a2⟩:=B.kU p4;rcases p5 with⟨_,rfl,_⟩|p5
   . show offersAt (blk y') c b=[]
     unfold offersAt blk;simp only[a2]
   . exact offersAt_of_not_blocked (by rw[p5.first a1];decide) _ _
 . have h:=(hC.rest i x hx hl hw hh).2
   refine offersAt_of_not_blocked ?_ _ _;rcases h.status with h|h<;>rw[h]<;>decide
end
section
variable{P:Program}{A:dM}{Fin:ag->ah->Goroutine->Prop}{Z:Base}{s s':MS P}{f f':Nat->Node P}{q q':Nat->Nat}{kk kk':Nat->ag}{OO OO':Nat->ah}{J J' M M':Nat->Prop}{gs gs':Array Goroutine}{w w':World}{t u:Trace}{i:Nat}
structure gi{P:Program}(A:dM)(s s':MS P)(S:Nat->Prop):Prop where
 w:∀l,l<A.n -> ¬S (A.b+l)->s'.w l=s.w l
 c:¬S (A.b+A.n)->s'.c=s.c
 ms:¬S 0->s'.ms=s.ms/\MS.rem P A.n s'=MS.rem P A.n s
 sh:s'.sh.ms=s.sh.ms
 gm:s'.gm=s.gm
variable{S:Nat->Prop}
theorem gi.live(h:gi A s s' S){j:Nat}(hj:¬S j):dg P A s' j↔dg P A s j:=by
 constructor<;>rintro(⟨h0,h1⟩|⟨l,h1,h2,h3⟩|⟨h0,h1⟩)
 . subst h0;exact .inl ⟨rfl,by rw[<-(h.ms hj).1];exact h1⟩
 . subst h2;exact .inr (.inl ⟨l,h1,rfl,by rw[<-h.w l h1 hj];exact h3⟩)
 . subst h0;exact .inr (.inr ⟨rfl,by rw[<-h.c hj];exact h1⟩)
 . subst h0;exact .inl ⟨rfl,by rw[(h.ms hj).1];exact h1⟩
 . subst h2;exact .inr (.inl ⟨l,h1,rfl,by rw[h.w l h1 hj];exact h3⟩)
 . subst h0;exact .inr (.inr ⟨rfl,by rw[h.c hj];exact h1⟩)
theorem gi.walk(h:gi A s s' S){j:Nat}(hj:¬S j):eV P A s' j↔eV P A s j:=by
 constructor<;>rintro(⟨h0,h1⟩|⟨l,h1,h2,h3⟩|⟨h0,h1⟩)
 . subst h0;exact .inl ⟨rfl,by rw[<-(h.ms hj).1];exact h1⟩
 . subst h2;exact .inr (.inl ⟨l,h1,rfl,by rw[<-h.w l h1 hj];exact h3⟩)
 . subst h0;exact .inr (.inr ⟨rfl,by rw[<-h.c hj];exact h1⟩)
 . subst h0;exact .inl ⟨rfl,by rw[(h.ms hj).1];exact h1⟩
 . subst h2;exact .inr (.inl ⟨l,h1,rfl,by rw[h.w l h1 hj];exact h3⟩)
 . subst h0;exact .inr (.inr ⟨rfl,by rw[h.c hj];exact h1⟩)
theorem gi.held(h:gi A s s' S){j:Nat}(hj:¬S j):dW P A s' j↔dW P A s j:=by
 constructor<;>rintro(⟨h0,h1⟩|⟨l,h1,h2,h3⟩)
 . subst h0;exact .inl ⟨rfl,by rw[<-(h.ms hj).1];exact h1⟩
 . subst h2;exact .inr ⟨l,h1,rfl,by rw[<-h.w l h1 hj];exact h3⟩
 . subst h0;exact .inl ⟨rfl,by rw[(h.ms hj).1];exact h1⟩
 . subst h2;exact .inr ⟨l,h1,rfl,by rw[h.w l h1 hj];exact h3⟩
theorem kG(hZ:A.b+A.n+1<=Z.lk)(hS:gi A s s' S)(hf:∀j,¬S j->f' j=f j)(hq:∀j,¬S j->q' j=q j)(hk:∀j,¬S j->j<A.b+A.n+1->kk' j=kk j)(hO:∀j,¬S j->j<A.b+A.n+1->OO' j=OO j)(hJ:∀j,¬S j->dg P A s j->J j->J' j):
 Aside (bW P A Fin Z hZ) s s' f f' q q' kk kk' OO OO' J J' S:=by
 have hb:=A.hb;refine⟨hf,hq,hk,hO,hJ,λj hj=>hS.live hj,λj hj=>hS.walk hj,λj hj=>hS.held hj,λj hj hl=>?_,λj k O y hj _ hA=>?_,λj hj hw=>?_,λj hj hw hd=>?_,λj k O y hj _ hA=>?_,λj y hj _ ht=>?_⟩
 . show bu P A Fin s' j=bu P A Fin s j
   unfold bu;rcases hl with⟨h0,_⟩|⟨l,h3,h4,_⟩|⟨h0,_⟩
   . subst h0
     simp only[if_true,(hS.ms hj).1,(hS.ms hj).2]
   . subst h4
     have e:A.b+l-A.b=l:=by omega
     have n1:¬A.b+l=0:=by omega
     have n2:A.b+l<A.b+A.n:=by omega
     simp only[if_neg n1,if_pos n2,e,hS.w l h3 hj]
   . subst h0
     have n1:¬A.b+A.n=0:=by omega
     have n2:¬A.b+A.n<A.b+A.n:=by omega
     simp only[if_neg n1,if_neg n2,hS.c hj]
 . rcases hA with⟨h0,h⟩|⟨l,h3,h4,h5⟩|⟨h0,h⟩
   . subst h0;exact .inl ⟨rfl,by rw[(hS.ms hj).1];exact h⟩
   . subst h4;exact .inr (.inl ⟨l,h3,rfl,by rw[hS.w l h3 hj];exact h5⟩)
   . subst h0;exact .inr (.inr ⟨rfl,by rw[hS.c hj];exact h⟩)
 . show cN P A s' j=cN P A s j
   unfold cN;rcases hw with⟨h0,_⟩|⟨l,h3,h4,_⟩|⟨h0,_⟩
   . subst h0
     simp only[if_true,(hS.ms hj).1]
   . subst h4
     have e:A.b+l-A.b=l:=by omega
     have n1:¬A.b+l=0:=by omega
     have n2:A.b+l<A.b+A.n:=by omega
     simp only[if_neg n1,if_pos n2,e,hS.w l h3 hj]
   . subst h0
     have n1:¬A.b+A.n=0:=by omega
     have n2:¬A.b+A.n<A.b+A.n:=by omega
     simp only[if_neg n1,if_neg n2,hS.c hj]
 . rcases hd with⟨l,sv,Y,h3,h4,h5,h6⟩|⟨h0,h5,h6⟩
   . subst h4;exact .inl ⟨l,sv,Y,h3,rfl,by rw[hS.w l h3 hj];exact h5,by rw[hS.sh];exact h6⟩
   . subst h0;exact .inr ⟨rfl,by rw[hS.c hj];exact h5,by rw[hS.gm];exact h6⟩
 . rcases hA with⟨h0,g₂,z,h3,h4,h5,h6⟩|h
   . subst h0;exact .inl ⟨rfl,g₂,z,h3,h4,h5,by rw[(hS.ms hj).2];exact h6⟩
   . exact .inr h
 . exact λl b X h3 h4 h5=>ht l b X h3 h4 (by subst h4;rw[<-h5];exact(hS.w l h3 hj).symm)
theorem tp(hZ:A.b+A.n+1<=Z.lk)(hC:br (bW P A Fin Z hZ) Z s f q kk OO J M gs w t){x:Goroutine}(hx:gs[i]?=some x)(h:s.ms≠.parked\/i≠0):offersAt x A.cF false=[]:=by
 have B:=ba (P:=P) (A:=A) (Fin:=Fin) (Z:=Z) hZ;have hb:=A.hb;by_cases hh:dW P A s i
 . obtain⟨_,_,_,_,y,r1,r2,r3⟩:=hC.held i hh
   rw[hx]at r1;obtain rfl:=Option.some.inj r1;rcases r3 with⟨h0,_⟩|⟨j,h1,h2,g₂,z,v,h3,_⟩
   . rcases hh with⟨_,h1⟩|⟨l,h1,h2,_⟩
     . rcases h with h|h
       . exact absurd h1 h
       . exact absurd h0 h
     . omega
   . rw[h3,offersAt_parked_send']
 . exact hC.quiet B hx hh _ _
theorem tu(hZ:A.b+A.n+1<=Z.lk)(hC:br (bW P A Fin Z hZ) Z s f q kk OO J M gs w t){x:Goroutine}(hx:gs[i]?=some x)(h:∀j,j<A.n->i=A.b+j->s.w j≠.wait)(r:Nat):offersAt x r true=[]:=by
 have B:=ba (P:=P) (A:=A) (Fin:=Fin) (Z:=Z) hZ;have hb:=A.hb;by_cases hh:dW P A s i
 . obtain⟨_,_,_,_,y,r1,r2,r3⟩:=hC.held i hh
   rw[hx]at r1;obtain rfl:=Option.some.inj r1;rcases r3 with⟨h0,g₂,z,h3,_⟩|⟨j,h1,h2,_⟩
   . rw[h3,offersAt_parked_recv']
   . rcases hh with⟨h3,_⟩|⟨l,h3,h4,h5⟩
     . omega
     . obtain rfl:l=j:=by omega
       exact absurd h5 (h l h3 h4)
 . exact hC.quiet B hx hh _ _
theorem m5{i:Nat}{c:Nat}{b:Bool}(h:∀(j:Nat) (g:Goroutine),j≠i->gs[j]?=some g->offersAt g c b=[]):partners (gs.setIfInBounds i ph) c b=[]:=
 partners_nil λj g hg=>by
  rcases getElem?_stand gs i j g hg with⟨_,rfl⟩|⟨hj,hg⟩
  . exact offersAt_ph ..
  . exact h j g hj hg
end
section
variable{Z:Base}{kk:Nat->ag}{OO:Nat->ah}{J J' M M':Nat->Prop}{w w':World}{t u:Trace}
theorem bV.hand(h:bV Z kk OO J M w t){src dst:Nat}(h1:src≠Z.lk)(h2:dst≠Z.lk)(hk:∀n,Knows t src n->Knows (t++u) dst n)(hu:∀op∈u,op.act.touch?=none)(hl:∀op∈u,op.act.low w.heap.size)(hw:w'.heap.size=w.heap.size)(hq:Calm Z w w')(hb:∀b,Kept kk OO w w' b)
 (ha:∀n a,touchAt t n=some a->a.loc.isMemory=true->((∃j,J j/\Knows t j n)\/(∃p,M p/\Before t n p))->Told Z J' M' (t++u) n a):
 bV Z (bv kk dst ((kk dst).join (kk src))) OO J' M' w' (t++u):=by
 refine h.rY (λa b=>a=b\/(a=src/\b=dst)) hw hq hb hl (λa b e n y _ _ _ hkn=>?_) (λj b n v hv=>?_) (λj b s hv=>?_) (λj b x hx=>⟨j,.inl rfl,hx,λs hs=>?_⟩) h.iV
  (λsaid=>?_) (λop hop a ha=>by rw[hu op hop]at ha;cases ha) (λm op a hop ha=>by rw[hu op (Array.mem_of_getElem? hop)]at ha;cases ha) ha
 . rcases e with rfl|⟨rfl,rfl⟩
   . exact hkn.app u
   . exact(mR h2).2 (hk n ((mR h1).1 hkn))
 . by_cases e:j=dst
   . subst e
     rw[an]at hv;rcases ag.kC hv with hv|hv
     . exact⟨_,.inl rfl,hv⟩
     . exact⟨src,.inr ⟨rfl,rfl⟩,hv⟩
   . rw[ar _ _ e]at hv;exact⟨j,.inl rfl,hv⟩
 . by_cases e:j=dst
   . subst e
     rw[an]at hv;rcases ag.yA hv with hv|hv
     . exact⟨_,.inl rfl,hv⟩
     . exact⟨src,.inr ⟨rfl,rfl⟩,hv⟩
   . rw[ar _ _ e]at hv;exact⟨j,.inl rfl,hv⟩
 . by_cases e:j=dst
   . subst e;rw[an];exact(ag.lC _ _).sh b s hs
   . rw[ar _ _ e];exact hs
 . exact noRace_appendMute (h.clean said) hu
end
end Go.aN
namespace Go.aN
open Go.Conc
open Go.ConcN (sumTo upd sumTo_upd upd_ne upd_same)
variable{P:Program}
def MS.jY(s:MS P)(j:Nat)(x:be P)(m1:nG)(sp1:Nat):MS P:={s with w:=λi=>if i=j then x else s.w i,ms:=m1,sp:=sp1}
section
variable{s:MS P}{j n:Nat}{x:be P}{m1:nG}{sp1:Nat}
theorem eL:(s.jY j x m1 sp1).w j=x:=by simp[MS.jY]
theorem iZ{i:Nat}(h:i≠j):(s.jY j x m1 sp1).w i=s.w i:=by simp[MS.jY,h]
theorem Kv:(λi=>((s.jY j x m1 sp1).w i).pc)=Mu.set (λi=>(s.w i).pc) j x.pc:=by
 funext i;by_cases h:i=j
 . subst h;rw[eL,Mu.ao]
 . rw[iZ h,Mu.ai _ _ h]
theorem AW(F:be P->Nat)(hj:j<n):sumTo n (λi=>F ((s.jY j x m1 sp1).w i))+F (s.w j)=sumTo n (λi=>F (s.w i))+F x:=by
 have e:(λi=>F ((s.jY j x m1 sp1).w i))=upd (λi=>F (s.w i)) j (F x):=by
  funext i;by_cases h:i=j
  . subst h;rw[eL,upd_same]
  . rw[iZ h,upd_ne _ _ h]
 rw[e];have:=sumTo_upd (λi=>F (s.w i)) (F x) id hj;simpa using this
theorem bD.jY(I:bD n s)(hj:j<n)(h1:x.cnt+m1.pend=(s.w j).cnt+s.ms.pend)(hl:(s.w j).last=false)(hl':x.last=false)(hg:s.w j≠.gone)(hok:x.ok=true)(hpc:x.pc=(s.w j).pc)(hi:x.iW=false)
 (hsp:(sp1=s.sp/\(s.w j).iW=false)\/(sp1=s.sp+1/\j=s.sp)) (hs:x.gz=true->s.c≠.none)
 (hms:match (generalizing:=false) m1 with
   |.add l=>sp1+l=n/\s.c=.none
   |.bj l p=>sp1+l=n/\s.c=.none/\1<=l/\(p=.a0\/p=.a2\/p=.a4\/p=.ae)
   |.spawn l=>sp1+l+1=n/\s.c=.none
   |.recv=>sp1=n/\s.c≠.none
   |.parked=>sp1=n/\s.c≠.none/\s.c≠.gone/\∀i,i<n->(s.jY j x m1 sp1).w i≠.wait):bD n (s.jY j x m1 sp1):=by
 have hcnt:=AW (s:=s) (x:=x) (m1:=m1) (sp1:=sp1) be.cnt hj
 have lastI:∀{i:Nat},((s.jY j x m1 sp1).w i).last=(s.w i).last:=λ{i}=>by
  by_cases e:i=j
  . subst e;rw[eL,hl,hl']
  . rw[iZ e]
 have dn:∀{i:Nat}{p:t9},(p=.d5\/p=.d6\/p=.d7)->((s.jY j x m1 sp1).w i=.dn p↔s.w i=.dn p):=λ{i p} hp=>by
  by_cases e:i=j
  . subst e
    rw[eL];constructor<;>intro h
    . rw[h]at hl';rcases hp with rfl|rfl|rfl<;>cases hl'
    . rw[h]at hl;rcases hp with rfl|rfl|rfl<;>cases hl
  . rw[iZ e]
 refine⟨?_,I.g2,I.ns,λi hi h=>?_,λi l hi hl h h'=>?_,λi hi h=>?_,⟨I.g5.1,λh=>?_⟩,λh h' h''=>?_,λh h'=>?_,λh=>?_,I.g9,λi hi'=>?_,I.L3,?_,λi hi'=>?_,hms,λh i hi'=>?_,?_⟩
 . have:=I.g1
   show s.gc=sumTo n (λi=>((s.jY j x m1 sp1).w i).cnt)+m1.pend;omega
 . exact I.g3 i hi (h.imp (dn (.inl rfl)).1 (dn (.inr (.inl rfl))).1)
 . rw[lastI]at h h';exact I.tE i l hi hl h h'
 . exact I.g4 i hi ((dn (.inr (.inr rfl))).1 h)
 . obtain⟨c1,c2,c3,c4⟩:=I.g5.2 h
   exact⟨c1,c2,c3,λi hi=>by rw[lastI];exact c4 i hi⟩
 . obtain⟨i,hi,h3⟩:=I.g6 h h' h''
   exact⟨i,hi,(dn (.inr (.inr rfl))).2 h3⟩
 . obtain⟨i,hi,h3⟩:=I.g7 h h'
   exact⟨i,hi,h3.imp (dn (.inl rfl)).2 (dn (.inr (.inl rfl))).2⟩
 . exact absurd ((I.g8 h).2.2.2 j hj) hg
 . by_cases e:i=j
   . subst e;rw[eL];exact hok
   . rw[iZ e];exact I.ok i hi'
 . have:=I.sp
   show sp1<=n;rcases hsp with⟨h,_⟩|⟨h,h'⟩<;>omega
 . show ((s.jY j x m1 sp1).w i).iW=true↔sp1<=i
   by_cases e:i=j
   . subst e
     rw[eL,hi];rcases hsp with⟨h,h'⟩|⟨h,h'⟩
     . have:=I.idle i hi'
       rw[h']at this;rw[h];exact this
     . constructor
       . intro h;cases h
       . intro h;omega
   . rw[iZ e]
     rcases hsp with⟨h,h'⟩|⟨h,h'⟩
     . rw[h];exact I.idle i hi'
     . rw[I.idle i hi'];omega
 . by_cases e:i=j
   . subst e;rw[eL]
     cases e':x.gz with
     |false=>rfl
     |true=>exact absurd h (hs e')
   . rw[iZ e];exact I.early h i hi'
 . rw[Kv,hpc,kW (λi=>(s.w i).pc)];exact I.mu
theorem sA(hj:j<n)(h:x.cz+m1.cz<(s.w j).cz+s.ms.cz):MS.fX n (s.jY j x m1 sp1) s:=by
 have:=AW (s:=s) (x:=x) (m1:=m1) (sp1:=sp1) be.cz hj;refine .inl ?_;show m1.cz+sumTo n (λi=>((s.jY j x m1 sp1).w i).cz)+s.c.cz s.gc<s.ms.cz+sumTo n (λi=>(s.w i).cz)+s.c.cz s.gc;omega
end
section
variable{A:dM}{Z:Base}{s s':MS P}{kk kk':Nat->ag}{OO:Nat->ah}{J J' M:Nat->Prop}{gsz gsz':Nat}{w w':World}{t u:Trace}
theorem cW.chan(h:cW P A Z s kk OO J M gsz w t)(hI:bD A.n s')(hsize:gsz'=A.b+s'.sp+(if s'.c.isNone then 0 else 1))(hch:∃x tm,w'.heap[A.cF]?=some (.chan 0 #[] s'.c.dP x x tm))(hheap:∀b,b≠A.cF->w'.heap[b]?=w.heap[b]?)
 (hsh:s'.sh=s.sh) (hgc:s'.gc=s.gc) (hgv:s'.gv=s.gv) (hgm:s'.gm=s.gm) (hown:∀l,l<A.n->(s'.w l).owns=(s.w l).owns) (hkk:∀i b n v,(kk' i).cell b n=some v->∃l,(kk l).cell b n=some v) (hklk:kk' Z.lk=kk Z.lk)
 (hJ':∀i,J' i↔eX P A s' i) (hc:s'.c=s.c\/(s.c=.none/\s'.c=.er/\∀m,Knows t 0 m->Knows (t++u) (A.b+A.n) m)) (hu:∀op∈u,op.act.touch?=none/\∀a,op.act≠.mark (.release a))
 (hbeg:∀i,bE P A s' i->bE P A s i\/(∀m,Knows t 0 m->Knows (t++u) i m)) (hfut:∀i,i≠Z.lk -> ¬bE P A s' i->kk' i=ag.bot/\OO i=ah.bot):
 cW P A Z s' kk' OO J' M gsz' w' (t++u):=by
 have hnt:∀{m:Nat}{a:Touch},touchAt (t++u) m=some a->touchAt t m=some a:=λ{m a} ha=>by
  rcases lE ha with⟨h1,_⟩|⟨op,hop,h1⟩
  . exact h1
  . rw[(hu op hop).1]at h1;cases h1
 have hcell:∀i b n,(∀l,(kk l).cell b n=none)->(kk' i).cell b n=none:=λi b n hn=>by
  cases e:(kk' i).cell b n with
  |none=>rfl
  |some v=>obtain⟨l,hl⟩:=hkk i b n v e;rw[hn l]at hl;cases hl
 have hgone:s'.c=.gone->s.c=.gone:=λe=>by
  rcases hc with hc|⟨_,hc,_⟩
  . rw[<-hc];exact e
  . rw[hc]at e;cases e
 refine⟨hI,hsize,hch,by rw[hsh];exact h.mu.same (.of_heap (hheap _ (Ne.symm A.d1))),by rw[hgc,hgv,hgm];exact h.gr.same (.of_heap (hheap _ (Ne.symm A.d2))),by rw[hheap _ (Ne.symm A.d1)];exact h.ti,by rw[hheap _ (Ne.symm A.d2)];exact h.wv,h.fB,
  λi=>⟨hcell i _ _ λl=>(h.dI l).1,hcell i _ _ λl=>(h.dI l).2.1,hcell i _ _ λl=>(h.dI l).2.2.1,hcell i _ _ λl=>(h.dI l).2.2.2⟩,λi y hy=>?_,λl hl hlo=>h.vm l hl (by rw[<-hown l hl];exact hlo),λhlo=>?_,λc hc=>?_,
  hJ',λp hp=>?_,λhc=>h.ki u (hgone hc),λm a ha hs hk i hi=>?_,λm a ha hs hk=>?_,λi hi m a hm ha hmem hz=>?_,h.gV u (λop hop=>(hu op hop).2),hfut,h.qc,h.jp,h.dX,h.la,by simp;exact Nat.le_trans h.n0 (Nat.le_add_right _ _)⟩
 . obtain⟨l,f,h3,h4,h5,h6⟩:=h.tok i y hy
   exact⟨l,f,h3,h4,by rw[hown l h3];exact h5,h6⟩
 . rw[hklk];exact h.Hp λl hl=>by rw[<-hown l hl];exact hlo l hl
 . obtain⟨h3,h4⟩:=h.Gk c hc
   exact⟨h3,λl hl=>by rw[hown l hl];exact h4 l hl⟩
 . obtain⟨h1,h2,h3⟩:=h.rb u p hp
   refine⟨h1,h2,?_⟩;rcases h3 with⟨h3,h4⟩|⟨h3,h4⟩
   . refine .inl ⟨h3,?_⟩
     rcases hc with hc|⟨_,hc,_⟩
     . rw[hc];exact h4
     . exact .inr (.inl hc)
   . refine .inr ⟨?_,h4⟩
     rcases hc with hc|⟨hc,_⟩
     . rw[hc];exact h3
     . rw[hc]at h3;cases h3
 . rcases hbeg i hi with h1|h1
   . exact(h.quiet m a (hnt ha) hs hk i h1).app u
   . exact h1 m (h.quiet m a (hnt ha) hs hk 0 (.inl rfl))
 . have h0:=h.said m a (hnt ha) hs hk
   rcases hc with hc|⟨hc,hc',h1⟩
   . rw[hc];exact h0.app u
   . rw[hc]at h0
     rw[hc'];exact h1 m h0
 . have hlt:m<t.size:=Nat.lt_of_lt_of_le hm h.n0
   rcases hbeg i hi with h1|h1
   . exact(h.old i h1 m a hm (hnt ha) hmem hz).app u
   . exact h1 m (h.old 0 (.inl rfl) m a hm (hnt ha) hmem hz)
end
end Go.aN
namespace Go.aN
open Go.Conc
open Go.ConcN (sumTo upd sumTo_upd upd_ne upd_same)
section
variable{P:Program}{A:dM}{Fin:ag->ah->Goroutine->Prop}{Z:Base}{s s':MS P}{f f':Nat->Node P}{q q':Nat->Nat}{kk kk':Nat->ag}{OO OO':Nat->ah}{J J' M M':Nat->Prop}{gs gs':Array Goroutine}{w w':World}{t u:Trace}{j:Nat}{g g₂:Goroutine}{z v:Value}
theorem CG(h:∀l,l<A.n->(s'.w l).gz=(s.w l).gz):MS.rem P A.n s'=MS.rem P A.n s:=by unfold MS.rem;exact List.filter_congr λl hl=>by rw[h l (List.mem_range.1 hl)]
theorem ri{l:Nat}:l∈MS.rem P A.n s↔l<A.n/\(s.w l).gz=false:=by unfold MS.rem;rw[List.mem_filter,List.mem_range];simp
theorem Kw{m1:nG}{sp1:Nat}(hj:j<A.n)(h:(s.w j).gz=false):MS.rem P A.n (s.jY j .xu m1 sp1)=(MS.rem P A.n s).erase j/\(MS.rem P A.n s).length=(MS.rem P A.n (s.jY j .xu m1 sp1)).length+1:=by
 have e:MS.rem P A.n (s.jY j .xu m1 sp1)=(MS.rem P A.n s).erase j:=by
  unfold MS.rem;rw[List.Nodup.erase_eq_filter (List.Nodup.sublist List.filter_sublist List.nodup_range),List.filter_filter];refine List.filter_congr λi _=>?_
  by_cases hi:i=j
  . subst hi;rw[eL];simp[be.gz]
  . rw[iZ hi];simp[hi]
 refine⟨e,?_⟩;have hm:j∈MS.rem P A.n s:=ri.2 ⟨hj,h⟩;rw[e,List.length_erase_of_mem hm];have:=List.length_pos_of_mem hm;omega
theorem vw(hj:j<A.n)(e:s.w j=.wait):¬dg P A s (A.b+j):=by
 have:=A.hb;rintro(⟨e,_⟩|⟨l,h1,h2,h3⟩|⟨e,_⟩)
 . omega
 . obtain rfl:l=j:=by omega
   rw[e]at h3;exact h3
 . omega
theorem qo(hj:j<A.n)(e:s.w j=.wait\/s.w j=.xu):¬eV P A s (A.b+j):=by
 have:=A.hb;rintro(⟨e,_⟩|⟨l,h1,h2,h3⟩|⟨e,_⟩)
 . omega
 . obtain rfl:l=j:=by omega
   rcases e with e|e<;>rw[e]at h3<;>exact h3
 . omega
theorem AX(hj:j<A.n)(e:s.w j=.xu):bu P A Fin s (A.b+j)=pg P A:=by
 have:=A.hb;unfold bu;rw[if_neg (by omega),if_pos (by omega)];have e2:A.b+j-A.b=j:=by omega
 rw[e2,e]
theorem gk(g:Nat)(fn:FuncId)(pos:String):MemOp.ofEvents g fn pos #[]=#[]:=by rw[ofEvents_eq];simp
theorem m7(t:Trace):t++(#[]:Trace)=t:=by simp
theorem AY:kP #[]:=λop h=>by simp at h
theorem Kx(hZ:A.b+A.n+1<=Z.lk)(hC:br (bW P A Fin Z hZ) Z s f q kk OO J M gs w t)(hj:j<A.n){X0:Node P}(hw:s.w j=.run false X0)(hm:s.ms≠.parked)(hg:gs[A.b+j]?=some g)
 (hs:∀w,Sat (kk (A.b+j)) (OO (A.b+j)) w->stepG P false g w=.comm g₂ #[scase A.cF v z] true .send w #[]) (hO:OO (A.b+j) A.fb=none) (hv:V (kk (A.b+j)) v (A.res j)) (ht:T P (pg P A) iG (kk (A.b+j)) (OO (A.b+j)) (Go.Conc.served g₂ undef)) (sl:Option (Nat × Nat)):
 Goes P A Fin Z hZ s gs w t sl (A.b+j):=by
 have hE:cW P A Z s kk OO J M gs.size w t:=hC.ex;have hb:=A.hb;have hi0:(A.b+j==0)=false:=by simp;omega
 obtain⟨c,tm,hF⟩:=hE.v7
 have hng:s.c.dP=false:=by
  cases e:s.c with
  |gone=>have:=(hE.I.g8 (by rw[e];rfl)).2.2.2 j hj;rw[hw]at this;cases this
  |_=>rfl
 rw[hng]at hF;have hlt:=(Array.getElem?_eq_some_iff.1 hg).1;obtain⟨_,_,_,_,_,_,hd,_⟩:=hC.live _ (jK hj hw)
 have hnw:∀cc∈(#[scase A.cF v z]:Array CommCase),NoWays w (gs.setIfInBounds (A.b+j) ph) cc:=λcc hcc=>by
  have:cc=scase A.cF v z:=by simpa using hcc
  subst this;exact ways_send_none hF (by simp) (m5 λi x _ hx=>tp hZ hC hx (.inl hm))
 have hrun:=crowd_waits (P:=P) (sl:=sl) hg (by rw[hi0];exact hs w (hC.bY.sat _)) hnw
 rw[gk]at hrun;have hne:∀i,¬(i=A.b+j)->(gs.setIfInBounds (A.b+j) (parked g₂ #[scase A.cF v z] .send))[i]?=gs[i]?:=λi hi=>Array.getElem?_setIfInBounds_ne (Ne.symm hi)
 have hself:(gs.setIfInBounds (A.b+j) (parked g₂ #[scase A.cF v z] .send))[A.b+j]?=some (parked g₂ #[scase A.cF v z] .send):=Array.getElem?_setIfInBounds_self_of_lt hlt;have hP:bV Z kk OO J M w (t++#[]):=by rw[m7];exact hC.bY
 obtain⟨s',hs'⟩:∃s',s'=s.jY j .wait s.ms s.sp:=⟨_,rfl⟩;have hsx:s'.w j=.wait:=by rw[hs',eL]
 have hsn:∀{l:Nat},l≠j->s'.w l=s.w l:=λh=>by rw[hs',iZ h]
 have hI:bD A.n s':=by
  rw[hs'];refine hE.I.jY hj (by rw[hw];rfl) (by rw[hw];rfl) rfl (by rw[hw];simp) rfl (by rw[hw];rfl) rfl (.inl ⟨rfl,by rw[hw];rfl⟩) (λh=>by cases h) ?_
  have:=hE.I.ms;cases e:s.ms with
  |parked=>exact absurd e hm
  |_=>rw[e]at this;exact this
 have hsent:∀l,l<A.n->(s'.w l).gz=(s.w l).gz:=λl _=>by
  by_cases e:l=j
  . subst e;rw[hsx,hw];rfl
  . rw[hsn e]
 have hbusy:∀l,(s'.w l).busy=(s.w l).busy:=λl=>by
  by_cases e:l=j
  . subst e;rw[hsx,hw];rfl
  . rw[hsn e]
 have hEx:cW P A Z s' kk OO J M (gs.setIfInBounds (A.b+j) (parked g₂ #[scase A.cF v z] .send)).size w (t++#[]):=by
  refine hE.chan hI (by rw[Array.size_setIfInBounds,hs'];exact hE.size) (by rw[hs'];exact hE.v7) (λ_ _=>rfl) (by rw[hs'];rfl) (by rw[hs'];rfl) (by rw[hs'];rfl) (by rw[hs'];rfl) (λl _=>?_) (λi b n v h=>⟨i,h⟩) rfl (λi=>?_) (.inl (by rw[hs'];rfl)) (λop h=>by simp at h) (λi hi=>.inl ?_) (λi hlk hn=>hE.AE i hlk λh=>hn ?_)
  . by_cases e:l=j
    . subst e;rw[hsx,hw];rfl
    . rw[hsn e]
  . rw[hE.hJ i]
    unfold eX;simp only[hbusy,show s'.c=s.c by rw[hs'];rfl]
  . rw[hs']at hi;exact hi
  . rw[hs'];exact h
 have hL:MS.fX A.n s' s:=by rw[hs'];exact sA hj (by rw[hw];simp[be.cz])
 have hS:gi A s s' (λi=>i=A.b+j):=⟨λl _ hl=>hsn (by omega),λ_=>by rw[hs'];rfl,λ_=>⟨by rw[hs'];rfl,CG hsent⟩,by rw[hs'];rfl,by rw[hs'];rfl⟩
 refine⟨_,_,hrun,s',f,q,kk,OO,J,M,_,_,_,rfl,hL,?_⟩;refine hC.E1 AY hP hEx (by simp) (λi=>i=A.b+j) hne (kG hZ hS (λ_ _=>rfl) (λ_ _=>rfl) (λ_ _ _=>rfl) (λ_ _ _=>rfl) (λ_ _ _ h=>h)) (λi hi=>?_)
 subst hi;have hheld:dW P A s' (A.b+j):=.inr ⟨j,hj,rfl,hsx⟩;refine⟨_,hself,λh=>absurd h (vw hj hsx),λh=>absurd h (qo hj (.inl hsx)),λ_=>⟨vw hj hsx,qo hj (.inl hsx),?_,by rw[m7];exact hd,rfl,.inr ⟨j,hj,rfl,g₂,z,v,rfl,hv,hO,ht⟩⟩,λ_ _ h=>absurd hheld h⟩
 show A.b+j<A.b+A.n+1;omega
def lK(a b c s r cap:Nat)(f1 f2:FuncId)(p1 p2:String):Trace:=#[{g:=a,fn:=f1,pos:=p1,act:=.send c s},{g:=b,fn:=f2,pos:=p2,act:=.recv c r cap},{g:=a,fn:=f1,pos:=p1,act:=.sendDone c s},{g:=b,fn:=f2,pos:=p2,act:=.recvDone c r}]
theorem jM{a b c s r cap:Nat}{f1 f2:FuncId}{p1 p2:String}{op:MemOp}(h:op∈lK a b c s r cap f1 f2 p1 p2):op.act.touch?=none/\(op.act≠.mark .disable/\op.act≠.mark .enable)/\(∀B,c<B->op.act.low B)/\∀a,op.act≠.mark (.release a):=by
 simp only[lK,List.mem_toArray,List.mem_cons,List.not_mem_nil,or_false]at h;rcases h with rfl|rfl|rfl|rfl<;>exact⟨rfl,⟨by simp,by simp⟩,λB hB=>hB,by simp⟩
theorem rj{w:World}{c cap s r:Nat}{buf:Array Value}{cl tm:Bool}{d:Nat}(hc:ChanAt w c){b:Nat}:
 ((w.at d).setChan c cap buf cl s r tm).heap[b]?=if b=c then some (.chan cap buf cl s r tm)else w.heap[b]?:=by
 obtain⟨_,_,_,_,_,_,h⟩:=hc;have hlt:=(Array.getElem?_eq_some_iff.1 h).1;simp only[World.setChan,World.at];by_cases hb:b=c
 . subst hb;rw[if_pos rfl,Array.getElem?_setIfInBounds_self_of_lt hlt]
 . rw[if_neg hb,Array.getElem?_setIfInBounds_ne (Ne.symm hb)]
theorem vy(m:Nat)(R:List Nat):(pC P A Fin m R).solo=false:=by cases m<;>rfl
theorem mH(e:s.ms=.recv):bu P A Fin s 0=pC P A Fin (MS.rem P A.n s).length (MS.rem P A.n s):=by unfold bu;rw[if_pos rfl,e]
theorem iB(e:s.ms=.recv):dg P A s 0:=.inl ⟨rfl,by rw[e];trivial⟩
theorem rk(e:s.ms=.recv\/s.ms=.parked):¬eV P A s 0:=by
 have:=A.hb;rintro(⟨_,h⟩|⟨l,h1,h2,h3⟩|⟨h,_⟩)
 . rcases e with e|e<;>rw[e]at h<;>exact h
 . omega
 . omega
theorem AZ{x:Node P}:Kc P A s 0 x:=λj h X h1 h2 _=>by have:=A.hb;omega
theorem Ky{x:Node P}(e:s.w j=.xu):Kc P A s (A.b+j) x:=λl h X h1 h2 h3=>by
 obtain rfl:l=j:=by omega
 rw[e]at h3;cases h3
theorem handed(hZ:A.b+A.n+1<=Z.lk)(hC:br (bW P A Fin Z hZ) Z s f q kk OO J M gs w t)(hj:j<A.n)(hms:s.ms=.recv\/s.ms=.parked)(hwj:s.w j=.wait\/∃X0,s.w j=.run false X0)(hwgt:(s.w j).cz+s.ms.cz=119){c:Nat}{tm:Bool}{gw gm:Goroutine}{v:Value}(d:Nat)
 (hF:w.heap[A.cF]?=some (.chan 0 #[] false c c tm)) (dj:Deaf t (A.b+j)=0) (d0:Deaf t 0=0)
 (hgs:gs'.size=gs.size) (hw:gs'[A.b+j]?=some gw) (hm:gs'[0]?=some gm) (ho:∀i,i≠0->i≠A.b+j->gs'[i]?=gs[i]?)
 (hv:V (kk (A.b+j)) v (A.res j)) (htw:T P (pg P A) iG (kk (A.b+j)) (OO (A.b+j)) gw)
 (htm:∀k',(kk 0).Le k'->V k' v (A.res j)->T P (pC P A Fin ((MS.rem P A.n s).length-1) ((MS.rem P A.n s).erase j)) iG k' (OO 0) gm) (f1 f2:FuncId) (p1 p2:String):
 ∃s' f' kk',MS.fX A.n s' s/\br (bW P A Fin Z hZ) Z s' f' q kk' OO J M gs' ((w.at d).setChan A.cF 0 #[] false (c+1) (c+1) tm) (t++lK (A.b+j) 0 A.cF c c 0 f1 f2 p1 p2):=by
 have hE:cW P A Z s kk OO J M gs.size w t:=hC.ex;have hb:=A.hb;have hFa:ChanAt w A.cF:=⟨_,_,_,_,_,_,hF⟩;have hFl:A.cF<w.heap.size:=(Array.getElem?_eq_some_iff.1 hF).1;have hu:kP (lK (A.b+j) 0 A.cF c c 0 f1 f2 p1 p2):=λop h=>(jM h).2.1
 have hle:(kk (A.b+j)).Le ((kk 0).join (kk (A.b+j))):=ag.nZ (hC.bY.sat 0) (hC.bY.sat _);have hgm:=htm _ (ag.lC _ _) (hv.mono hle);obtain⟨trm⟩:=T.tree (vy (P:=P) (A:=A) (Fin:=Fin) _ _) hgm;obtain⟨trw⟩:=T.tree (P:=P) (m:=pg P A) rfl htw;have hcF:=hms
 have hsp:s.sp=A.n/\s.c≠.none:=by
  have:=hE.I.ms
  rcases hms with e|e<;>rw[e]at this
  . exact this
  . exact⟨this.1,this.2.1⟩
 have hng:s.c.dP=false:=by
  cases e:s.c with
  |gone=>have:=(hE.I.g8 (by rw[e];rfl)).2.2.2 j hj;rcases hwj with h|⟨_,h⟩<;>rw[h]at this<;>cases this
  |_=>rfl
 have hP:bV Z (bv kk 0 ((kk 0).join (kk (A.b+j)))) OO J M ((w.at d).setChan A.cF 0 #[] false (c+1) (c+1) tm) (t++lK (A.b+j) 0 A.cF c c 0 f1 f2 p1 p2):=by
  refine hC.bY.hand (src:=A.b+j) (dst:=0) (by omega) (by omega) (λn hn=>?_) (λop h=>(jM h).1) (λop h=>(jM h).2.2.1 _ hFl) (by simp[World.setChan,World.at]) ⟨⟨.refl _,rfl⟩,λb hb=>by have:=hE.dX.1;simp only[World.setChan,World.at];exact Array.getElem?_setIfInBounds_ne (by omega)⟩ (λb=>?_) (λn a ha hm h=>h.elim (λ⟨j,h1,h2⟩=>.inr (.inl ⟨j,h1,h2.app _⟩)) (λ⟨p,h1,h2⟩=>.inr (.inr (.inl ⟨p,h1,h2.app _⟩))))
  . exact u6 (t:=t) hu (m1:=0) (m2:=3) (c:=A.cF) (k:=c) (x:={g:=A.b+j,fn:=f1,pos:=p1,act:=.send A.cF c}) (y:={g:=0,fn:=f2,pos:=p2,act:=.recvDone A.cF c}) rfl rfl rfl rfl dj d0 hn
  . unfold Kept
    rw[rj hFa]
    by_cases hbc:b=A.cF
    . subst hbc
      exact .inr (.inl ⟨hFa,⟨_,_,_,_,_,_,by rw[rj hFa,if_pos rfl]⟩,λi=>(hE.fB i).1⟩)
    . rw[if_neg hbc];exact .inl rfl
 have hns:(s.w j).gz=false:=by rcases hwj with h|⟨_,h⟩<;>rw[h]<;>rfl
 obtain⟨s',hs'⟩:∃s',s'=s.jY j .xu .recv s.sp:=⟨_,rfl⟩;obtain⟨hrem,hrl⟩:=Kw (A:=A) (s:=s) (m1:=.recv) (sp1:=s.sp) hj hns;rw[<-hs']at hrem hrl;have hsx:s'.w j=.xu:=by rw[hs',eL]
 have hsn:∀{l:Nat},l≠j->s'.w l=s.w l:=λh=>by rw[hs',iZ h]
 have hsc:s'.c=s.c:=by rw[hs'];rfl
 have hsm:s'.ms=.recv:=by rw[hs'];rfl
 have hbz:(s.w j).busy=true/\(s.w j).cnt=1/\(s.w j).last=false/\(s.w j).pc=.out/\(s.w j).iW=false/\s.w j≠.gone/\(s.w j).owns=false:=by rcases hwj with h|⟨_,h⟩<;>rw[h]<;>simp[be.busy,be.cnt,be.last,be.pc,be.iW,be.owns]
 obtain⟨b1,b2,b3,b4,b5,b6,b7⟩:=hbz
 have hI:bD A.n s':=by rw[hs'];refine hE.I.jY hj (by rw[b2];rcases hms with e|e<;>rw[e]<;>rfl) b3 rfl b6 rfl (by rw[b4];rfl) rfl (.inl ⟨rfl,b5⟩) (λ_=>hsp.2) hsp
 have hbusy:∀l,(s'.w l).busy=(s.w l).busy:=λl=>by
  by_cases e:l=j
  . subst e;rw[hsx,b1];rfl
  . rw[hsn e]
 have hEx:cW P A Z s' (bv kk 0 ((kk 0).join (kk (A.b+j)))) OO J M gs'.size ((w.at d).setChan A.cF 0 #[] false (c+1) (c+1) tm) (t++lK (A.b+j) 0 A.cF c c 0 f1 f2 p1 p2):=by
  refine hE.chan hI (by rw[hgs,hs'];exact hE.size) ⟨c+1,tm,by rw[rj hFa,if_pos rfl,hsc,hng]⟩ (λb hbc=>by rw[rj hFa,if_neg hbc]) (by rw[hs'];rfl) (by rw[hs'];rfl) (by rw[hs'];rfl) (by rw[hs'];rfl) (λl _=>?_) (λi b n v h=>?_) (ar _ _ (by omega)) (λi=>?_) (.inl hsc) (λop h=>⟨(jM h).1,(jM h).2.2.2⟩) (λi hi=>.inl ?_) (λi hlk hn=>?_)
  . by_cases e:l=j
    . subst e;rw[hsx,b7];rfl
    . rw[hsn e]
  . by_cases e:i=0
    . subst e
      rw[an]at h;exact(ag.kC h).elim (λh=>⟨0,h⟩) (λh=>⟨_,h⟩)
    . rw[ar _ _ e]at h;exact⟨i,h⟩
  . rw[hE.hJ i]
    unfold eX;simp only[hbusy,hsc]
  . rw[hs']at hi;exact hi
  . have hnb:¬bE P A s i:=λh=>hn (by rw[hs'];exact h)
    rw[ar _ _ (λe=>hnb (.inl e))]
    exact hE.AE i hlk hnb
 have hL:MS.fX A.n s' s:=by rw[hs'];refine sA hj ?_;have e1:(be.xu (P:=P)).cz=18:=rfl;have e2:nG.recv.cz=100:=rfl;omega
 have hS:gi A s s' (λi=>i=0\/i=A.b+j):=⟨λl _ hl=>hsn (λe=>hl (.inr (by omega))),λ_=>hsc,λh=>absurd (.inl rfl) h,by rw[hs'];rfl,by rw[hs'];rfl⟩
 refine⟨s',bv (bv f 0 ⟨_,_,_,_,trm⟩) (A.b+j) ⟨_,_,_,_,trw⟩,bv kk 0 ((kk 0).join (kk (A.b+j))),hL,?_⟩;refine hC.E1 hu hP hEx (by omega) (λi=>i=0\/i=A.b+j) (λi hi=>ho i (λe=>hi (.inl e)) (λe=>hi (.inr e))) (kG hZ hS (λi hi=>by rw[ar _ _ (λe=>hi (.inr e)),ar _ _ (λe=>hi (.inl e))]) (λ_ _=>rfl) (λi hi _=>ar _ _ (λe=>hi (.inl e))) (λ_ _ _=>rfl) (λ_ _ _ h=>h)) (λi hi=>?_)
 rcases hi with rfl|rfl
 . refine⟨gm,hm,λ_=>?_,λh=>absurd h (rk (.inl hsm)),λh=>absurd h (lJ (by rw[hsm];simp)),λh=>absurd (iB hsm) h⟩
   have hne:(0:Nat)≠A.b+j:=by omega
   rw[ar _ _ hne,an,an];refine⟨by show 0<A.b+A.n+1;omega,rfl,?_,rfl,rfl,trm.running,by rw[bK hu];exact d0,.inl rfl,AZ⟩
   show pC P A Fin _ _=bu P A Fin s' 0;rw[mH hsm,hrem];congr 1;rw[hrem]at hrl;omega
 . refine⟨gw,hw,λ_=>?_,λh=>absurd h (qo hj (.inr hsx)),λh=>absurd h (xv hj hsx),λh=>absurd (vv hj hsx) h⟩
   rw[an,ar _ _ (by omega)]
   refine⟨by show A.b+j<A.b+A.n+1;omega,rfl,?_,rfl,rfl,trw.running,by rw[bK hu];exact dj,.inr ((hE.hJ _).2 (.inl ⟨j,hj,rfl,b1⟩)),Ky hsx⟩
   show pg P A=bu P A Fin s' (A.b+j);rw[AX hj hsx]
end
section
variable{P:Program}{A:dM}{Fin:ag->ah->Goroutine->Prop}{Z:Base}{s s':MS P}{f f':Nat->Node P}{q q':Nat->Nat}{kk kk':Nat->ag}{OO OO':Nat->ah}{J J' M M':Nat->Prop}{gs gs':Array Goroutine}{w w':World}{t u:Trace}{j:Nat}{g g₂:Goroutine}{z v:Value}
theorem E2{k:ag}{O:ah}{g g₂ g₃:Goroutine}{z y:Value}(h:dq P A k O g g₂ z)(h':dq P A k O g g₃ y)(hw:Sat k O w):g₃=g₂/\y=z:=by have e:=(h w hw).symm.trans (h' w hw);simp only[GStep.comm.injEq,rcase]at e;simp at e;exact⟨e.1.symm,e.2.symm⟩
theorem CH{g g':Goroutine}{cs cs':Array CommCase}{sh sh':CommShape}(h:parked g cs sh=parked g' cs' sh'):(∀v,Go.Conc.served g v=Go.Conc.served g' v)/\cs=cs'/\sh=sh'/\g.frame=g'.frame:=by
 refine⟨λv=>?_,?_,?_,?_⟩
 . show Go.Conc.served (parked g cs sh) v=Go.Conc.served (parked g' cs' sh') v;rw[h]
 . have:=congrArg (λx:Goroutine=>x.offers) h
   simp only[parked,Option.some.injEq,Prod.mk.injEq]at this;exact this.1
 . have:=congrArg (λx:Goroutine=>x.offers) h
   simp only[parked,Option.some.injEq,Prod.mk.injEq]at this;exact this.2
 . show(parked g cs sh).frame=(parked g' cs' sh').frame;rw[h]
theorem xw{k:ag}{O:ah}{g g₂:Goroutine}{z:Value}{m:Nat}{R:List Nat}{N:ag->ah->Goroutine->Prop}(h:(pC P A Fin (m+1) R).dc k O g N)(hs:dq P A k O g g₂ z)(hw:Sat k O w){j:Nat}(hj:j∈R):
 ∀k' v,k.Le k'->V k' v (A.res j)->T P (pC P A Fin m (R.erase j)) iG k' O (g₂.finishComm P #[rcase A.cF z] (.recv true) 0 v true):=by
 obtain⟨_,g₃,y,e1,e2,e3,e4⟩:=h;obtain⟨rfl,rfl⟩:=E2 hs e1 hw;exact e4 j hj
theorem HH{m:Nat}{R:List Nat}{k:ag}{O:ah}{g:Goroutine}{N:ag->ah->Goroutine->Prop}(h:(pC P A Fin m R).dc k O g N):
 ∃g₂ z,dq P A k O g g₂ z/\dq P A k O g₂ g₂ z/\g₂.status=.running/\(pC P A Fin m R).dc k O g₂ iG:=by
 cases m with
 |zero=>obtain⟨_,g₂,z,h1,h2,h3,h4⟩:=h;exact⟨g₂,z,h1,h2,h3,rfl,g₂,z,h2,h2,h3,h4⟩
 |succ m=>obtain⟨_,g₂,z,h1,h2,h3,h4⟩:=h;exact⟨g₂,z,h1,h2,h3,rfl,g₂,z,h2,h2,h3,h4⟩
theorem vz(hj:j<A.n)(h:(s.w j).gz=false):∃m,(MS.rem P A.n s).length=m+1:=by have:j∈MS.rem P A.n s:=ri.2 ⟨hj,h⟩;have:=List.length_pos_of_mem this;exact⟨(MS.rem P A.n s).length-1,by omega⟩
theorem A7(I:bD A.n s)(hj:j<A.n)(h:s.w j≠.gone):s.c.dP=false:=by
 cases e:s.c with
 |gone=>exact absurd ((I.g8 (by rw[e];rfl)).2.2.2 j hj) h
 |_=>rfl
theorem HI(hZ:A.b+A.n+1<=Z.lk)(hC:br (bW P A Fin Z hZ) Z s f q kk OO J M gs w t)(hj:j<A.n){X0:Node P}(hw:s.w j=.run false X0)(hm:s.ms=.parked)(hg:gs[A.b+j]?=some g)
 (hs:∀w,Sat (kk (A.b+j)) (OO (A.b+j)) w->stepG P false g w=.comm g₂ #[scase A.cF v z] true .send w #[]) (hv:V (kk (A.b+j)) v (A.res j)) (ht:T P (pg P A) iG (kk (A.b+j)) (OO (A.b+j)) (Go.Conc.served g₂ undef)) (sl:Option (Nat × Nat)):
 Goes P A Fin Z hZ s gs w t sl (A.b+j):=by
 have hE:cW P A Z s kk OO J M gs.size w t:=hC.ex;have hb:=A.hb;have hi0:(A.b+j==0)=false:=by simp;omega
 obtain⟨c,tm,hF⟩:=hE.v7;rw[A7 hE.I hj (by rw[hw];simp)]at hF
 have hlt:=(Array.getElem?_eq_some_iff.1 hg).1;obtain⟨_,_,_,_,_,_,hd,_⟩:=hC.live _ (jK hj hw);obtain⟨_,_,_,d0,gp,p4,_,p5⟩:=hC.held 0 (.inl ⟨rfl,hm⟩);obtain⟨_,gm,zm,rfl,p6,p7,p8⟩|⟨l,h1,h2,_⟩:=p5
 . have hstand:=stand_get (i:=A.b+j) (show(0:Nat)≠A.b+j by omega) p4
   have hpart:partners (gs.setIfInBounds (A.b+j) ph) A.cF false=[(0,0)]:=by
    rw[partners_one hstand (λk x hk hx=>?_),offersAt_parked_recv,if_pos rfl]
    . rfl
    . rcases getElem?_stand gs (A.b+j) k x hx with⟨_,rfl⟩|⟨hk',hx⟩
      . exact offersAt_ph ..
      . exact tp hZ hC hx (.inr hk)
   have hrun:=crowd_send_meets (P:=P) (sl:=sl) hg (by rw[hi0];exact hs w (hC.bY.sat _)) hF (by omega) p4 hpart
   rw[gk]at hrun;have hns:(s.w j).gz=false:=by rw[hw];rfl
   obtain⟨m,hmr⟩:=vz (A:=A) (s:=s) hj hns;rw[hmr]at p8;have hlt0:0<gs.size:=(Array.getElem?_eq_some_iff.1 p4).1
   obtain⟨s',f',kk',hL,hC'⟩:=handed hZ hC hj (.inr hm) (.inr ⟨X0,hw⟩) (by rw[hw,hm];rfl) (gs':=(gs.setIfInBounds 0 (gm.finishComm P #[rcase A.cF zm] (.recv true) 0 v true)).setIfInBounds (A.b+j) (g₂.finishComm P #[scase A.cF v z] .send 0 undef false)) (gw:=Go.Conc.served g₂ undef) (gm:=gm.finishComm P #[rcase A.cF zm] (.recv true) 0 v true) w.drawn hF hd d0 (by simp)
    (by rw[Array.getElem?_setIfInBounds_self_of_lt (by simpa using hlt)];rfl) (by rw[Array.getElem?_setIfInBounds_ne (by omega),Array.getElem?_setIfInBounds_self_of_lt hlt0])
    (λi e1 e2=>by rw[Array.getElem?_setIfInBounds_ne (Ne.symm e2),Array.getElem?_setIfInBounds_ne (Ne.symm e1)]) hv ht
    (λk' e1 e2=>by rw[hmr];exact xw p8 p6 (hC.bY.sat 0) (ri.2 ⟨hj,hns⟩) k' v e1 e2) g₂.frame.fn gm.frame.fn g₂.frame.place gm.frame.place
   refine⟨_,_,hrun,s',f',q,kk',OO,J,M,_,_,sl,rfl,hL,?_⟩;rw[show w.at w.drawn=w from rfl]at hC'
   simpa[lK]using hC'
 . omega
theorem HJ(hZ:A.b+A.n+1<=Z.lk)(hC:br (bW P A Fin Z hZ) Z s f q kk OO J M gs w t)(hm:s.ms=.recv)(hj:j<A.n)(hw:s.w j=.wait)(hg:gs[0]?=some g)
 (hs:dq P A (kk 0) (OO 0) g g₂ z){N:ag->ah->Goroutine->Prop}(ht:(pC P A Fin (MS.rem P A.n s).length (MS.rem P A.n s)).dc (kk 0) (OO 0) g N) (sl:Option (Nat × Nat)):
 Goes P A Fin Z hZ s gs w t sl 0:=by
 have hE:cW P A Z s kk OO J M gs.size w t:=hC.ex;have hb:=A.hb;obtain⟨c,tm,hF⟩:=hE.v7;rw[A7 hE.I hj (by rw[hw];simp)]at hF
 have hlt:=(Array.getElem?_eq_some_iff.1 hg).1;obtain⟨_,_,_,_,_,_,d0,_⟩:=hC.live _ (iB hm)
 have hwait:∀{i:Nat}{x:Goroutine},gs[i]?=some x->i≠0->dW P A s i->∃a,a<A.n/\i=A.b+a/\s.w a=.wait/\∃gj zj vj,x=parked gj #[scase A.cF vj zj] .send/\V (kk i) vj (A.res a)/\T P (pg P A) iG (kk i) (OO i) (Go.Conc.served gj undef):=λ{i x} hx hi0 hh=>by
  obtain⟨_,_,_,_,y,r1,r2,r3⟩:=hC.held i hh;rw[hx]at r1;obtain rfl:=Option.some.inj r1
  rcases r3 with⟨h0,_⟩|⟨a,h1,h2,gj,zj,vj,h3,h4,_,h5⟩
  . exact absurd h0 hi0
  . refine⟨a,h1,h2,?_,gj,zj,vj,h3,h4,h5⟩
    rcases hh with⟨h6,_⟩|⟨l,h6,h7,h8⟩
    . exact absurd h6 hi0
    . obtain rfl:l=a:=by omega
      exact h8
 obtain⟨_,_,_,_,x0,e0,_⟩:=hC.held (A.b+j) (.inr ⟨j,hj,rfl,hw⟩);obtain⟨a0,_,_,_,gj0,zj0,vj0,rfl,_⟩:=hwait e0 (by omega) (.inr ⟨j,hj,rfl,hw⟩)
 have hne:partners (gs.setIfInBounds 0 ph) A.cF true≠[]:=λe=>by
  have:(A.b+j,0)∈partners (gs.setIfInBounds 0 ph) A.cF true:=mem_partners.2 ⟨_,stand_get (by omega) e0,by rw[offersAt_parked_send,if_pos rfl];simp⟩
  rw[e]at this;cases this
 have hall0:∀i k,(i,k)∈partners (gs.setIfInBounds 0 ph) A.cF true->k=0/\i≠0/\∃x,gs[i]?=some x/\dW P A s i:=λi k hik=>by
  obtain⟨x,hx,hk⟩:=mem_partners.1 hik
  rcases getElem?_stand gs 0 i x hx with⟨_,rfl⟩|⟨hi,hx⟩
  . rw[offersAt_ph]at hk;cases hk
  . by_cases hh:dW P A s i
    . obtain⟨a,_,_,_,gj,zj,vj,rfl,_⟩:=hwait hx hi hh
      rw[offersAt_parked_send,if_pos rfl]at hk;exact⟨by simpa using hk,hi,_,hx,hh⟩
    . rw[hC.quiet (ba (P:=P) (A:=A) (Fin:=Fin) (Z:=Z) hZ) hx hh]at hk;cases hk
 have hall:∀i k,(i,k)∈partners (gs.setIfInBounds 0 ph) A.cF true->k=0/\i≠0/\∃gj vj zj shj,gs[i]?=some (parked gj #[scase A.cF vj zj] shj):=λi k hik=>by obtain⟨h1,h2,x,h3,h4⟩:=hall0 i k hik;obtain⟨a,_,_,_,gj,zj,vj,rfl,_⟩:=hwait h3 h2 h4;exact⟨h1,h2,gj,vj,zj,_,h3⟩
 obtain⟨i,gj,vj,zj,shj,d,hi0,hij,hrun⟩:=crowd_recv_meets_some (P:=P) (sl:=sl) hg (show stepG P (0==0) g w=_ from hs w (hC.bY.sat 0)) hF hne hall
 rw[gk]at hrun
 have hheld:dW P A s i:=Classical.byContradiction λhh=>by have:=hC.quiet (ba (P:=P) (A:=A) (Fin:=Fin) (Z:=Z) hZ) hij hh A.cF true;rw[offersAt_parked_send,if_pos rfl]at this;cases this
 obtain⟨a,a2,rfl,a3,gj',zj',vj',e1,e2,e3⟩:=hwait hij hi0 hheld;obtain⟨i1,i2,i3,i4⟩:=CH e1
 have i5:vj=vj':=by
  have:=congrArg (λx:Array CommCase=>x[0]?) i2
  simp[scase]at this;exact this.1
 subst i3;subst i5;obtain⟨_,_,_,dj,_⟩:=hC.held _ hheld;have hltj:=(Array.getElem?_eq_some_iff.1 hij).1;have hns:(s.w a).gz=false:=by rw[a3];rfl
 obtain⟨m,hmr⟩:=vz (A:=A) (s:=s) a2 hns;have ht':=ht;rw[hmr]at ht'
 obtain⟨s',f',kk',hL,hC'⟩:=handed hZ hC a2 (.inl hm) (.inl a3) (by rw[a3,hm];rfl) (gs':=(gs.setIfInBounds (A.b+a) (gj.finishComm P #[scase A.cF vj zj] .send 0 undef false)).setIfInBounds 0 (g₂.finishComm P #[rcase A.cF z] (.recv true) 0 vj true)) (gw:=Go.Conc.served gj undef) (gm:=g₂.finishComm P #[rcase A.cF z] (.recv true) 0 vj true) d hF dj d0 (by simp)
  (by rw[Array.getElem?_setIfInBounds_ne (by omega),Array.getElem?_setIfInBounds_self_of_lt hltj];rfl) (by rw[Array.getElem?_setIfInBounds_self_of_lt (by simpa using hlt)])
  (λi e1 e2=>by rw[Array.getElem?_setIfInBounds_ne (Ne.symm e1),Array.getElem?_setIfInBounds_ne (Ne.symm e2)]) e2 (by rw[i1];exact e3)
  (λk' e1 e2=>by rw[hmr];exact xw ht' hs (hC.bY.sat 0) (ri.2 ⟨a2,hns⟩) k' vj e1 e2) gj.frame.fn g₂.frame.fn gj.frame.place g₂.frame.place
 refine⟨_,_,hrun,s',f',q,kk',OO,J,M,_,_,sl,rfl,hL,?_⟩;simpa[lK]using hC'
theorem rm(hm:s.ms=.parked):¬dg P A s 0:=by
 have:=A.hb;rintro(⟨_,h⟩|⟨l,h1,h2,h3⟩|⟨h,_⟩)
 . rw[hm]at h;exact h
 . omega
 . omega
theorem HK(hZ:A.b+A.n+1<=Z.lk)(hC:br (bW P A Fin Z hZ) Z s f q kk OO J M gs w t)(hm:s.ms=.recv)(hnw:∀j,j<A.n->s.w j≠.wait)(hng:s.c≠.gone)(hg:gs[0]?=some g)
 (hs:dq P A (kk 0) (OO 0) g g₂ z) (hs2:dq P A (kk 0) (OO 0) g₂ g₂ z) (hr:g₂.status=.running) (ht:(pC P A Fin (MS.rem P A.n s).length (MS.rem P A.n s)).dc (kk 0) (OO 0) g₂ iG) (sl:Option (Nat × Nat)):
 Goes P A Fin Z hZ s gs w t sl 0:=by
 have hE:cW P A Z s kk OO J M gs.size w t:=hC.ex;have hb:=A.hb;obtain⟨c,tm,hF⟩:=hE.v7
 have hng':s.c.dP=false:=by
  cases e:s.c.dP with
  |true=>exact absurd (qk.1 e) hng
  |false=>rfl
 rw[hng']at hF;have hlt:=(Array.getElem?_eq_some_iff.1 hg).1;obtain⟨_,_,_,_,_,_,d0,_⟩:=hC.live _ (iB hm)
 have hnw':∀cc∈(#[rcase A.cF z]:Array CommCase),NoWays w (gs.setIfInBounds 0 ph) cc:=λcc hcc=>by
  have:cc=rcase A.cF z:=by simpa using hcc
  subst this;exact ways_recv_none hF (m5 λi x _ hx=>tu hZ hC hx (λj h1 h2=>hnw j h1) _)
 have hrun:=crowd_waits (P:=P) (sl:=sl) hg (show stepG P (0==0) g w=_ from hs w (hC.bY.sat 0)) hnw'
 rw[gk]at hrun;have hne:∀i,¬(i=0)->(gs.setIfInBounds 0 (parked g₂ #[rcase A.cF z] (.recv true)))[i]?=gs[i]?:=λi hi=>Array.getElem?_setIfInBounds_ne (Ne.symm hi)
 have hself:(gs.setIfInBounds 0 (parked g₂ #[rcase A.cF z] (.recv true)))[0]?=some (parked g₂ #[rcase A.cF z] (.recv true)):=Array.getElem?_setIfInBounds_self_of_lt hlt;have hP:bV Z kk OO J M w (t++#[]):=by rw[m7];exact hC.bY
 obtain⟨s',hs'⟩:∃s',s'=s.rh .parked s.gc:=⟨_,rfl⟩;have hsm:s'.ms=.parked:=by rw[hs'];rfl
 have hsw:s'.w=s.w:=by rw[hs'];rfl
 have hsc:s'.c=s.c:=by rw[hs'];rfl
 have hms:=hE.I.ms;rw[hm]at hms
 have hI:bD A.n s':=by rw[hs'];exact⟨by have:=hE.I.g1;rw[hm]at this;exact this,hE.I.g2,hE.I.ns,hE.I.g3,hE.I.tE,hE.I.g4,hE.I.g5,hE.I.g6,hE.I.g7,hE.I.g8,hE.I.g9,hE.I.ok,hE.I.L3,hE.I.sp,hE.I.idle,⟨hms.1,hms.2,hng,hnw⟩,hE.I.early,hE.I.mu⟩
 have hEx:cW P A Z s' kk OO J M (gs.setIfInBounds 0 (parked g₂ #[rcase A.cF z] (.recv true))).size w (t++#[]):=by
  refine hE.chan hI (by rw[Array.size_setIfInBounds,hs'];exact hE.size) (by rw[hsc];exact hE.v7) (λ_ _=>rfl) (by rw[hs'];rfl) (by rw[hs'];rfl) (by rw[hs'];rfl) (by rw[hs'];rfl) (λl _=>by rw[hsw]) (λi b n v h=>⟨i,h⟩) rfl (λi=>?_) (.inl hsc) (λop h=>by simp at h) (λi hi=>.inl ?_) (λi hlk hn=>hE.AE i hlk λh=>hn ?_)
  . rw[hE.hJ i]
    unfold eX;rw[hsw,hsc]
  . rw[hs']at hi;exact hi
  . rw[hs'];exact h
 have hL:MS.fX A.n s' s:=by
  refine .inl ?_;rw[hs'];show nG.parked.cz+sumTo A.n (λi=>(s.w i).cz)+s.c.cz s.gc<s.ms.cz+sumTo A.n (λi=>(s.w i).cz)+s.c.cz s.gc
  rw[hm];have e1:nG.parked.cz=99:=rfl;have e2:nG.recv.cz=100:=rfl;omega
 have hrem:MS.rem P A.n s'=MS.rem P A.n s:=CG λl _=>by rw[hsw]
 have hS:gi A s s' (λi=>i=0):=⟨λl _ hl=>by rw[hsw],λ_=>hsc,λh=>absurd rfl h,by rw[hs'];rfl,by rw[hs'];rfl⟩
 refine⟨_,_,hrun,s',f,q,kk,OO,J,M,_,_,_,rfl,hL,?_⟩;refine hC.E1 AY hP hEx (by simp) (λi=>i=0) hne (kG hZ hS (λ_ _=>rfl) (λ_ _=>rfl) (λ_ _ _=>rfl) (λ_ _ _=>rfl) (λ_ _ _ h=>h)) (λi hi=>?_)
 subst hi;have hheld:dW P A s' 0:=.inl ⟨rfl,hsm⟩;refine⟨_,hself,λh=>absurd h (rm hsm),λh=>absurd h (rk (.inr hsm)),λ_=>⟨rm hsm,rk (.inr hsm),?_,by rw[m7];exact d0,rfl,.inl ⟨rfl,g₂,z,rfl,hs2,hr,by rw[hrem];exact ht⟩⟩,λ_ _ h=>absurd hheld h⟩
 show 0<A.b+A.n+1;omega
end
end Go.aN

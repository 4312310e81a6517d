import Derived.Conc.TokenTrace
import Derived.Test.YtldmpfccgajobaaGreatDoorV15
set_option linter.all false
namespace Go.bG
open Go.Conc
open Go.ConcN (sumTo upd sumTo_upd upd_ne upd_same)
section
variable{P:Program}{A:om P}{Z:Base}{s s':A.S}{f f':Nat->Node P}{q q':Nat->Nat}{kk kk':Nat->ag}{OO OO':Nat->ah}{J J' M M':Nat->Prop}{gs gs':Array Goroutine}{w w':World}{t u:Trace}
structure Aside(A:om P)(s s':A.S)(f f':Nat->Node P)(q q':Nat->Nat)(kk kk':Nat->ag)(OO OO':Nat->ah)(J J':Nat->Prop)(S:Nat->Prop):Prop where
 ef:∀j,¬S j->f' j=f j
 eq:∀j,¬S j->q' j=q j
 ek:∀j,¬S j->j<A.top->kk' j=kk j
 eO:∀j,¬S j->j<A.top->OO' j=OO j
 eJ:∀j,¬S j->A.Live s j->J j->J' j
 live:∀j,¬S j->(A.Live s' j↔A.Live s j)
 walk:∀j,¬S j->(A.Walk s' j↔A.Walk s j)
 held:∀j,¬S j->(A.ma s' j↔A.ma s j)
 mo:∀j,¬S j->A.Live s j->A.mo s' j=A.mo s j
 at':∀j k O x,¬S j->A.Walk s j->A.At s j k O x->A.At s' j k O x
 deaf:∀j,¬S j->A.Walk s j->A.deaf s' j=A.deaf s j
 wi:∀j,¬S j->A.Walk s j->A.wi s j->A.wi s' j
 LS:∀j k O x,¬S j->A.ma s j->A.Bk s j k O x->A.Bk s' j k O x
 tie:∀j x,¬S j->A.Live s j->A.Jw s j x->A.Jw s' j x
theorem bg.Ec(v:bg A Z s f q kk OO J M gs w t)(K:jS u)(L:bL Z kk' OO' J' M' w' (t++u))(D:A.Ex s' kk' OO' J' M' gs'.size w' (t++u))(E:gs.size<=gs'.size)(S:Nat->Prop)(z:∀i,¬S i->gs'[i]?=gs[i]?)
 (a:Aside A s s' f f' q q' kk kk' OO OO' J J' S) (B:∀i,S i->∃m,gs'[i]?=some m/\Self P A s' f' q' kk' OO' J' (t++u) i m):bg A Z s' f' q' kk' OO' J' M' gs' w' (t++u):=by
 have y:∀j,Deaf (t++u) j=Deaf t j:=λj=>bD K j
 refine⟨v.lk,L,λj k=>?_,λj k=>?_,λj k=>?_,λj x C F G H=>?_,λj k=>by rw[y];exact v.above j (Nat.le_trans E k),D⟩
 . by_cases e:S j
   . obtain⟨m,n,o⟩:=B j e
     obtain⟨c,d,g⟩:=o.live k;exact⟨c,by rw[n,d],g⟩
   . have b:=(a.live j e).1 k
     obtain⟨c,d,pm,g,l,p,r,I⟩:=v.live j b;rw[a.ef j e,a.ek j e c,a.eO j e c,y j,a.mo j e b,z j e];exact⟨c,d,pm,g,l,p,r,I.1.imp id (a.eJ j e b),a.tie j _ e b I.2⟩
 . by_cases e:S j
   . obtain⟨m,n,o⟩:=B j e
     obtain⟨c,d,g,g',l,p⟩:=o.walk k;exact⟨c,d,g,m,g',n,l,p⟩
   . have b:=(a.walk j e).1 k
     obtain⟨c,d,g,x,N,l,p,r⟩:=v.walk j b;refine⟨λh=>c ((a.live j e).1 h),d,by rw[y j,a.deaf j e b];exact g,x,N,by rw[z j e];exact l,?_,?_⟩
     . rw[a.ek j e d,a.eO j e d];exact a.at' j _ _ _ e b p
     . rw[a.eq j e]
       rcases r with⟨O,Q,R⟩|r
       . exact .inl ⟨a.wi j e b O,Q,R⟩
       . exact .inr r
 . by_cases e:S j
   . obtain⟨m,n,o⟩:=B j e
     obtain⟨c,d,g,l,p,r⟩:=o.held k;exact⟨c,d,g,l,m,n,p,r⟩
   . have b:=(a.held j e).1 k
     obtain⟨c,d,g,l,x,T,U,V⟩:=v.held j b;refine⟨λh=>c ((a.live j e).1 h),λh=>d ((a.walk j e).1 h),g,by rw[y j];exact l,x,by rw[z j e];exact T,U,?_⟩;rw[a.ek j e g,a.eO j e g];exact a.LS j _ _ _ e b V
 . by_cases e:S j
   . obtain⟨m,n,o⟩:=B j e
     rw[n]at C;obtain rfl:=Option.some.inj C;exact o.rest F G H
   . rw[a.eq j e,y j]
     rw[z j e]at C;exact v.rest j x C (λh=>F ((a.live j e).2 h)) (λh=>G ((a.walk j e).2 h)) (λh=>H ((a.held j e).2 h))
theorem bg.quiet(B:wj A)(a:bg A Z s f q kk OO J M gs w t){i:Nat}{x:Goroutine}(d:gs[i]?=some x)(n:¬A.ma s i)(c:Nat)(b:Bool):offersAt x c b=[]:=by
 by_cases j:A.Live s i
 . obtain⟨_,k,_,_,_,e,_⟩:=a.live i j
   rw[d]at k;obtain rfl:=Option.some.inj k;exact offersAt_of_not_blocked (by rw[e];decide) _ _
 by_cases l:A.Walk s i
 . obtain⟨_,_,_,y,o,m,e,g⟩:=a.walk i l
   rw[d]at m;obtain rfl:=Option.some.inj m;obtain⟨p,r⟩:=B.jX e;rcases g with⟨_,rfl,_⟩|g
   . show offersAt (blk o) c b=[]
     unfold offersAt blk;simp only[r]
   . exact offersAt_of_not_blocked (by rw[g.first p];decide) _ _
 . have h:=(a.rest i x d j l n).2
   refine offersAt_of_not_blocked ?_ _ _;rcases h.status with h|h<;>rw[h]<;>decide
end
section
variable{P:Program}{A:dk}{Fin:ag->ah->Goroutine->Prop}{Z:Base}{s s':MS P}{f f':Nat->Node P}{q q':Nat->Nat}{kk kk':Nat->ag}{OO OO':Nat->ah}{J J' M M':Nat->Prop}{gs gs':Array Goroutine}{w w':World}{t u:Trace}{i:Nat}
structure fy{P:Program}(A:dk)(s s':MS P)(S:Nat->Prop):Prop where
 w:∀l,l<A.n -> ¬S (A.b+l)->s'.w l=s.w l
 c:¬S (A.b+A.n)->s'.c=s.c
 ms:¬S 0->s'.ms=s.ms/\MS.rem P A.n s'=MS.rem P A.n s
 sh:s'.sh.ms=s.sh.ms
 gm:s'.gm=s.gm
variable{S:Nat->Prop}
theorem fy.live(h:fy A s s' S){j:Nat}(b:¬S j):cL P A s' j↔cL P A s j:=by
 constructor<;>rintro(⟨d,a⟩|⟨l,a,e,f⟩|⟨d,a⟩)
 . subst d;exact .inl ⟨rfl,by rw[<-(h.ms b).1];exact a⟩
 . subst e;exact .inr (.inl ⟨l,a,rfl,by rw[<-h.w l a b];exact f⟩)
 . subst d;exact .inr (.inr ⟨rfl,by rw[<-h.c b];exact a⟩)
 . subst d;exact .inl ⟨rfl,by rw[(h.ms b).1];exact a⟩
 . subst e;exact .inr (.inl ⟨l,a,rfl,by rw[h.w l a b];exact f⟩)
 . subst d;exact .inr (.inr ⟨rfl,by rw[h.c b];exact a⟩)
theorem fy.walk(h:fy A s s' S){j:Nat}(b:¬S j):dV P A s' j↔dV P A s j:=by
 constructor<;>rintro(⟨d,a⟩|⟨l,a,e,f⟩|⟨d,a⟩)
 . subst d;exact .inl ⟨rfl,by rw[<-(h.ms b).1];exact a⟩
 . subst e;exact .inr (.inl ⟨l,a,rfl,by rw[<-h.w l a b];exact f⟩)
 . subst d;exact .inr (.inr ⟨rfl,by rw[<-h.c b];exact a⟩)
 . subst d;exact .inl ⟨rfl,by rw[(h.ms b).1];exact a⟩
 . subst e;exact .inr (.inl ⟨l,a,rfl,by rw[h.w l a b];exact f⟩)
 . subst d;exact .inr (.inr ⟨rfl,by rw[h.c b];exact a⟩)
theorem fy.held(h:fy A s s' S){j:Nat}(b:¬S j):dz P A s' j↔dz P A s j:=by
 constructor<;>rintro(⟨c,a⟩|⟨l,a,d,e⟩)
 . subst c;exact .inl ⟨rfl,by rw[<-(h.ms b).1];exact a⟩
 . subst d;exact .inr ⟨l,a,rfl,by rw[<-h.w l a b];exact e⟩
 . subst c;exact .inl ⟨rfl,by rw[(h.ms b).1];exact a⟩
 . subst d;exact .inr ⟨l,a,rfl,by rw[h.w l a b];exact e⟩
theorem jK(x:A.b+A.n+1<=Z.lk)(d:fy A s s' S)(B:∀j,¬S j->f' j=f j)(C:∀j,¬S j->q' j=q j)(D:∀j,¬S j->j<A.b+A.n+1->kk' j=kk j)(E:∀j,¬S j->j<A.b+A.n+1->OO' j=OO j)(F:∀j,¬S j->cL P A s j->J j->J' j):
 Aside (bM P A Fin Z x) s s' f f' q q' kk kk' OO OO' J J' S:=by
 have hb:=A.hb;refine⟨B,C,D,E,F,λj a=>d.live a,λj a=>d.walk a,λj a=>d.held a,λj a G=>?_,λj k O y a _ u=>?_,λj a v=>?_,λj a v hd=>?_,λj k O y a _ u=>?_,λj y a _ H=>?_⟩
 . show bm P A Fin s' j=bm P A Fin s j
   unfold bm;rcases G with⟨g,_⟩|⟨l,i,m,_⟩|⟨g,_⟩
   . subst g
     simp only[if_true,(d.ms a).1,(d.ms a).2]
   . subst m
     have e:A.b+l-A.b=l:=by omega
     have p:¬A.b+l=0:=by omega
     have r:A.b+l<A.b+A.n:=by omega
     simp only[if_neg p,if_pos r,e,d.w l i a]
   . subst g
     have p:¬A.b+A.n=0:=by omega
     have r:¬A.b+A.n<A.b+A.n:=by omega
     simp only[if_neg p,if_neg r,d.c a]
 . rcases u with⟨g,h⟩|⟨l,i,m,o⟩|⟨g,h⟩
   . subst g;exact .inl ⟨rfl,by rw[(d.ms a).1];exact h⟩
   . subst m;exact .inr (.inl ⟨l,i,rfl,by rw[d.w l i a];exact o⟩)
   . subst g;exact .inr (.inr ⟨rfl,by rw[d.c a];exact h⟩)
 . show cd P A s' j=cd P A s j
   unfold cd;rcases v with⟨g,_⟩|⟨l,i,m,_⟩|⟨g,_⟩
   . subst g
     simp only[if_true,(d.ms a).1]
   . subst m
     have e:A.b+l-A.b=l:=by omega
     have p:¬A.b+l=0:=by omega
     have r:A.b+l<A.b+A.n:=by omega
     simp only[if_neg p,if_pos r,e,d.w l i a]
   . subst g
     have p:¬A.b+A.n=0:=by omega
     have r:¬A.b+A.n<A.b+A.n:=by omega
     simp only[if_neg p,if_neg r,d.c a]
 . rcases hd with⟨l,sv,Y,i,m,o,t⟩|⟨g,o,t⟩
   . subst m;exact .inl ⟨l,sv,Y,i,rfl,by rw[d.w l i a];exact o,by rw[d.sh];exact t⟩
   . subst g;exact .inr ⟨rfl,by rw[d.c a];exact o,by rw[d.gm];exact t⟩
 . rcases u with⟨g,g₂,z,i,m,o,t⟩|h
   . subst g;exact .inl ⟨rfl,g₂,z,i,m,o,by rw[(d.ms a).2];exact t⟩
   . exact .inr h
 . exact λl b X i m o=>H l b X i m (by subst m;rw[<-o];exact(d.w l i a).symm)
theorem rU(d:A.b+A.n+1<=Z.lk)(e:bg (bM P A Fin Z d) Z s f q kk OO J M gs w t){x:Goroutine}(g:gs[i]?=some x)(h:s.ms≠.parked\/i≠0):offersAt x A.cF false=[]:=by
 have B:=aR (P:=P) (A:=A) (Fin:=Fin) (Z:=Z) d;have hb:=A.hb;by_cases a:dz P A s i
 . obtain⟨_,_,_,_,y,k,u,m⟩:=e.held i a
   rw[g]at k;obtain rfl:=Option.some.inj k;rcases m with⟨o,_⟩|⟨j,c,p,g₂,z,v,r,_⟩
   . rcases a with⟨_,c⟩|⟨l,c,p,_⟩
     . rcases h with h|h
       . exact absurd c h
       . exact absurd o h
     . omega
   . rw[r,offersAt_parked_send']
 . exact e.quiet B g a _ _
theorem rV(d:A.b+A.n+1<=Z.lk)(e:bg (bM P A Fin Z d) Z s f q kk OO J M gs w t){x:Goroutine}(g:gs[i]?=some x)(h:∀j,j<A.n->i=A.b+j->s.w j≠.wait)(r:Nat):offersAt x r true=[]:=by
 have B:=aR (P:=P) (A:=A) (Fin:=Fin) (Z:=Z) d;have hb:=A.hb;by_cases c:dz P A s i
 . obtain⟨_,_,_,_,y,k,u,m⟩:=e.held i c
   rw[g]at k;obtain rfl:=Option.some.inj k;rcases m with⟨v,g₂,z,a,_⟩|⟨j,C,D,_⟩
   . rw[a,offersAt_parked_recv']
   . rcases c with⟨a,_⟩|⟨l,a,o,p⟩
     . omega
     . obtain rfl:l=j:=by omega
       exact absurd p (h l a o)
 . exact e.quiet B g c _ _
theorem mp{i:Nat}{c:Nat}{b:Bool}(h:∀(j:Nat) (g:Goroutine),j≠i->gs[j]?=some g->offersAt g c b=[]):partners (gs.setIfInBounds i ph) c b=[]:=
 partners_nil λj g a=>by
  rcases getElem?_stand gs i j g a with⟨_,rfl⟩|⟨d,a⟩
  . exact offersAt_ph ..
  . exact h j g d a
end
section
variable{Z:Base}{kk:Nat->ag}{OO:Nat->ah}{J J' M M':Nat->Prop}{w w':World}{t u:Trace}
theorem bL.hand(h:bL Z kk OO J M w t){src dst:Nat}(l:src≠Z.lk)(o:dst≠Z.lk)(q:∀n,Knows t src n->Knows (t++u) dst n)(i:∀op∈u,op.act.touch?=none)(r:∀op∈u,op.act.low w.heap.size)(z:w'.heap.size=w.heap.size)(A:Calm Z w w')(hb:∀b,Kept kk OO w w' b)
 (d:∀n a,touchAt t n=some a->a.loc.isMemory=true->((∃j,J j/\Knows t j n)\/(∃p,M p/\Before t n p))->Told Z J' M' (t++u) n a):
 bL Z (bo kk dst ((kk dst).join (kk src))) OO J' M' w' (t++u):=by
 refine h.qF (λa b=>a=b\/(a=src/\b=dst)) z A hb r (λa b e n y _ _ _ g=>?_) (λj b n v c=>?_) (λj b s c=>?_) (λj b x B=>⟨j,.inl rfl,B,λs k=>?_⟩) h.gY
  (λsaid=>?_) (λop f a d=>by rw[i op f]at d;cases d) (λm op a f d=>by rw[i op (Array.mem_of_getElem? f)]at d;cases d) d
 . rcases e with rfl|⟨rfl,rfl⟩
   . exact g.app u
   . exact(l9 o).2 (q n ((l9 l).1 g))
 . by_cases e:j=dst
   . subst e
     rw[ak]at c;rcases ag.jG c with c|c
     . exact⟨_,.inl rfl,c⟩
     . exact⟨src,.inr ⟨rfl,rfl⟩,c⟩
   . rw[ap _ _ e]at c;exact⟨j,.inl rfl,c⟩
 . by_cases e:j=dst
   . subst e
     rw[ak]at c;rcases ag.xN c with c|c
     . exact⟨_,.inl rfl,c⟩
     . exact⟨src,.inr ⟨rfl,rfl⟩,c⟩
   . rw[ap _ _ e]at c;exact⟨j,.inl rfl,c⟩
 . by_cases e:j=dst
   . subst e;rw[ak];exact(ag.kv _ _).sh b s k
   . rw[ap _ _ e];exact k
 . exact noRace_appendMute (h.clean said) i
end
end Go.bG
namespace Go.bG
open Go.Conc
open Go.ConcN (sumTo upd sumTo_upd upd_ne upd_same)
variable{P:Program}
def MS.jr(s:MS P)(j:Nat)(x:aW P)(m1:mP)(sp1:Nat):MS P:={s with w:=λi=>if i=j then x else s.w i,ms:=m1,sp:=sp1}
section
variable{s:MS P}{j n:Nat}{x:aW P}{m1:mP}{sp1:Nat}
theorem dP:(s.jr j x m1 sp1).w j=x:=by simp[MS.jr]
theorem ib{i:Nat}(h:i≠j):(s.jr j x m1 sp1).w i=s.w i:=by simp[MS.jr,h]
theorem J2:(λi=>((s.jr j x m1 sp1).w i).pc)=Mu.set (λi=>(s.w i).pc) j x.pc:=by
 funext i;by_cases h:i=j
 . subst h;rw[dP,Mu.an]
 . rw[ib h,Mu.aj _ _ h]
theorem zN(F:aW P->Nat)(a:j<n):sumTo n (λi=>F ((s.jr j x m1 sp1).w i))+F (s.w j)=sumTo n (λi=>F (s.w i))+F x:=by
 have e:(λi=>F ((s.jr j x m1 sp1).w i))=upd (λi=>F (s.w i)) j (F x):=by
  funext i;by_cases h:i=j
  . subst h;rw[dP,upd_same]
  . rw[ib h,upd_ne _ _ h]
 rw[e];have:=sumTo_upd (λi=>F (s.w i)) (F x) id a;simpa using this
theorem bs.jr(I:bs n s)(v:j<n)(H:x.cnt+m1.pend=(s.w j).cnt+s.ms.pend)(m:(s.w j).last=false)(g:x.last=false)(A:s.w j≠.gone)(o:x.ok=true)(q:x.pc=(s.w j).pc)(b:x.gZ=false)
 (k:(sp1=s.sp/\(s.w j).gZ=false)\/(sp1=s.sp+1/\j=s.sp)) (B:x.fH=true->s.c≠.none)
 (r:match (generalizing:=false) m1 with
   |.add l=>sp1+l=n/\s.c=.none
   |.bb l p=>sp1+l=n/\s.c=.none/\1<=l/\(p=.a0\/p=.a2\/p=.a4\/p=.ae)
   |.spawn l=>sp1+l+1=n/\s.c=.none
   |.recv=>sp1=n/\s.c≠.none
   |.parked=>sp1=n/\s.c≠.none/\s.c≠.gone/\∀i,i<n->(s.jr j x m1 sp1).w i≠.wait):bs n (s.jr j x m1 sp1):=by
 have y:=zN (s:=s) (x:=x) (m1:=m1) (sp1:=sp1) aW.cnt v
 have f:∀{i:Nat},((s.jr j x m1 sp1).w i).last=(s.w i).last:=λ{i}=>by
  by_cases e:i=j
  . subst e;rw[dP,m,g]
  . rw[ib e]
 have dn:∀{i:Nat}{p:sP},(p=.d5\/p=.d6\/p=.d7)->((s.jr j x m1 sp1).w i=.dn p↔s.w i=.dn p):=λ{i p} z=>by
  by_cases e:i=j
  . subst e
    rw[dP];constructor<;>intro h
    . rw[h]at g;rcases z with rfl|rfl|rfl<;>cases g
    . rw[h]at m;rcases z with rfl|rfl|rfl<;>cases m
  . rw[ib e]
 refine⟨?_,I.g2,I.pP,λi b h=>?_,λi l b m h d=>?_,λi b h=>?_,⟨I.g5.1,λh=>?_⟩,λh d t=>?_,λh d=>?_,λh=>?_,I.g9,λi a=>?_,I.LO,?_,λi a=>?_,r,λh i a=>?_,?_⟩
 . have:=I.g1
   show s.gc=sumTo n (λi=>((s.jr j x m1 sp1).w i).cnt)+m1.pend;omega
 . exact I.g3 i b (h.imp (dn (.inl rfl)).1 (dn (.inr (.inl rfl))).1)
 . rw[f]at h d;exact I.pf i l b m h d
 . exact I.g4 i b ((dn (.inr (.inr rfl))).1 h)
 . obtain⟨C,D,E,F⟩:=I.g5.2 h
   exact⟨C,D,E,λi b=>by rw[f];exact F i b⟩
 . obtain⟨i,b,u⟩:=I.g6 h d t
   exact⟨i,b,(dn (.inr (.inr rfl))).2 u⟩
 . obtain⟨i,b,u⟩:=I.g7 h d
   exact⟨i,b,u.imp (dn (.inl rfl)).2 (dn (.inr (.inl rfl))).2⟩
 . exact absurd ((I.g8 h).2.2.2 j v) A
 . by_cases e:i=j
   . subst e;rw[dP];exact o
   . rw[ib e];exact I.ok i a
 . have:=I.sp
   show sp1<=n;rcases k with⟨h,_⟩|⟨h,d⟩<;>omega
 . show ((s.jr j x m1 sp1).w i).gZ=true↔sp1<=i
   by_cases e:i=j
   . subst e
     rw[dP,b];rcases k with⟨h,d⟩|⟨h,d⟩
     . have:=I.idle i a
       rw[d]at this;rw[h];exact this
     . constructor
       . intro h;cases h
       . intro h;omega
   . rw[ib e]
     rcases k with⟨h,d⟩|⟨h,d⟩
     . rw[h];exact I.idle i a
     . rw[I.idle i a];omega
 . by_cases e:i=j
   . subst e;rw[dP]
     cases G:x.fH with
     |false=>rfl
     |true=>exact absurd h (B G)
   . rw[ib e];exact I.early h i a
 . rw[J2,q,jZ (λi=>(s.w i).pc)];exact I.mu
theorem qY(a:j<n)(h:x.bU+m1.bU<(s.w j).bU+s.ms.bU):MS.fh n (s.jr j x m1 sp1) s:=by
 have:=zN (s:=s) (x:=x) (m1:=m1) (sp1:=sp1) aW.bU a;refine .inl ?_;show m1.bU+sumTo n (λi=>((s.jr j x m1 sp1).w i).bU)+s.c.bU s.gc<s.ms.bU+sumTo n (λi=>(s.w i).bU)+s.c.bU s.gc;omega
end
section
variable{A:dk}{Z:Base}{s s':MS P}{kk kk':Nat->ag}{OO:Nat->ah}{J J' M:Nat->Prop}{gsz gsz':Nat}{w w':World}{t u:Trace}
theorem cz.chan(h:cz P A Z s kk OO J M gsz w t)(hI:bs A.n s')(E:gsz'=A.b+s'.sp+(if s'.c.isNone then 0 else 1))(Q:∃x tm,w'.heap[A.cF]?=some (.chan 0 #[] s'.c.dp x x tm))(g:∀b,b≠A.cF->w'.heap[b]?=w.heap[b]?)
 (R:s'.sh=s.sh) (S:s'.gc=s.gc) (T:s'.gv=s.gv) (U:s'.gm=s.gm) (o:∀l,l<A.n->(s'.w l).owns=(s.w l).owns) (V:∀i b n v,(kk' i).cell b n=some v->∃l,(kk l).cell b n=some v) (K:kk' Z.lk=kk Z.lk)
 (W:∀i,J' i↔dW P A s' i) (d:s'.c=s.c\/(s.c=.none/\s'.c=.dH/\∀m,Knows t 0 m->Knows (t++u) (A.b+A.n) m)) (hu:∀op∈u,op.act.touch?=none/\∀a,op.act≠.mark (.release a))
 (C:∀i,bt P A s' i->bt P A s i\/(∀m,Knows t 0 m->Knows (t++u) i m)) (L:∀i,i≠Z.lk -> ¬bt P A s' i->kk' i=ag.bot/\OO i=ah.bot):
 cz P A Z s' kk' OO J' M gsz' w' (t++u):=by
 have r:∀{m:Nat}{a:Touch},touchAt (t++u) m=some a->touchAt t m=some a:=λ{m a} B=>by
  rcases kz B with⟨k,_⟩|⟨op,F,k⟩
  . exact k
  . rw[(hu op F).1]at k;cases k
 have j:∀i b n,(∀l,(kk l).cell b n=none)->(kk' i).cell b n=none:=λi b n hn=>by
  cases e:(kk' i).cell b n with
  |none=>rfl
  |some v=>obtain⟨l,z⟩:=V i b n v e;rw[hn l]at z;cases z
 have G:s'.c=.gone->s.c=.gone:=λe=>by
  rcases d with d|⟨_,d,_⟩
  . rw[<-d];exact e
  . rw[d]at e;cases e
 refine⟨hI,E,Q,by rw[R];exact h.mu.same (.of_heap (g _ (Ne.symm A.d1))),by rw[S,T,U];exact h.gr.same (.of_heap (g _ (Ne.symm A.d2))),by rw[g _ (Ne.symm A.d1)];exact h.rR,by rw[g _ (Ne.symm A.d2)];exact h.vH,h.ew,
  λi=>⟨j i _ _ λl=>(h.dg l).1,j i _ _ λl=>(h.dg l).2.1,j i _ _ λl=>(h.dg l).2.2.1,j i _ _ λl=>(h.dg l).2.2.2⟩,λi y hy=>?_,λl z H=>h.ug l z (by rw[<-o l z];exact H),λH=>?_,λc d=>?_,
  W,λp hp=>?_,λd=>h.jy u (G d),λm a B N O i X=>?_,λm a B N O=>?_,λi X m a Y B D hz=>?_,h.fQ u (λop F=>(hu op F).2),L,h.oO,h.iB,h.dA,h.la,by simp;exact Nat.le_trans h.n0 (Nat.le_add_right _ _)⟩
 . obtain⟨l,f,q,I,h5,h6⟩:=h.tok i y hy
   exact⟨l,f,q,I,by rw[o l q];exact h5,h6⟩
 . rw[K];exact h.GN λl z=>by rw[<-o l z];exact H l z
 . obtain⟨q,I⟩:=h.FK c d
   exact⟨q,λl z=>by rw[o l z];exact I l z⟩
 . obtain⟨k,h2,q⟩:=h.pQ u p hp
   refine⟨k,h2,?_⟩;rcases q with⟨q,I⟩|⟨q,I⟩
   . refine .inl ⟨q,?_⟩
     rcases d with d|⟨_,d,_⟩
     . rw[d];exact I
     . exact .inr (.inl d)
   . refine .inr ⟨?_,I⟩
     rcases d with d|⟨d,_⟩
     . rw[d];exact q
     . rw[d]at q;cases q
 . rcases C i X with k|k
   . exact(h.quiet m a (r B) N O i k).app u
   . exact k m (h.quiet m a (r B) N O 0 (.inl rfl))
 . have h0:=h.said m a (r B) N O
   rcases d with d|⟨d,a7,k⟩
   . rw[d];exact h0.app u
   . rw[d]at h0
     rw[a7];exact k m h0
 . have a8:m<t.size:=Nat.lt_of_lt_of_le Y h.n0
   rcases C i X with k|k
   . exact(h.old i k m a Y (r B) D hz).app u
   . exact k m (h.old 0 (.inl rfl) m a Y (r B) D hz)
end
end Go.bG
namespace Go.bG
open Go.Conc
open Go.ConcN (sumTo upd sumTo_upd upd_ne upd_same)
section
variable{P:Program}{A:dk}{Fin:ag->ah->Goroutine->Prop}{Z:Base}{s s':MS P}{f f':Nat->Node P}{q q':Nat->Nat}{kk kk':Nat->ag}{OO OO':Nat->ah}{J J' M M':Nat->Prop}{gs gs':Array Goroutine}{w w':World}{t u:Trace}{j:Nat}{g g₂:Goroutine}{z v:Value}
theorem BF(h:∀l,l<A.n->(s'.w l).fH=(s.w l).fH):MS.rem P A.n s'=MS.rem P A.n s:=by unfold MS.rem;exact List.filter_congr λl a=>by rw[h l (List.mem_range.1 a)]
theorem pU{l:Nat}:l∈MS.rem P A.n s↔l<A.n/\(s.w l).fH=false:=by unfold MS.rem;rw[List.mem_filter,List.mem_range];simp
theorem J3{m1:mP}{sp1:Nat}(c:j<A.n)(h:(s.w j).fH=false):MS.rem P A.n (s.jr j .wv m1 sp1)=(MS.rem P A.n s).erase j/\(MS.rem P A.n s).length=(MS.rem P A.n (s.jr j .wv m1 sp1)).length+1:=by
 have e:MS.rem P A.n (s.jr j .wv m1 sp1)=(MS.rem P A.n s).erase j:=by
  unfold MS.rem;rw[List.Nodup.erase_eq_filter (List.Nodup.sublist List.filter_sublist List.nodup_range),List.filter_filter];refine List.filter_congr λi _=>?_
  by_cases a:i=j
  . subst a;rw[dP];simp[aW.fH]
  . rw[ib a];simp[a]
 refine⟨e,?_⟩;have b:j∈MS.rem P A.n s:=pU.2 ⟨c,h⟩;rw[e,List.length_erase_of_mem b];have:=List.length_pos_of_mem b;omega
theorem ut(c:j<A.n)(e:s.w j=.wait):¬cL P A s (A.b+j):=by
 have:=A.hb;rintro(⟨e,_⟩|⟨l,d,f,a⟩|⟨e,_⟩)
 . omega
 . obtain rfl:l=j:=by omega
   rw[e]at a;exact a
 . omega
theorem oX(c:j<A.n)(e:s.w j=.wait\/s.w j=.wv):¬dV P A s (A.b+j):=by
 have:=A.hb;rintro(⟨e,_⟩|⟨l,d,f,a⟩|⟨e,_⟩)
 . omega
 . obtain rfl:l=j:=by omega
   rcases e with e|e<;>rw[e]at a<;>exact a
 . omega
theorem zO(c:j<A.n)(e:s.w j=.wv):bm P A Fin s (A.b+j)=oc P A:=by
 have:=A.hb;unfold bm;rw[if_neg (by omega),if_pos (by omega)];have a:A.b+j-A.b=j:=by omega
 rw[a,e]
theorem fA(g:Nat)(fn:FuncId)(pos:String):MemOp.ofEvents g fn pos #[]=#[]:=by rw[ofEvents_eq];simp
theorem mq(t:Trace):t++(#[]:Trace)=t:=by simp
theorem zP:jS #[]:=λop h=>by simp at h
theorem J4(F:A.b+A.n+1<=Z.lk)(D:bg (bM P A Fin Z F) Z s f q kk OO J M gs w t)(m:j<A.n){Y:Node P}(k:s.w j=.run false Y)(U:s.ms≠.parked)(W:gs[A.b+j]?=some g)
 (hs:∀w,Sat (kk (A.b+j)) (OO (A.b+j)) w->stepG P false g w=.comm g₂ #[scase A.cF v z] true .send w #[]) (hO:OO (A.b+j) A.fb=none) (hv:V (kk (A.b+j)) v (A.res j)) (ht:T P (oc P A) gM (kk (A.b+j)) (OO (A.b+j)) (Go.Conc.served g₂ undef)) (sl:Option (Nat × Nat)):
 Goes P A Fin Z F s gs w t sl (A.b+j):=by
 have o:cz P A Z s kk OO J M gs.size w t:=D.ex;have hb:=A.hb;have G:(A.b+j==0)=false:=by simp;omega
 obtain⟨c,tm,X⟩:=o.vq
 have H:s.c.dp=false:=by
  cases e:s.c with
  |gone=>have:=(o.I.g8 (by rw[e];rfl)).2.2.2 j m;rw[k]at this;cases this
  |_=>rfl
 rw[H]at X;have K:=(Array.getElem?_eq_some_iff.1 W).1;obtain⟨_,_,_,_,_,_,hd,_⟩:=D.live _ (iZ m k)
 have L:∀N∈(#[scase A.cF v z]:Array CommCase),NoWays w (gs.setIfInBounds (A.b+j) ph) N:=λN O=>by
  have:N=scase A.cF v z:=by simpa using O
  subst this;exact ways_send_none X (by simp) (mp λi x _ hx=>rU F D hx (.inl U))
 have r:=crowd_waits (P:=P) (sl:=sl) W (by rw[G];exact hs w (D.bN.sat _)) L
 rw[fA]at r;have Q:∀i,¬(i=A.b+j)->(gs.setIfInBounds (A.b+j) (parked g₂ #[scase A.cF v z] .send))[i]?=gs[i]?:=λi E=>Array.getElem?_setIfInBounds_ne (Ne.symm E)
 have u:(gs.setIfInBounds (A.b+j) (parked g₂ #[scase A.cF v z] .send))[A.b+j]?=some (parked g₂ #[scase A.cF v z] .send):=Array.getElem?_setIfInBounds_self_of_lt K;have hP:bL Z kk OO J M w (t++#[]):=by rw[mq];exact D.bN
 obtain⟨s',a⟩:∃s',s'=s.jr j .wait s.ms s.sp:=⟨_,rfl⟩;have d:s'.w j=.wait:=by rw[a,dP]
 have p:∀{l:Nat},l≠j->s'.w l=s.w l:=λh=>by rw[a,ib h]
 have hI:bs A.n s':=by
  rw[a];refine o.I.jr m (by rw[k];rfl) (by rw[k];rfl) rfl (by rw[k];simp) rfl (by rw[k];rfl) rfl (.inl ⟨rfl,by rw[k];rfl⟩) (λh=>by cases h) ?_
  have:=o.I.ms;cases e:s.ms with
  |parked=>exact absurd e U
  |_=>rw[e]at this;exact this
 have y:∀l,l<A.n->(s'.w l).fH=(s.w l).fH:=λl _=>by
  by_cases e:l=j
  . subst e;rw[d,k];rfl
  . rw[p e]
 have B:∀l,(s'.w l).busy=(s.w l).busy:=λl=>by
  by_cases e:l=j
  . subst e;rw[d,k];rfl
  . rw[p e]
 have R:cz P A Z s' kk OO J M (gs.setIfInBounds (A.b+j) (parked g₂ #[scase A.cF v z] .send)).size w (t++#[]):=by
  refine o.chan hI (by rw[Array.size_setIfInBounds,a];exact o.size) (by rw[a];exact o.vq) (λ_ _=>rfl) (by rw[a];rfl) (by rw[a];rfl) (by rw[a];rfl) (by rw[a];rfl) (λl _=>?_) (λi b n v h=>⟨i,h⟩) rfl (λi=>?_) (.inl (by rw[a];rfl)) (λop h=>by simp at h) (λi E=>.inl ?_) (λi S hn=>o.zt i S λh=>hn ?_)
  . by_cases e:l=j
    . subst e;rw[d,k];rfl
    . rw[p e]
  . rw[o.hJ i]
    unfold dW;simp only[B,show s'.c=s.c by rw[a];rfl]
  . rw[a]at E;exact E
  . rw[a];exact h
 have hL:MS.fh A.n s' s:=by rw[a];exact qY m (by rw[k];simp[aW.bU])
 have hS:fy A s s' (λi=>i=A.b+j):=⟨λl _ hl=>p (by omega),λ_=>by rw[a];rfl,λ_=>⟨by rw[a];rfl,BF y⟩,by rw[a];rfl,by rw[a];rfl⟩
 refine⟨_,_,r,s',f,q,kk,OO,J,M,_,_,_,rfl,hL,?_⟩;refine D.Ec zP hP R (by simp) (λi=>i=A.b+j) Q (jK F hS (λ_ _=>rfl) (λ_ _=>rfl) (λ_ _ _=>rfl) (λ_ _ _=>rfl) (λ_ _ _ h=>h)) (λi E=>?_)
 subst E;have C:dz P A s' (A.b+j):=.inr ⟨j,m,rfl,d⟩;refine⟨_,u,λh=>absurd h (ut m d),λh=>absurd h (oX m (.inl d)),λ_=>⟨ut m d,oX m (.inl d),?_,by rw[mq];exact hd,rfl,.inr ⟨j,m,rfl,g₂,z,v,rfl,hv,hO,ht⟩⟩,λ_ _ h=>absurd C h⟩
 show A.b+j<A.b+A.n+1;omega
def kF(a b c s r cap:Nat)(f1 d:FuncId)(e f:String):Trace:=#[{g:=a,fn:=f1,pos:=e,act:=.send c s},{g:=b,fn:=d,pos:=f,act:=.recv c r cap},{g:=a,fn:=f1,pos:=e,act:=.sendDone c s},{g:=b,fn:=d,pos:=f,act:=.recvDone c r}]
theorem i7{a b c s r cap:Nat}{f1 d:FuncId}{e f:String}{op:MemOp}(h:op∈kF a b c s r cap f1 d e f):op.act.touch?=none/\(op.act≠.mark .disable/\op.act≠.mark .enable)/\(∀B,c<B->op.act.low B)/\∀a,op.act≠.mark (.release a):=by
 simp only[kF,List.mem_toArray,List.mem_cons,List.not_mem_nil,or_false]at h;rcases h with rfl|rfl|rfl|rfl<;>exact⟨rfl,⟨by simp,by simp⟩,λB g=>g,by simp⟩
theorem pV{w:World}{c cap s r:Nat}{buf:Array Value}{e tm:Bool}{d:Nat}(f:ChanAt w c){b:Nat}:
 ((w.at d).setChan c cap buf e s r tm).heap[b]?=if b=c then some (.chan cap buf e s r tm)else w.heap[b]?:=by
 obtain⟨_,_,_,_,_,_,h⟩:=f;have a:=(Array.getElem?_eq_some_iff.1 h).1;simp only[World.setChan,World.at];by_cases hb:b=c
 . subst hb;rw[if_pos rfl,Array.getElem?_setIfInBounds_self_of_lt a]
 . rw[if_neg hb,Array.getElem?_setIfInBounds_ne (Ne.symm hb)]
theorem uu(m:Nat)(R:List Nat):(ov P A Fin m R).solo=false:=by cases m<;>rfl
theorem lG(e:s.ms=.recv):bm P A Fin s 0=ov P A Fin (MS.rem P A.n s).length (MS.rem P A.n s):=by unfold bm;rw[if_pos rfl,e]
theorem gz(e:s.ms=.recv):cL P A s 0:=.inl ⟨rfl,by rw[e];trivial⟩
theorem pW(e:s.ms=.recv\/s.ms=.parked):¬dV P A s 0:=by
 have:=A.hb;rintro(⟨_,h⟩|⟨l,a,b,c⟩|⟨h,_⟩)
 . rcases e with e|e<;>rw[e]at h<;>exact h
 . omega
 . omega
theorem zQ{x:Node P}:JL P A s 0 x:=λj h X a b _=>by have:=A.hb;omega
theorem J5{x:Node P}(e:s.w j=.wv):JL P A s (A.b+j) x:=λl h X c d a=>by
 obtain rfl:l=j:=by omega
 rw[e]at a;cases a
theorem handed(hZ:A.b+A.n+1<=Z.lk)(O:bg (bM P A Fin Z hZ) Z s f q kk OO J M gs w t)(D:j<A.n)(H:s.ms=.recv\/s.ms=.parked)(K:s.w j=.wait\/∃X0,s.w j=.run false X0)(bB:(s.w j).bU+s.ms.bU=119){c:Nat}{tm:Bool}{gw gm:Goroutine}{v:Value}(d:Nat)
 (hF:w.heap[A.cF]?=some (.chan 0 #[] false c c tm)) (dj:Deaf t (A.b+j)=0) (d0:Deaf t 0=0)
 (a8:gs'.size=gs.size) (hw:gs'[A.b+j]?=some gw) (hm:gs'[0]?=some gm) (ho:∀i,i≠0->i≠A.b+j->gs'[i]?=gs[i]?)
 (hv:V (kk (A.b+j)) v (A.res j)) (a9:T P (oc P A) gM (kk (A.b+j)) (OO (A.b+j)) gw)
 (ad:∀k',(kk 0).Le k'->V k' v (A.res j)->T P (ov P A Fin ((MS.rem P A.n s).length-1) ((MS.rem P A.n s).erase j)) gM k' (OO 0) gm) (f1 Q:FuncId) (R S:String):
 ∃s' f' kk',MS.fh A.n s' s/\bg (bM P A Fin Z hZ) Z s' f' q kk' OO J M gs' ((w.at d).setChan A.cF 0 #[] false (c+1) (c+1) tm) (t++kF (A.b+j) 0 A.cF c c 0 f1 Q R S):=by
 have C:cz P A Z s kk OO J M gs.size w t:=O.ex;have hb:=A.hb;have z:ChanAt w A.cF:=⟨_,_,_,_,_,_,hF⟩;have al:A.cF<w.heap.size:=(Array.getElem?_eq_some_iff.1 hF).1;have hu:jS (kF (A.b+j) 0 A.cF c c 0 f1 Q R S):=λop h=>(i7 h).2.1
 have av:(kk (A.b+j)).Le ((kk 0).join (kk (A.b+j))):=ag.m5 (O.bN.sat 0) (O.bN.sat _);have ax:=ad _ (ag.kv _ _) (hv.mono av);obtain⟨U⟩:=T.tree (uu (P:=P) (A:=A) (Fin:=Fin) _ _) ax;obtain⟨W⟩:=T.tree (P:=P) (m:=oc P A) rfl a9;have c5:=H
 have X:s.sp=A.n/\s.c≠.none:=by
  have:=C.I.ms
  rcases H with e|e<;>rw[e]at this
  . exact this
  . exact⟨this.1,this.2.1⟩
 have ay:s.c.dp=false:=by
  cases e:s.c with
  |gone=>have:=(C.I.g8 (by rw[e];rfl)).2.2.2 j D;rcases K with h|⟨_,h⟩<;>rw[h]at this<;>cases this
  |_=>rfl
 have hP:bL Z (bo kk 0 ((kk 0).join (kk (A.b+j)))) OO J M ((w.at d).setChan A.cF 0 #[] false (c+1) (c+1) tm) (t++kF (A.b+j) 0 A.cF c c 0 f1 Q R S):=by
  refine O.bN.hand (src:=A.b+j) (dst:=0) (by omega) (by omega) (λn hn=>?_) (λop h=>(i7 h).1) (λop h=>(i7 h).2.2.1 _ al) (by simp[World.setChan,World.at]) ⟨⟨.refl _,rfl⟩,λb hb=>by have:=C.dA.1;simp only[World.setChan,World.at];exact Array.getElem?_setIfInBounds_ne (by omega)⟩ (λb=>?_) (λn a ha hm h=>h.elim (λ⟨j,h1,h2⟩=>.inr (.inl ⟨j,h1,h2.app _⟩)) (λ⟨p,h1,h2⟩=>.inr (.inr (.inl ⟨p,h1,h2.app _⟩))))
  . exact tQ (t:=t) hu (m1:=0) (m2:=3) (c:=A.cF) (k:=c) (x:={g:=A.b+j,fn:=f1,pos:=R,act:=.send A.cF c}) (y:={g:=0,fn:=Q,pos:=S,act:=.recvDone A.cF c}) rfl rfl rfl rfl dj d0 hn
  . unfold Kept
    rw[pV z]
    by_cases E:b=A.cF
    . subst E
      exact .inr (.inl ⟨z,⟨_,_,_,_,_,_,by rw[pV z,if_pos rfl]⟩,λi=>(C.ew i).1⟩)
    . rw[if_neg E];exact .inl rfl
 have b0:(s.w j).fH=false:=by rcases K with h|⟨_,h⟩<;>rw[h]<;>rfl
 obtain⟨s',o⟩:∃s',s'=s.jr j .wv .recv s.sp:=⟨_,rfl⟩;obtain⟨B,Y⟩:=J3 (A:=A) (s:=s) (m1:=.recv) (sp1:=s.sp) D b0;rw[<-o]at B Y;have r:s'.w j=.wv:=by rw[o,dP]
 have L:∀{l:Nat},l≠j->s'.w l=s.w l:=λh=>by rw[o,ib h]
 have F:s'.c=s.c:=by rw[o];rfl
 have G:s'.ms=.recv:=by rw[o];rfl
 have b8:(s.w j).busy=true/\(s.w j).cnt=1/\(s.w j).last=false/\(s.w j).pc=.out/\(s.w j).gZ=false/\s.w j≠.gone/\(s.w j).owns=false:=by rcases K with h|⟨_,h⟩<;>rw[h]<;>simp[aW.busy,aW.cnt,aW.last,aW.pc,aW.gZ,aW.owns]
 obtain⟨b1,b2,b3,b4,b5,b6,b7⟩:=b8
 have hI:bs A.n s':=by rw[o];refine C.I.jr D (by rw[b2];rcases H with e|e<;>rw[e]<;>rfl) b3 rfl b6 rfl (by rw[b4];rfl) rfl (.inl ⟨rfl,b5⟩) (λ_=>X.2) X
 have N:∀l,(s'.w l).busy=(s.w l).busy:=λl=>by
  by_cases e:l=j
  . subst e;rw[r,b1];rfl
  . rw[L e]
 have b9:cz P A Z s' (bo kk 0 ((kk 0).join (kk (A.b+j)))) OO J M gs'.size ((w.at d).setChan A.cF 0 #[] false (c+1) (c+1) tm) (t++kF (A.b+j) 0 A.cF c c 0 f1 Q R S):=by
  refine C.chan hI (by rw[a8,o];exact C.size) ⟨c+1,tm,by rw[pV z,if_pos rfl,F,ay]⟩ (λb E=>by rw[pV z,if_neg E]) (by rw[o];rfl) (by rw[o];rfl) (by rw[o];rfl) (by rw[o];rfl) (λl _=>?_) (λi b n v h=>?_) (ap _ _ (by omega)) (λi=>?_) (.inl F) (λop h=>⟨(i7 h).1,(i7 h).2.2.2⟩) (λi u=>.inl ?_) (λi bq hn=>?_)
  . by_cases e:l=j
    . subst e;rw[r,b7];rfl
    . rw[L e]
  . by_cases e:i=0
    . subst e
      rw[ak]at h;exact(ag.jG h).elim (λh=>⟨0,h⟩) (λh=>⟨_,h⟩)
    . rw[ap _ _ e]at h;exact⟨i,h⟩
  . rw[C.hJ i]
    unfold dW;simp only[N,F]
  . rw[o]at u;exact u
  . have a7:¬bt P A s i:=λh=>hn (by rw[o];exact h)
    rw[ap _ _ (λe=>a7 (.inl e))]
    exact C.zt i bq a7
 have hL:MS.fh A.n s' s:=by rw[o];refine qY D ?_;have e1:(aW.wv (P:=P)).bU=18:=rfl;have e2:mP.recv.bU=100:=rfl;omega
 have hS:fy A s s' (λi=>i=0\/i=A.b+j):=⟨λl _ hl=>L (λe=>hl (.inr (by omega))),λ_=>F,λh=>absurd (.inl rfl) h,by rw[o];rfl,by rw[o];rfl⟩
 refine⟨s',bo (bo f 0 ⟨_,_,_,_,U⟩) (A.b+j) ⟨_,_,_,_,W⟩,bo kk 0 ((kk 0).join (kk (A.b+j))),hL,?_⟩;refine O.Ec hu hP b9 (by omega) (λi=>i=0\/i=A.b+j) (λi u=>ho i (λe=>u (.inl e)) (λe=>u (.inr e))) (jK hZ hS (λi u=>by rw[ap _ _ (λe=>u (.inr e)),ap _ _ (λe=>u (.inl e))]) (λ_ _=>rfl) (λi u _=>ap _ _ (λe=>u (.inl e))) (λ_ _ _=>rfl) (λ_ _ _ h=>h)) (λi u=>?_)
 rcases u with rfl|rfl
 . refine⟨gm,hm,λ_=>?_,λh=>absurd h (pW (.inl G)),λh=>absurd h (kE (by rw[G];simp)),λh=>absurd (gz G) h⟩
   have bA:(0:Nat)≠A.b+j:=by omega
   rw[ap _ _ bA,ak,ak];refine⟨by show 0<A.b+A.n+1;omega,rfl,?_,rfl,rfl,U.running,by rw[bD hu];exact d0,.inl rfl,zQ⟩
   show ov P A Fin _ _=bm P A Fin s' 0;rw[lG G,B];congr 1;rw[B]at Y;omega
 . refine⟨gw,hw,λ_=>?_,λh=>absurd h (oX D (.inr r)),λh=>absurd h (ww D r),λh=>absurd (uq D r) h⟩
   rw[ak,ap _ _ (by omega)]
   refine⟨by show A.b+j<A.b+A.n+1;omega,rfl,?_,rfl,rfl,W.running,by rw[bD hu];exact dj,.inr ((C.hJ _).2 (.inl ⟨j,D,rfl,b1⟩)),J5 r⟩
   show oc P A=bm P A Fin s' (A.b+j);rw[zO D r]
end
section
variable{P:Program}{A:dk}{Fin:ag->ah->Goroutine->Prop}{Z:Base}{s s':MS P}{f f':Nat->Node P}{q q':Nat->Nat}{kk kk':Nat->ag}{OO OO':Nat->ah}{J J' M M':Nat->Prop}{gs gs':Array Goroutine}{w w':World}{t u:Trace}{j:Nat}{g g₂:Goroutine}{z v:Value}
theorem Ed{k:ag}{O:ah}{g g₂ a:Goroutine}{z y:Value}(h:cU P A k O g g₂ z)(c:cU P A k O g a y)(b:Sat k O w):a=g₂/\y=z:=by have e:=(h w b).symm.trans (c w b);simp only[GStep.comm.injEq,rcase]at e;simp at e;exact⟨e.1.symm,e.2.symm⟩
theorem BG{g g':Goroutine}{cs a:Array CommCase}{sh b:CommShape}(h:parked g cs sh=parked g' a b):(∀v,Go.Conc.served g v=Go.Conc.served g' v)/\cs=a/\sh=b/\g.frame=g'.frame:=by
 refine⟨λv=>?_,?_,?_,?_⟩
 . show Go.Conc.served (parked g cs sh) v=Go.Conc.served (parked g' a b) v;rw[h]
 . have:=congrArg (λx:Goroutine=>x.offers) h
   simp only[parked,Option.some.injEq,Prod.mk.injEq]at this;exact this.1
 . have:=congrArg (λx:Goroutine=>x.offers) h
   simp only[parked,Option.some.injEq,Prod.mk.injEq]at this;exact this.2
 . show(parked g cs sh).frame=(parked g' a b).frame;rw[h]
theorem wx{k:ag}{O:ah}{g g₂:Goroutine}{z:Value}{m:Nat}{R:List Nat}{N:ag->ah->Goroutine->Prop}(h:(ov P A Fin (m+1) R).cJ k O g N)(b:cU P A k O g g₂ z)(c:Sat k O w){j:Nat}(d:j∈R):
 ∀k' v,k.Le k'->V k' v (A.res j)->T P (ov P A Fin m (R.erase j)) gM k' O (g₂.finishComm P #[rcase A.cF z] (.recv true) 0 v true):=by
 obtain⟨_,a,y,e,i,l,f⟩:=h;obtain⟨rfl,rfl⟩:=Ed b e c;exact f j d
theorem G4{m:Nat}{R:List Nat}{k:ag}{O:ah}{g:Goroutine}{N:ag->ah->Goroutine->Prop}(h:(ov P A Fin m R).cJ k O g N):
 ∃g₂ z,cU P A k O g g₂ z/\cU P A k O g₂ g₂ z/\g₂.status=.running/\(ov P A Fin m R).cJ k O g₂ gM:=by
 cases m with
 |zero=>obtain⟨_,g₂,z,c,a,b,d⟩:=h;exact⟨g₂,z,c,a,b,rfl,g₂,z,a,a,b,d⟩
 |succ m=>obtain⟨_,g₂,z,c,a,b,d⟩:=h;exact⟨g₂,z,c,a,b,rfl,g₂,z,a,a,b,d⟩
theorem uv(a:j<A.n)(h:(s.w j).fH=false):∃m,(MS.rem P A.n s).length=m+1:=by have:j∈MS.rem P A.n s:=pU.2 ⟨a,h⟩;have:=List.length_pos_of_mem this;exact⟨(MS.rem P A.n s).length-1,by omega⟩
theorem zS(I:bs A.n s)(a:j<A.n)(h:s.w j≠.gone):s.c.dp=false:=by
 cases e:s.c with
 |gone=>exact absurd ((I.g8 (by rw[e];rfl)).2.2.2 j a) h
 |_=>rfl
theorem G5(C:A.b+A.n+1<=Z.lk)(e:bg (bM P A Fin Z C) Z s f q kk OO J M gs w t)(o:j<A.n){O:Node P}(p:s.w j=.run false O)(D:s.ms=.parked)(Q:gs[A.b+j]?=some g)
 (W:∀w,Sat (kk (A.b+j)) (OO (A.b+j)) w->stepG P false g w=.comm g₂ #[scase A.cF v z] true .send w #[]) (X:V (kk (A.b+j)) v (A.res j)) (Y:T P (oc P A) gM (kk (A.b+j)) (OO (A.b+j)) (Go.Conc.served g₂ undef)) (sl:Option (Nat × Nat)):
 Goes P A Fin Z C s gs w t sl (A.b+j):=by
 have R:cz P A Z s kk OO J M gs.size w t:=e.ex;have hb:=A.hb;have E:(A.b+j==0)=false:=by simp;omega
 obtain⟨c,tm,F⟩:=R.vq;rw[zS R.I o (by rw[p];simp)]at F
 have G:=(Array.getElem?_eq_some_iff.1 Q).1;obtain⟨_,_,_,_,_,_,hd,_⟩:=e.live _ (iZ o p);obtain⟨_,_,_,d0,gp,H,_,p5⟩:=e.held 0 (.inl ⟨rfl,D⟩);obtain⟨_,gm,S,rfl,p6,p7,U⟩|⟨l,h1,h2,_⟩:=p5
 . have a:=stand_get (i:=A.b+j) (show(0:Nat)≠A.b+j by omega) H
   have h:partners (gs.setIfInBounds (A.b+j) ph) A.cF false=[(0,0)]:=by
    rw[partners_one a (λk x hk K=>?_),offersAt_parked_recv,if_pos rfl]
    . rfl
    . rcases getElem?_stand gs (A.b+j) k x K with⟨_,rfl⟩|⟨a7,K⟩
      . exact offersAt_ph ..
      . exact rU C e K (.inr hk)
   have d:=crowd_send_meets (P:=P) (sl:=sl) Q (by rw[E];exact W w (e.bN.sat _)) F (by omega) H h
   rw[fA]at d;have r:(s.w j).fH=false:=by rw[p];rfl
   obtain⟨m,u⟩:=uv (A:=A) (s:=s) o r;rw[u]at U;have y:0<gs.size:=(Array.getElem?_eq_some_iff.1 H).1
   obtain⟨s',f',kk',hL,B⟩:=handed C e o (.inr D) (.inr ⟨O,p⟩) (by rw[p,D];rfl) (gs':=(gs.setIfInBounds 0 (gm.finishComm P #[rcase A.cF S] (.recv true) 0 v true)).setIfInBounds (A.b+j) (g₂.finishComm P #[scase A.cF v z] .send 0 undef false)) (gw:=Go.Conc.served g₂ undef) (gm:=gm.finishComm P #[rcase A.cF S] (.recv true) 0 v true) w.drawn F hd d0 (by simp)
    (by rw[Array.getElem?_setIfInBounds_self_of_lt (by simpa using G)];rfl) (by rw[Array.getElem?_setIfInBounds_ne (by omega),Array.getElem?_setIfInBounds_self_of_lt y])
    (λi L N=>by rw[Array.getElem?_setIfInBounds_ne (Ne.symm N),Array.getElem?_setIfInBounds_ne (Ne.symm L)]) X Y
    (λk' L N=>by rw[u];exact wx U p6 (e.bN.sat 0) (pU.2 ⟨o,r⟩) k' v L N) g₂.frame.fn gm.frame.fn g₂.frame.place gm.frame.place
   refine⟨_,_,d,s',f',q,kk',OO,J,M,_,_,sl,rfl,hL,?_⟩;rw[show w.at w.drawn=w from rfl]at B
   simpa[kF]using B
 . omega
theorem G6(L:A.b+A.n+1<=Z.lk)(u:bg (bM P A Fin Z L) Z s f q kk OO J M gs w t)(hm:s.ms=.recv)(hj:j<A.n)(hw:s.w j=.wait)(hg:gs[0]?=some g)
 (hs:cU P A (kk 0) (OO 0) g g₂ z){N:ag->ah->Goroutine->Prop}(ht:(ov P A Fin (MS.rem P A.n s).length (MS.rem P A.n s)).cJ (kk 0) (OO 0) g N) (sl:Option (Nat × Nat)):
 Goes P A Fin Z L s gs w t sl 0:=by
 have hE:cz P A Z s kk OO J M gs.size w t:=u.ex;have hb:=A.hb;obtain⟨c,tm,hF⟩:=hE.vq;rw[zS hE.I hj (by rw[hw];simp)]at hF
 have a7:=(Array.getElem?_eq_some_iff.1 hg).1;obtain⟨_,_,_,_,_,_,d0,_⟩:=u.live _ (gz hm)
 have h:∀{i:Nat}{x:Goroutine},gs[i]?=some x->i≠0->dz P A s i->∃a,a<A.n/\i=A.b+a/\s.w a=.wait/\∃p v o,x=parked p #[scase A.cF o v] .send/\V (kk i) o (A.res a)/\T P (oc P A) gM (kk i) (OO i) (Go.Conc.served p undef):=λ{i x} E B C=>by
  obtain⟨_,_,_,_,y,r1,r2,r3⟩:=u.held i C;rw[E]at r1;obtain rfl:=Option.some.inj r1
  rcases r3 with⟨h0,_⟩|⟨a,h1,h2,p,v,o,h3,h4,_,h5⟩
  . exact absurd h0 B
  . refine⟨a,h1,h2,?_,p,v,o,h3,h4,h5⟩
    rcases C with⟨h6,_⟩|⟨l,h6,h7,h8⟩
    . exact absurd h6 B
    . obtain rfl:l=a:=by omega
      exact h8
 obtain⟨_,_,_,_,x0,e0,_⟩:=u.held (A.b+j) (.inr ⟨j,hj,rfl,hw⟩);obtain⟨a0,_,_,_,al,av,ax,rfl,_⟩:=h e0 (by omega) (.inr ⟨j,hj,rfl,hw⟩)
 have a8:partners (gs.setIfInBounds 0 ph) A.cF true≠[]:=λe=>by
  have:(A.b+j,0)∈partners (gs.setIfInBounds 0 ph) A.cF true:=mem_partners.2 ⟨_,stand_get (by omega) e0,by rw[offersAt_parked_send,if_pos rfl];simp⟩
  rw[e]at this;cases this
 have F:∀i k,(i,k)∈partners (gs.setIfInBounds 0 ph) A.cF true->k=0/\i≠0/\∃x,gs[i]?=some x/\dz P A s i:=λi k G=>by
  obtain⟨x,E,K⟩:=mem_partners.1 G
  rcases getElem?_stand gs 0 i x E with⟨_,rfl⟩|⟨hi,E⟩
  . rw[offersAt_ph]at K;cases K
  . by_cases C:dz P A s i
    . obtain⟨a,_,_,_,p,v,o,rfl,_⟩:=h E hi C
      rw[offersAt_parked_send,if_pos rfl]at K;exact⟨by simpa using K,hi,_,E,C⟩
    . rw[u.quiet (aR (P:=P) (A:=A) (Fin:=Fin) (Z:=Z) L) E C]at K;cases K
 have O:∀i k,(i,k)∈partners (gs.setIfInBounds 0 ph) A.cF true->k=0/\i≠0/\∃p o v Q,gs[i]?=some (parked p #[scase A.cF o v] Q):=λi k G=>by obtain⟨h1,h2,x,h3,h4⟩:=F i k G;obtain⟨a,_,_,_,p,v,o,rfl,_⟩:=h h3 h2 h4;exact⟨h1,h2,p,o,v,_,h3⟩
 obtain⟨i,p,o,v,Q,d,B,H,D⟩:=crowd_recv_meets_some (P:=P) (sl:=sl) hg (show stepG P (0==0) g w=_ from hs w (u.bN.sat 0)) hF a8 O
 rw[fA]at D
 have r:dz P A s i:=Classical.byContradiction λC=>by have:=u.quiet (aR (P:=P) (A:=A) (Fin:=Fin) (Z:=Z) L) H C A.cF true;rw[offersAt_parked_send,if_pos rfl]at this;cases this
 obtain⟨a,a2,rfl,a3,ay,b0,a9,R,S,e3⟩:=h H B r;obtain⟨i1,i2,i3,i4⟩:=BG R
 have i5:o=a9:=by
  have:=congrArg (λx:Array CommCase=>x[0]?) i2
  simp[scase]at this;exact this.1
 subst i3;subst i5;obtain⟨_,_,_,dj,_⟩:=u.held _ r;have U:=(Array.getElem?_eq_some_iff.1 H).1;have W:(s.w a).fH=false:=by rw[a3];rfl
 obtain⟨m,X⟩:=uv (A:=A) (s:=s) a2 W;have Y:=ht;rw[X]at Y
 obtain⟨s',f',kk',hL,ad⟩:=handed L u a2 (.inl hm) (.inl a3) (by rw[a3,hm];rfl) (gs':=(gs.setIfInBounds (A.b+a) (p.finishComm P #[scase A.cF o v] .send 0 undef false)).setIfInBounds 0 (g₂.finishComm P #[rcase A.cF z] (.recv true) 0 o true)) (gw:=Go.Conc.served p undef) (gm:=g₂.finishComm P #[rcase A.cF z] (.recv true) 0 o true) d hF dj d0 (by simp)
  (by rw[Array.getElem?_setIfInBounds_ne (by omega),Array.getElem?_setIfInBounds_self_of_lt U];rfl) (by rw[Array.getElem?_setIfInBounds_self_of_lt (by simpa using a7)])
  (λi R S=>by rw[Array.getElem?_setIfInBounds_ne (Ne.symm R),Array.getElem?_setIfInBounds_ne (Ne.symm S)]) S (by rw[i1];exact e3)
  (λk' R S=>by rw[X];exact wx Y hs (u.bN.sat 0) (pU.2 ⟨a2,W⟩) k' o R S) p.frame.fn g₂.frame.fn p.frame.place g₂.frame.place
 refine⟨_,_,D,s',f',q,kk',OO,J,M,_,_,sl,rfl,hL,?_⟩;simpa[kF]using ad
theorem pX(a:s.ms=.parked):¬cL P A s 0:=by
 have:=A.hb;rintro(⟨_,h⟩|⟨l,b,c,d⟩|⟨h,_⟩)
 . rw[a]at h;exact h
 . omega
 . omega
theorem G8(K:A.b+A.n+1<=Z.lk)(B:bg (bM P A Fin Z K) Z s f q kk OO J M gs w t)(L:s.ms=.recv)(D:∀j,j<A.n->s.w j≠.wait)(E:s.c≠.gone)(V:gs[0]?=some g)
 (X:cU P A (kk 0) (OO 0) g g₂ z) (N:cU P A (kk 0) (OO 0) g₂ g₂ z) (Y:g₂.status=.running) (ht:(ov P A Fin (MS.rem P A.n s).length (MS.rem P A.n s)).cJ (kk 0) (OO 0) g₂ gM) (sl:Option (Nat × Nat)):
 Goes P A Fin Z K s gs w t sl 0:=by
 have d:cz P A Z s kk OO J M gs.size w t:=B.ex;have hb:=A.hb;obtain⟨c,tm,W⟩:=d.vq
 have F:s.c.dp=false:=by
  cases e:s.c.dp with
  |true=>exact absurd (oV.1 e) E
  |false=>rfl
 rw[F]at W;have O:=(Array.getElem?_eq_some_iff.1 V).1;obtain⟨_,_,_,_,_,_,d0,_⟩:=B.live _ (gz L)
 have G:∀Q∈(#[rcase A.cF z]:Array CommCase),NoWays w (gs.setIfInBounds 0 ph) Q:=λQ R=>by
  have:Q=rcase A.cF z:=by simpa using R
  subst this;exact ways_recv_none W (mp λi x _ hx=>rV K B hx (λj h1 h2=>D j h1) _)
 have p:=crowd_waits (P:=P) (sl:=sl) V (show stepG P (0==0) g w=_ from X w (B.bN.sat 0)) G
 rw[fA]at p;have S:∀i,¬(i=0)->(gs.setIfInBounds 0 (parked g₂ #[rcase A.cF z] (.recv true)))[i]?=gs[i]?:=λi C=>Array.getElem?_setIfInBounds_ne (Ne.symm C)
 have r:(gs.setIfInBounds 0 (parked g₂ #[rcase A.cF z] (.recv true)))[0]?=some (parked g₂ #[rcase A.cF z] (.recv true)):=Array.getElem?_setIfInBounds_self_of_lt O;have hP:bL Z kk OO J M w (t++#[]):=by rw[mq];exact B.bN
 obtain⟨s',a⟩:∃s',s'=s.pT .parked s.gc:=⟨_,rfl⟩;have k:s'.ms=.parked:=by rw[a];rfl
 have m:s'.w=s.w:=by rw[a];rfl
 have o:s'.c=s.c:=by rw[a];rfl
 have u:=d.I.ms;rw[L]at u
 have hI:bs A.n s':=by rw[a];exact⟨by have:=d.I.g1;rw[L]at this;exact this,d.I.g2,d.I.pP,d.I.g3,d.I.pf,d.I.g4,d.I.g5,d.I.g6,d.I.g7,d.I.g8,d.I.g9,d.I.ok,d.I.LO,d.I.sp,d.I.idle,⟨u.1,u.2,E,D⟩,d.I.early,d.I.mu⟩
 have T:cz P A Z s' kk OO J M (gs.setIfInBounds 0 (parked g₂ #[rcase A.cF z] (.recv true))).size w (t++#[]):=by
  refine d.chan hI (by rw[Array.size_setIfInBounds,a];exact d.size) (by rw[o];exact d.vq) (λ_ _=>rfl) (by rw[a];rfl) (by rw[a];rfl) (by rw[a];rfl) (by rw[a];rfl) (λl _=>by rw[m]) (λi b n v h=>⟨i,h⟩) rfl (λi=>?_) (.inl o) (λop h=>by simp at h) (λi C=>.inl ?_) (λi U hn=>d.zt i U λh=>hn ?_)
  . rw[d.hJ i]
    unfold dW;rw[m,o]
  . rw[a]at C;exact C
  . rw[a];exact h
 have hL:MS.fh A.n s' s:=by
  refine .inl ?_;rw[a];show mP.parked.bU+sumTo A.n (λi=>(s.w i).bU)+s.c.bU s.gc<s.ms.bU+sumTo A.n (λi=>(s.w i).bU)+s.c.bU s.gc
  rw[L];have e1:mP.parked.bU=99:=rfl;have e2:mP.recv.bU=100:=rfl;omega
 have H:MS.rem P A.n s'=MS.rem P A.n s:=BF λl _=>by rw[m]
 have hS:fy A s s' (λi=>i=0):=⟨λl _ hl=>by rw[m],λ_=>o,λh=>absurd rfl h,by rw[a];rfl,by rw[a];rfl⟩
 refine⟨_,_,p,s',f,q,kk,OO,J,M,_,_,_,rfl,hL,?_⟩;refine B.Ec zP hP T (by simp) (λi=>i=0) S (jK K hS (λ_ _=>rfl) (λ_ _=>rfl) (λ_ _ _=>rfl) (λ_ _ _=>rfl) (λ_ _ _ h=>h)) (λi C=>?_)
 subst C;have y:dz P A s' 0:=.inl ⟨rfl,k⟩;refine⟨_,r,λh=>absurd h (pX k),λh=>absurd h (pW (.inr k)),λ_=>⟨pX k,pW (.inr k),?_,by rw[mq];exact d0,rfl,.inl ⟨rfl,g₂,z,rfl,N,Y,by rw[H];exact ht⟩⟩,λ_ _ h=>absurd y h⟩
 show 0<A.b+A.n+1;omega
end
def fW(c:Nat):Array Event:=#[⟨.obj c,false,true⟩,⟨.obj c,true,true⟩]
theorem kG(i:Nat)(fn:FuncId)(pos:String)(c:Nat):MemOp.ofEvents i fn pos (fW c)=#[{g:=i,fn:=fn,pos:=pos,act:=.access ⟨.obj c,false,true⟩},{g:=i,fn:=fn,pos:=pos,act:=.close c}]:=by rw[ofEvents_eq];simp[fW,MemAct.ofEvent]
theorem dX{i:Nat}{fn:FuncId}{pos:String}{c:Nat}{op:MemOp}(h:op∈MemOp.ofEvents i fn pos (fW c)):op.g=i/\(op.act≠.mark .disable/\op.act≠.mark .enable)/\(∀a,op.act.touch?=some a->a.loc=.obj c/\a.kind=.atomic)/\(∀B,c<B->op.act.low B)/\∀a,op.act≠.mark (.release a):=by
 rw[kG]at h;simp only[List.mem_toArray,List.mem_cons,List.not_mem_nil,or_false]at h;rcases h with rfl|rfl
 . exact⟨rfl,⟨by simp,by simp⟩,λa b=>by simp only[MemAct.touch?,Option.some.injEq]at b;subst b;exact⟨rfl,rfl⟩,λB d=>d,by simp⟩
 . exact⟨rfl,⟨by simp,by simp⟩,λa b=>(by cases b),λB d=>d,by simp⟩
section
variable{P:Program}{A:dk}{Fin:ag->ah->Goroutine->Prop}{Z:Base}{s s':MS P}{f f':Nat->Node P}{q q':Nat->Nat}{kk kk':Nat->ag}{OO OO':Nat->ah}{J J' M M':Nat->Prop}{gs gs':Array Goroutine}{w w':World}{t u:Trace}{j:Nat}{g g₂:Goroutine}{z v:Value}
theorem cU.again{k:ag}{O:ah}{g g₂:Goroutine}{z b:Value}(h:cU P A k O g g₂ z)(a:g.status=.running)(sh:CommShape):cU P A k O {parked g #[rcase A.cF b] sh with status:=.running} g₂ z:=λw c=>by
 rw[stepG_tries];have:({g with status:=.running}:Goroutine)=g:=by cases g;simp only at a;subst a;rfl
 rw[this];exact h w c
theorem Ee{m:Nat}{R:List Nat}{k:ag}{O:ah}{g:Goroutine}{z:Value}{sh:CommShape}{N:ag->ah->Goroutine->Prop}(h:(ov P A Fin m R).cJ k O g N)(e:g.status=.running):
 T P (ov P A Fin m R) gM k O {parked g #[rcase A.cF z] sh with status:=.running}:=by
 refine .cJ gM rfl ?_ (λ_ _ _ h=>h.elim);cases m with
 |zero=>obtain⟨_,g₂,y,a,b,c,d⟩:=h;exact⟨rfl,g₂,y,a.again e sh,b,c,d⟩
 |succ m=>obtain⟨_,g₂,y,a,b,c,d⟩:=h;exact⟨rfl,g₂,y,a.again e sh,b,c,d⟩
theorem bL.shut(h:bL Z kk OO J M w t){i c:Nat}{x:Nat}{tm:Bool}(L:∀l,J l->l=i)(A:∀p,¬M p)(z:w.heap[c]?=some (.chan 0 #[] false x x tm))(G:∀l,OO l c=none)(B:∀n b,touchAt t n=some b->b.loc=.obj c->b.kind=.plain->Knows t i n)(H:Z.W0.heap.size<=c)(fn:FuncId)(pos:String):
 bL Z kk OO (λ_=>False) (λp=>p=t.size+1) {w with heap:=w.heap.setIfInBounds c (.chan 0 #[] true x x tm)} (t++MemOp.ofEvents i fn pos (fW c)):=by
 have r:c<w.heap.size:=(Array.getElem?_eq_some_iff.1 z).1;have q:(MemOp.ofEvents i fn pos (fW c))[1]?=some {g:=i,fn:=fn,pos:=pos,act:=.close c}:=by rw[kG];rfl
 have f:∀b,(w.heap.setIfInBounds c (.chan 0 #[] true x x tm))[b]?=if b=c then some (.chan 0 #[] true x x tm)else w.heap[b]?:=λb=>by
  by_cases k:b=c
  . subst k;rw[if_pos rfl];exact Array.getElem?_setIfInBounds_self_of_lt r
  . rw[if_neg k];exact Array.getElem?_setIfInBounds_ne (Ne.symm k)
 refine h.qF (λa b=>a=b) (by simp) ⟨⟨.refl _,rfl⟩,λb hb=>by show(w.heap.setIfInBounds c (.chan 0 #[] true x x tm))[b]?=_;rw[f,if_neg (by omega)]⟩ (λb=>?_) (λop d=>(dX d).2.2.2.1 _ r) (λa b e n y _ _ _ N=>by subst e;exact N.app _) (λj b n v h=>⟨j,rfl,h⟩) (λj b s h=>⟨j,rfl,h⟩) (λj b x h=>⟨j,rfl,h,λ_ h=>h⟩) h.gY
  (λsaid=>noRace_append (h.clean said) (λop d=>(dX d).1) λn a u op d b hb z=>?_) (λop d a u I=>?_) (λm op a d u I=>?_) (λn a u I O=>?_)
 . show Kept kk OO w _ b
   unfold Kept;rw[f];by_cases k:b=c
   . subst k
     exact .inr (.inl ⟨⟨_,_,_,_,_,_,z⟩,⟨_,_,_,_,_,_,by rw[f,if_pos rfl]⟩,G⟩)
   . rw[if_neg k];exact .inl rfl
 . obtain⟨C,D⟩:=(dX d).2.2.1 b hb
   obtain⟨P,_,_,c4⟩:=z;rcases c4 with c4|c4|⟨_,_,c4⟩
   . exact B n a u (P.trans C) c4
   . rw[D]at c4;cases c4
   . rw[D]at c4;cases c4
 . obtain⟨C,D⟩:=(dX d).2.2.1 a u
   rw[C];exact⟨r,λl o K=>by rw[G l]at K;cases K⟩
 . refine .inr (.inr (.inl ⟨t.size+1,rfl,?_⟩))
   have E:m=0:=by
    rw[kG]at d
    match m,d with
    |0,_=>rfl
    |1,d=>simp at d;subst d;simp[MemAct.touch?]at u
    |m+2,d=>simp at d
   subst E;exact .inr (hb_po (by omega) (cC (m:=0) d) (cC (m:=1) q) (dX (Array.mem_of_getElem? d)).1)
 . rcases O with⟨l,F,Q⟩|⟨p,F,_⟩
   . obtain rfl:=L l F
     exact .inr (.inr (.inl ⟨t.size+1,rfl,jT (m:=1) Q q rfl⟩))
   . exact absurd F (A p)
theorem Ha(hZ:A.b+A.n+1<=Z.lk)(Y:bg (bM P A Fin Z hZ) Z s f q kk OO J M gs w t)(K:s.c=.iX)(hg:gs[A.b+A.n]?=some g){N:ag->ah->Goroutine->Prop}(ht:(oU P A).cJ (kk (A.b+A.n)) (OO (A.b+A.n)) g N)(sl:Option (Nat × Nat)):
 Goes P A Fin Z hZ s gs w t sl (A.b+A.n):=by
 have d:cz P A Z s kk OO J M gs.size w t:=Y.ex;have hb:=A.hb;obtain⟨rfl,g',nq,b2,hs,hq⟩:=ht;obtain⟨x,tm,hF⟩:=d.vq;have b3:s.c.dp=false:=by rw[K];rfl
 rw[b3]at hF;obtain⟨c0,v0,m0,B⟩:=d.I.g8 (by rw[K];rfl)
 have U:s.sp=A.n/\(s.ms=.recv\/s.ms=.parked):=by
  have:=d.I.ms;cases e:s.ms with
  |recv=>rw[e]at this;exact⟨this.1,.inl rfl⟩
  |parked=>rw[e]at this;exact⟨this.1,.inr rfl⟩
  |add l=>rw[e]at this;rw[K]at this;cases this.2
  |bb l p=>rw[e]at this;rw[K]at this;cases this.2.1
  |spawn l=>rw[e]at this;rw[K]at this;cases this.2
 have b4:=(Array.getElem?_eq_some_iff.1 hg).1;obtain⟨_,_,_,_,_,_,hd,_⟩:=Y.live _ (qV (.inl K));have b5:(A.b+A.n==0)=false:=by simp;omega
 have b6:A.cF<w.heap.size:=(Array.getElem?_eq_some_iff.1 hF).1;have L:=runT_crowd_go (P:=P) (sl:=sl) (i:=A.b+A.n) hg (by rw[b5];exact hs w x x tm (Y.bN.sat _) hF)
 obtain⟨w',al⟩:∃w',w'={w with heap:=w.heap.setIfInBounds A.cF (.chan 0 #[] true x x tm)}:=⟨_,rfl⟩
 have hP:=Y.bN.shut (i:=A.b+A.n) (c:=A.cF) (x:=x) (tm:=tm) (λl R=>by
  rcases(d.hJ l).1 R with⟨j,C,E,r⟩|⟨C,_⟩
  . rw[B j C]at r;cases r
  . exact C) (λp hp=>by
  obtain⟨_,_,r⟩:=d.hM p hp
  rcases r with⟨_,r⟩|⟨r,_⟩
  . rw[K]at r;rcases r with r|r|⟨_,r⟩<;>cases r
  . rw[K]at r;cases r) hF (λl=>(d.ew l).1) (λn b hb R O=>d.quiet n b hb (by rw[R];rfl) O _ (C4 (by rw[K];simp))) d.dA.1 g.frame.fn g.frame.place
 rw[<-al]at L hP
 change runT P (crowd gs w sl) (A.b+A.n)=(_,MemOp.ofEvents (A.b+A.n) g.frame.fn g.frame.place (fW A.cF))at L
 have hu:jS (MemOp.ofEvents (A.b+A.n) g.frame.fn g.frame.place (fW A.cF)):=λop h=>(dX h).2.1
 have v:∀b,w'.heap[b]?=if b=A.cF then some (.chan 0 #[] true x x tm)else w.heap[b]?:=λb=>by
  rw[al]
  by_cases a8:b=A.cF
  . subst a8;rw[if_pos rfl];exact Array.getElem?_setIfInBounds_self_of_lt b6
  . rw[if_neg a8];exact Array.getElem?_setIfInBounds_ne (Ne.symm a8)
 have av:g'.status≠.blocked/\g'.status≠.waiting:=by rcases hq.status with h|h<;>rw[h]<;>simp
 have b7:∀o,woken P g g' w' o=o.again w':=λo=>by unfold Go.Conc.woken;rw[if_pos];simp[b2,av.1,av.2]
 have V:∀i o,gs[i]?=some o->i≠0->i≠A.b+A.n->woken P g g' w' o=o:=λi o ho S hn=>by
  have nl:¬cL P A s i:=by
   rintro(⟨e,_⟩|⟨l,C,E,r⟩|⟨e,_⟩)
   . exact S e
   . rw[B l C]at r;exact r
   . exact hn e
  have nw:¬dV P A s i:=by
   rintro(⟨e,_⟩|⟨l,C,E,r⟩|⟨e,_⟩)
   . exact S e
   . rw[B l C]at r;exact r
   . exact hn e
  have nh:¬dz P A s i:=by
   rintro(⟨e,_⟩|⟨l,C,E,r⟩)
   . exact S e
   . rw[B l C]at r;cases r
  exact woken_quitsD (Y.rest i o ho nl nw nh).2
 have b8:∀i,¬(i=0\/i=A.b+A.n)->((gs.map (woken P g g' w')).setIfInBounds (A.b+A.n) g')[i]?=gs[i]?:=λi D=>by
  rw[Array.getElem?_setIfInBounds_ne (λe=>D (.inr e.symm)),Array.getElem?_map]
  cases hg:gs[i]? with
  |none=>rfl
  |some o=>simp only[Option.map_some,V i o hg (λe=>D (.inl e)) (λe=>D (.inr e))]
 have a9:((gs.map (woken P g g' w')).setIfInBounds (A.b+A.n) g')[A.b+A.n]?=some g':=Array.getElem?_setIfInBounds_self_of_lt (by simpa using b4)
 obtain⟨s',u⟩:∃s':MS P,s'={s with c:=.gone,ms:=.recv}:=⟨_,rfl⟩
 have W:s'.ms=.recv:=by rw[u]
 have G:s'.w=s.w:=by rw[u]
 have F:s'.c=.gone:=by rw[u]
 have ax:MS.rem P A.n s'=MS.rem P A.n s:=BF λl _=>by rw[G]
 obtain⟨d0,g0,b9,tr,_⟩:Deaf t 0=0/\∃g0,((gs.map (woken P g g' w')).setIfInBounds (A.b+A.n) g')[0]?=some g0/\∃tr:TT P (ov P A Fin (MS.rem P A.n s).length (MS.rem P A.n s)) (kk 0) (OO 0) g0,True:=by
  rw[Array.getElem?_setIfInBounds_ne (by omega),Array.getElem?_map]
  rcases U.2 with hm|hm
  . obtain⟨_,p1,pm,pk,pO,p2,p3,_⟩:=Y.live 0 (gz hm)
    have pm:(f 0).m=bm P A Fin s 0:=pm;rw[lG hm]at pm;refine⟨p3,(f 0).g,by rw[p1,Option.map_some,woken_run p2],?_⟩
    rw[<-pm,<-pk,<-pO];exact⟨(f 0).t,trivial⟩
  . obtain⟨_,_,_,p3,gp,p4,_,p5⟩:=Y.held 0 (.inl ⟨rfl,hm⟩)
    rcases p5 with⟨_,gm,zm,rfl,p6,p7,p8⟩|⟨l,C,E,_⟩
    . rw[p4]
      refine⟨p3,_,rfl,?_⟩;rw[b7,again_recv_closed (by rw[v,if_pos rfl])]
      obtain⟨tr⟩:=T.tree (uu (P:=P) (A:=A) (Fin:=Fin) _ _) (Ee (z:=zm) (sh:=.recv true) p8 p7);exact⟨tr,trivial⟩
    . omega
 have hI:bs A.n s':=by
  rw[u];refine⟨?_,d.I.g2,λh=>(by have h:s.gv=1:=h;omega),d.I.g3,d.I.pf,λi D h=>(by have h:s.w i=.dn .d7:=h;rw[B i D]at h;cases h),⟨d.I.g5.1,λh=>(by have h:s.gm=1:=h;omega)⟩,λh=>(by cases h),d.I.g7,λ_=>⟨c0,v0,m0,B⟩,λk h=>(by cases h),d.I.ok,rfl,d.I.sp,d.I.idle,⟨U.1,by simp⟩,λh=>(by cases h),d.I.mu⟩
  have:=d.I.g1;show s.gc=sumTo A.n (λj=>(s.w j).cnt)+mP.recv.pend
  rcases U.2 with e|e<;>rw[e]at this<;>exact this
 have a7:(MemOp.ofEvents (A.b+A.n) g.frame.fn g.frame.place (fW A.cF))[1]?=some {g:=A.b+A.n,fn:=g.frame.fn,pos:=g.frame.place,act:=.close A.cF}:=by rw[kG];rfl
 have Q:(t++MemOp.ofEvents (A.b+A.n) g.frame.fn g.frame.place (fW A.cF)).act? (t.size+1)=some (.close A.cF)/\(t++MemOp.ofEvents (A.b+A.n) g.frame.fn g.frame.place (fW A.cF)).heard (t.size+1):=⟨act?_of (cC (m:=1) a7),heard_new (m:=1) hu a7 hd⟩
 have ay:∀i,bt P A s' i->bt P A s i:=λi D=>by
  rcases D with S|⟨j,C,E⟩|⟨C,E⟩
  . exact .inl S
  . exact .inr (.inl ⟨j,by rw[u]at C;exact C,E⟩)
  . exact .inr (.inr ⟨C,by rw[K];simp⟩)
 have b0:∀i,bt P A s i->bt P A s' i:=λi D=>by
  rcases D with S|⟨j,C,E⟩|⟨C,E⟩
  . exact .inl S
  . exact .inr (.inl ⟨j,by rw[u];exact C,E⟩)
  . exact .inr (.inr ⟨C,by rw[F];simp⟩)
 have b1:∀op∈MemOp.ofEvents (A.b+A.n) g.frame.fn g.frame.place (fW A.cF),∀a,op.act.touch?=some a->a.kind=.atomic:=λop H a X=>((dX H).2.2.1 a X).2
 have bq:cz P A Z s' kk OO (λ_=>False) (λp=>p=t.size+1) ((gs.map (woken P g g' w')).setIfInBounds (A.b+A.n) g').size w' (t++MemOp.ofEvents (A.b+A.n) g.frame.fn g.frame.place (fW A.cF)):=by
  refine⟨hI,?_,⟨x,tm,by rw[v,if_pos rfl,F];rfl⟩,?_,?_,?_,?_,d.ew,d.dg,λi y hy=>?_,λl R ad=>d.ug l R (by rw[<-G];exact ad),λad=>d.GN λl R=>by rw[<-G];exact ad l R,λc hc=>?_,λi=>?_,λp hp=>?_,λ_=>⟨t.size+1,rfl,Q⟩,λm a X hs O i D=>d.hQ _ (λop H a X _ O=>by rw[b1 op H a X]at O;cases O) m a X hs O i (ay i D),λm a X hs O=>?_,λi D=>d.mh _ i (ay i D),d.fQ _ (λop H=>(dX H).2.2.2.2),λi bA hn=>d.zt i bA λh=>hn (b0 i h),d.oO,d.iB,d.dA,d.la,by simp;exact Nat.le_trans d.n0 (Nat.le_add_right _ _)⟩
  . have:=d.size
    rw[K]at this;rw[F];simp only[Array.size_setIfInBounds,Array.size_map,iv.isNone]at this ⊢;rw[u];exact this
  . rw[show s'.sh=s.sh by rw[u]];exact d.mu.same (.of_heap (by rw[v,if_neg (Ne.symm A.d1)]))
  . rw[show s'.gc=s.gc by rw[u],show s'.gv=s.gv by rw[u],show s'.gm=s.gm by rw[u]];exact d.gr.same (.of_heap (by rw[v,if_neg (Ne.symm A.d2)]))
  . rw[v,if_neg (Ne.symm A.d1)];exact d.rR
  . rw[v,if_neg (Ne.symm A.d2)];exact d.vH
  . rw[G];exact d.tok i y hy
  . rw[G];exact d.FK c hc
  . refine⟨λh=>h.elim,?_⟩
    rintro(⟨j,C,E,r⟩|⟨C,E⟩)
    . rw[G,B j C]at r;cases r
    . rw[F]at E;cases E
  . subst hp
    exact⟨Q.2,by have:=d.n0;omega,.inr ⟨F,Q.1⟩⟩
  . have S:=d.kA _ (λop H a X _ O=>by rw[b1 op H a X]at O;cases O) m a X hs O
    rw[K]at S;rw[F];exact S
 have hL:MS.fh A.n s' s:=by
  refine .inl ?_;rw[u];show mP.recv.bU+sumTo A.n (λi=>(s.w i).bU)+iv.gone.bU s.gc<s.ms.bU+sumTo A.n (λi=>(s.w i).bU)+s.c.bU s.gc
  rw[K];have e2:mP.recv.bU=100:=rfl;have e3:iv.gone.bU s.gc=0:=rfl;have e4:iv.iX.bU s.gc=3:=rfl;have e5:99<=s.ms.bU:=by rcases U.2 with e|e<;>rw[e]<;>simp[mP.bU]
  omega
 have hS:fy A s s' (λi=>i=0\/i=A.b+A.n):=⟨λl _ R=>by rw[G],λh=>absurd (.inr rfl) h,λh=>absurd (.inl rfl) h,by rw[u],by rw[u]⟩
 refine⟨_,_,L,s',bo f 0 ⟨_,_,_,_,tr⟩,upd q (A.b+A.n) nq,kk,OO,λ_=>False,(λp=>p=t.size+1),_,_,_,rfl,hL,?_⟩
 refine Y.Ec hu hP bq (by simp) (λi=>i=0\/i=A.b+A.n) b8 (jK hZ hS (λi D=>ap _ _ (λe=>D (.inl e))) (λi D=>upd_ne q nq (λe=>D (.inr e))) (λ_ _ _=>rfl) (λ_ _ _=>rfl) (λi D R _=>?_)) (λi D=>?_)
 . rcases R with⟨e,_⟩|⟨l,C,E,r⟩|⟨e,_⟩
   . exact absurd (.inl e) D
   . rw[B l C]at r;exact r.elim
   . exact absurd (.inr e) D
 . rcases D with rfl|rfl
   . refine⟨g0,b9,λ_=>?_,λh=>absurd h (pW (.inl W)),λh=>absurd h (kE (by rw[W];simp)),λh=>absurd (gz W) h⟩
     rw[ak];refine⟨by show 0<A.b+A.n+1;omega,rfl,?_,rfl,rfl,tr.running,by rw[bD hu];exact d0,.inl rfl,zQ⟩
     show ov P A Fin _ _=bm P A Fin s' 0;rw[lG W,ax]
   . refine⟨g',a9,λh=>absurd h ?_,λh=>absurd h ?_,λh=>absurd h pS,λ_ _ _=>⟨by omega,by rw[upd_same,bD hu,hd];exact hq⟩⟩
     . rintro(⟨e,_⟩|⟨l,C,E,r⟩|⟨_,r⟩)
       . omega
       . omega
       . rw[F]at r;exact r
     . rintro(⟨e,_⟩|⟨l,C,E,r⟩|⟨_,r⟩)
       . omega
       . omega
       . rw[F]at r;exact r
end
section
variable{P:Program}{A:dk}{Fin:ag->ah->Goroutine->Prop}{Z:Base}{s s':MS P}{f f':Nat->Node P}{q q':Nat->Nat}{kk kk':Nat->ag}{OO OO':Nat->ah}{J J' M M':Nat->Prop}{gs gs':Array Goroutine}{w w':World}{t u:Trace}{j:Nat}{g g₂:Goroutine}{z v:Value}
theorem pY{w:World}{b i:Nat}{c:Array Value}{e:TypeId}{v:Value}(h:w.heap[b]?=some (.cells c e (0,0)))(a:w.cell? ⟨b,i,none⟩=some v):c[i]?=some v:=by simpa[World.cell?,h]using a
theorem zT{w:World}{b:Nat}{c:Array Value}{e:TypeId}(h:w.heap[b]?=some (.cells c e (0,0))):w.shape? b=some (e,c.size):=by simp[World.shape?,h]
theorem LY(hZ:A.b+A.n+1<=Z.lk)(B:bg (bM P A Fin Z hZ) Z s f q kk OO J M gs w t)(hm:s.ms=.recv)(Y:s.c=.gone)(hg:gs[0]?=some g){N:ag->ah->Goroutine->Prop}(ht:(ov P A Fin (MS.rem P A.n s).length (MS.rem P A.n s)).cJ (kk 0) (OO 0) g N)(sl:Option (Nat × Nat)):
 ∃ops m',runT P (crowd gs w sl) 0=(.next m',ops)/\∃gs' w' b3 k' O' g',m'=crowd gs' w' b3/\dE P Z.W0 k' O' g' gs' w' (t++ops)/\Fin k' O' g':=by
 have C:cz P A Z s kk OO J M gs.size w t:=B.ex;have hb:=A.hb;have F:(0:Nat)≠Z.lk:=by omega
 obtain⟨c0,v0,m0,d⟩:=C.I.g8 (by rw[Y];rfl)
 obtain⟨xs,tm,hF⟩:=C.vq;rw[show s.c.dp=true by rw[Y];rfl]at hF
 have a7:MS.rem P A.n s=[]:=by
  cases hr:MS.rem P A.n s with
  |nil=>rfl
  | cons a l=>
    have:a∈MS.rem P A.n s:=by rw[hr];simp
    obtain⟨e1,e2⟩:=pU.1 this;rw[d a e1]at e2;cases e2
 rw[a7]at ht;obtain⟨_,g₂,z,e1,_,e3,⟨es,a8⟩,e4⟩:=ht;have b4:=(Array.getElem?_eq_some_iff.1 hg).1;obtain⟨_,_,_,_,_,_,d0,_⟩:=B.live _ (gz hm);have T:=crowd_recv_closed (P:=P) (sl:=sl) hg (show stepG P (0==0) g w=_ from e1 w (B.bN.sat 0)) hF (mp λi x _ hx=>rV hZ B hx (λj D L h3=>by rw[d j D]at h3;cases h3) _)
 rw[fA]at T;obtain⟨u,U⟩:∃u:Trace,u=#[{g:=0,fn:=g₂.frame.fn,pos:=g₂.frame.place,act:=.recvClosed A.cF}]:=⟨_,rfl⟩;have V:runT P (crowd gs w sl) 0=(.next (crowd (gs.setIfInBounds 0 (g₂.finishComm P #[rcase A.cF z] (.recv true) 0 z false)) w sl),u):=by rw[T,U];simp
 have b5:A.cF<w.heap.size:=(Array.getElem?_eq_some_iff.1 hF).1;have G:∀op∈u,op={g:=0,fn:=g₂.frame.fn,pos:=g₂.frame.place,act:=.recvClosed A.cF}:=λop h=>by rw[U]at h;simpa using h
 have hu:jS u:=λop h=>by rw[G op h];exact⟨by simp,by simp⟩
 have b6:u[0]?=some {g:=0,fn:=g₂.frame.fn,pos:=g₂.frame.place,act:=.recvClosed A.cF}:=by rw[U];rfl
 have Q:∀op∈u,op.act.touch?=none:=λop h=>by rw[G op h];rfl
 have a9:∀i,¬J i:=λi hi=>by
  rcases(C.hJ i).1 hi with⟨a,R,a2,o⟩|⟨_,o⟩
  . rw[d a R]at o;cases o
  . rw[Y]at o;cases o
 have al:∀p n,M p->Before t n p->Knows (t++u) 0 n:=λp n hp hk=>by
  obtain⟨R,_,o⟩:=C.hM p hp
  rcases o with⟨_,a4⟩|⟨_,a4⟩
  . rw[Y]at a4;rcases a4 with a4|a4|⟨_,a4⟩<;>cases a4
  . exact xP (t:=t) hu (m:=0) (y:={g:=0,fn:=g₂.frame.fn,pos:=g₂.frame.place,act:=.recvClosed A.cF}) b6 a4 R rfl d0 hk
 have H:∀n a,touchAt t n=some a->a.loc.isMemory=true -> ¬Z.Shun a.loc->Knows (t++u) 0 n:=λn a O hm hz=>by
  rcases B.bN.acc n a O hm with h|⟨j,hj,_⟩|⟨p,hp,h⟩|⟨h,_⟩
  . exact h.app u
  . exact absurd hj (a9 j)
  . exact al p n hp h
  . exact absurd h hz
 obtain⟨x,a,hx,b7,b8⟩:=C.GN λj hj=>by rw[d j hj];rfl
 have cl:∀c,OO Z.lk c≠none->c=A.mb:=λc h=>(C.FK c h).1
 have av:∀i,OO i A.fb=none:=λi=>by
  cases e:OO i A.fb with
  |none=>rfl
  |some y=>obtain⟨j,_,D,_,L,_⟩:=C.tok i y e;rw[d j D]at L;cases L
 have b9:bL Z (bo kk 0 ((kk 0).join (kk Z.lk))) (bo (bo OO 0 ((OO 0).set A.mb x)) Z.lk ah.bot) (λ_=>False) (λ_=>False) w (t++u):=by
  have S:∀j b y,bo (bo OO 0 ((OO 0).set A.mb x)) Z.lk ah.bot j b=some y->(j≠Z.lk/\OO j b=some y/\¬(j=0/\b=A.mb))\/(j=0/\b=A.mb/\y=x):=λj b y r=>by
   by_cases e:j=Z.lk
   . subst e;rw[ak]at r;cases r
   . rw [ap _ _ e]at r
     by_cases e0:j=0
     . subst e0
       rw[ak]at r
       by_cases eb:b=A.mb
       . subst eb
         simp only[ah.set,if_true,Option.some.injEq]at r;exact .inr ⟨rfl,rfl,r.symm⟩
       . simp only[ah.set,if_neg eb]at r
         exact .inl ⟨e,r,λh=>eb h.2⟩
     . rw[ap _ _ e0]at r
       exact .inl ⟨e,r,λh=>e0 h.1⟩
  refine B.bN.qF (λa b=>a=b\/(a=Z.lk/\b=0)) rfl ⟨⟨.refl _,rfl⟩,λ_ _=>rfl⟩ (λb=>.inl rfl) (λop h=>by rw[G op h];exact b5) (λi j e n y r ax hz bq=>?_) (λj b n v k=>?_) (λj b s k=>?_) (λj b y r=>?_) (λi j b y ay r=>?_)
   (λsaid=>noRace_appendMute (B.bN.clean said) Q) (λop K a O=>by rw[Q op K]at O;cases O) (λm op a K O=>by rw[Q op (Array.mem_of_getElem? K)]at O;cases O) (λn a O ax h=>?_)
  . rcases e with rfl|⟨rfl,rfl⟩
    . exact bq.app u
    . exact(l9 F).2 (H n y r ax hz)
  . by_cases e:j=0
    . subst e
      rw[ak]at k
      rcases ag.jG k with k|k
      . exact⟨_,.inl rfl,k⟩
      . exact⟨Z.lk,.inr ⟨rfl,rfl⟩,k⟩
    . rw[ap _ _ e]at k;exact⟨j,.inl rfl,k⟩
  . by_cases e:j=0
    . subst e
      rw[ak]at k
      rcases ag.xN k with k|k
      . exact⟨_,.inl rfl,k⟩
      . exact⟨Z.lk,.inr ⟨rfl,rfl⟩,k⟩
    . rw[ap _ _ e]at k;exact⟨j,.inl rfl,k⟩
  . rcases S j b y r with⟨D,L,h3⟩|⟨rfl,rfl,rfl⟩
    . refine⟨j,.inl rfl,L,λs hs=>?_⟩
      by_cases e:j=0
      . subst e;rw[ak];exact(ag.kv _ _).sh b s hs
      . rw[ap _ _ e];exact hs
    . refine⟨Z.lk,.inr ⟨rfl,rfl⟩,hx,λs hs=>?_⟩
      rw[ak];exact(ag.m5 (B.bN.sat 0) (B.bN.sat Z.lk)).sh _ s hs
  . cases q:bo (bo OO 0 ((OO 0).set A.mb x)) Z.lk ah.bot j b with
    |none=>rfl
    | some y'=>
      rcases S i b y r with⟨D,L,h3⟩|⟨rfl,rfl,rfl⟩
      . rcases S j b y' q with⟨k1,k2,k3⟩|⟨rfl,rfl,rfl⟩
        . have:=B.bN.gY i j b y ay L
          rw[k2]at this;cases this
        . have:=B.bN.gY i Z.lk _ y D L
          rw[hx]at this;cases this
      . rcases S j A.mb y' q with⟨k1,k2,k3⟩|⟨rfl,_,_⟩
        . have:=B.bN.gY j Z.lk _ y' k1 k2
          rw[hx]at this;cases this
        . exact absurd rfl ay
  . rcases h with⟨j,D,_⟩|⟨p,D,L⟩
    . exact absurd D (a9 j)
    . exact .inl (al p n D L)
 obtain⟨bA,bB⟩:=C.I.mu.rest λi hi=>by rw[d i hi];rfl
 obtain⟨cc,ce,E⟩:=C.rR
 have b0:es=(ce,cc.size):=by have:=(B.bN.sat 0).sh _ _ a8;rw[zT E]at this;exact(Option.some.inj this).symm
 have c5:cc[A.fo]?=some (.int .i32 0):=by have:=C.mu.cw;rw[bA]at this;exact pY E this
 have c6:cc[A.fo+1]?=some (.int .u32 0):=by have:=C.mu.cs;rw[bB]at this;exact pY E this
 have W:∀n v,br A.fo n=some v->(n=A.fo\/n=A.fo+1)/\cc[n]?=some v:=λn v k=>by
  unfold br at k;split at k
  . rename_i e;subst e;rw[<-k];exact⟨.inl rfl,c5⟩
  . split at k
    . rename_i e;subst e;rw[<-k];exact⟨.inr rfl,c6⟩
    . cases k
 have b1:∀n,br A.fo n≠none->(n=A.fo\/n=A.fo+1):=λn hn=>by
  cases e:br A.fo n with
  |none=>exact absurd e hn
  |some v=>exact(W n v e).1
 have X:∀i n,(n=A.fo\/n=A.fo+1)->(bo kk 0 ((kk 0).join (kk Z.lk)) i).cell A.fb n=none:=λi n hn=>by
  have hk:∀l,(kk l).cell A.fb n=none:=λl=>by rcases hn with h|h<;>rw[h]<;>first|exact(C.dg l).1|exact(C.dg l).2.1
  cases e:(bo kk 0 ((kk 0).join (kk Z.lk)) i).cell A.fb n with
  |none=>rfl
  | some v=>
    by_cases ei:i=0
    . subst ei
      rw[ak]at e
      rcases ag.jG e with e|e<;>rw[hk]at e<;>cases e
    . rw[ap _ _ ei,hk]at e;cases e
 have c7:=b9.Pq F (b:=A.fb) (f:=br A.fo) (λi=>?_) (λn v k i=>X i n (W n v k).1) (λad c8 hf=>C.iB ad ⟨c8,b1 _ hf⟩) ⟨cc,ce,E,?_,λn v k=>(W n v k).2⟩ (λm a ad O hl ca hf=>?_) C.dA.2.1
 . obtain⟨g1,b2⟩:∃g1,g1=g₂.finishComm P #[rcase A.cF z] (.recv true) 0 z false:=⟨_,rfl⟩
   have cb:∀i,0<i -> ¬cL P A s i/\¬dV P A s i/\¬dz P A s i:=λi hi=>by
    refine⟨?_,?_,?_⟩
    . rintro(⟨h,_⟩|⟨a,R,a2,o⟩|⟨_,o⟩)
      . omega
      . rw[d a R]at o;exact o
      . rw[Y]at o;exact o
    . rintro(⟨h,_⟩|⟨a,R,a2,o⟩|⟨_,o⟩)
      . omega
      . rw[d a R]at o;exact o
      . rw[Y]at o;exact o
    . rintro(⟨h,_⟩|⟨a,R,a2,o⟩)
      . omega
      . rw[d a R]at o;cases o
   have hS:=c7.finish (P:=P) (gs:=gs.setIfInBounds 0 g1) (g:=g1) (q:=q) (Array.getElem?_setIfInBounds_self_of_lt b4) ⟨λi y hi r=>by
    rw[Array.getElem?_setIfInBounds_ne (by omega)]at r
    rw[bD hu];obtain⟨n1,n2,n3⟩:=cb i hi;exact(B.rest i y r n1 n2 n3).2,λj hj=>by rw[bD hu];exact B.above j (by simpa using hj)⟩ (by rw[bD hu];exact d0)
   rw[ak,ak,ap _ _ F,ak]at hS;refine⟨u,_,V,gs.setIfInBounds 0 g1,w,sl,_,_,g1,by rw[b2],hS,?_⟩
   rw[b2];exact e4 _ x a (ag.kv _ _) (b7.mono (ag.m5 (B.bN.sat 0) (B.bN.sat Z.lk))) b8
 . by_cases e:i=Z.lk
   . subst e;rw[ak];rfl
   . rw[ap _ _ e]
     by_cases e0:i=0
     . subst e0;rw[ak];simp only[ah.set,if_neg A.d5];exact av 0
     . rw[ap _ _ e0];exact av i
 . rw[ak,<-b0];exact(ag.kv _ _).sh _ _ a8
 . have cg:touchAt t m=some a:=by
    rcases kz O with⟨D,_⟩|⟨op,K,D⟩
    . exact D
    . rw[Q op K]at D;cases D
   exact H m a cg (by rw[hl];rfl) (by rw[hl];exact C.iB ad ⟨ca,b1 _ hf⟩)
end
def pZ(n:Nat)(f1 a:FuncId)(b c:String):Trace:=#[{g:=0,fn:=f1,pos:=b,act:=.go n},{g:=n,fn:=a,pos:=c,act:=.start}]
theorem eM{n:Nat}{f1 b:FuncId}{c d:String}{op:MemOp}(h:op∈pZ n f1 b c d):op.act.touch?=none/\(op.act≠.mark .disable/\op.act≠.mark .enable)/\(∀B,op.act.low B)/\∀a,op.act≠.mark (.release a):=by
 simp only[pZ,List.mem_toArray,List.mem_cons,List.not_mem_nil,or_false]at h;rcases h with rfl|rfl<;>exact⟨rfl,⟨by simp,by simp⟩,λB=>trivial,by simp⟩
theorem bot_join(k:ag):ag.bot.join k=k:=rfl
section
variable{P:Program}{A:dk}{Fin:ag->ah->Goroutine->Prop}{Z:Base}{s s':MS P}{f f':Nat->Node P}{q q':Nat->Nat}{kk kk':Nat->ag}{OO OO':Nat->ah}{J J' M M':Nat->Prop}{gs gs':Array Goroutine}{w w':World}{t u:Trace}{j m:Nat}{g g' g₂ child:Goroutine}{z v:Value}
theorem uw{gs:Array Goroutine}{g' child:Goroutine}(a:0<gs.size):(∀i,i≠0->i≠gs.size->((gs.setIfInBounds 0 g').push child)[i]?=gs[i]?)/\((gs.setIfInBounds 0 g').push child)[0]?=some g'/\((gs.setIfInBounds 0 g').push child)[gs.size]?=some child:=by
 refine⟨λi c b=>?_,?_,?_⟩
 . rw[Array.getElem?_push,if_neg (by simpa using b),Array.getElem?_setIfInBounds_ne (Ne.symm c)]
 . rw[Array.getElem?_push,if_neg (by simp;omega),Array.getElem?_setIfInBounds_self_of_lt a]
 . rw[Array.getElem?_push,if_pos (by simp)]
theorem wy{gs:Array Goroutine}(b:gs[0]?=some g)(c:stepG P true g w=.spawn g' child w #[])(sl:Option (Nat × Nat)):
 runT P (crowd gs w sl) 0=(.next (crowd ((gs.setIfInBounds 0 g').push child) w sl),pZ gs.size g.frame.fn child.frame.fn g.frame.place g.frame.place):=by
 have a:=runT_crowd_spawn (P:=P) (sl:=sl) (i:=0) b (show stepG P (0==0) g w=_ from c);rw[fA]at a;exact a
theorem zV(m:Nat):(wu P A Fin m).solo=false:=by cases m<;>rfl
theorem p9(e:s.ms=.add m):cL P A s 0:=.inl ⟨rfl,by rw[e];trivial⟩
theorem ux(e:s.ms=.spawn m):cL P A s 0:=.inl ⟨rfl,by rw[e];trivial⟩
theorem wA(e:s.ms=.add m):¬dV P A s 0:=by
 have:=A.hb;rintro(⟨_,h⟩|⟨l,a,b,c⟩|⟨h,_⟩)
 . rw[e]at h;exact h
 . omega
 . omega
theorem zW(e:s.ms=.add m):bm P A Fin s 0=wu P A Fin m:=by unfold bm;rw[if_pos rfl,e]
theorem Ef(hZ:A.b+A.n+1<=Z.lk)(L:bg (bM P A Fin Z hZ) Z s f q kk OO J M gs w t)(hm:s.ms=.spawn m)(hg:gs[0]?=some g){N:ag->ah->Goroutine->Prop}(ht:(CZ P A Fin m).cJ (kk 0) (OO 0) g N)(sl:Option (Nat × Nat)):
 Goes P A Fin Z hZ s gs w t sl 0:=by
 have E:cz P A Z s kk OO J M gs.size w t:=L.ex;have hb:=A.hb;obtain⟨rfl,g',child,hs,O,a7⟩:=ht;have Q:=E.I.ms;rw[hm]at Q;obtain⟨b2,F⟩:=Q;have d:gs.size=A.b+s.sp:=by have:=E.size;rw[F]at this;simpa[iv.isNone]using this
 have u:s.sp<A.n:=by omega
 have hj:A.n-(m+1)=s.sp:=by omega
 rw[hj]at O;obtain⟨R⟩:=T.tree (P:=P) (m:=jx P A s.sp) rfl O;obtain⟨S⟩:=T.tree (zV (P:=P) (A:=A) (Fin:=Fin) m) a7;have a8:=(Array.getElem?_eq_some_iff.1 hg).1;obtain⟨_,_,_,_,_,_,d0,_⟩:=L.live _ (ux hm);have dn:Deaf t gs.size=0:=L.above _ (Nat.le_refl _);have U:=wy (sl:=sl) hg (hs w (L.bN.sat 0));have hu:jS (pZ gs.size g.frame.fn child.frame.fn g.frame.place g.frame.place):=λop h=>(eM h).2.1
 have V:∀n,Knows t 0 n->Knows (t++pZ gs.size g.frame.fn child.frame.fn g.frame.place g.frame.place) gs.size n:=λn hn=>rH (t:=t) (c:=0) hu (m1:=0) (m2:=1) (x:={g:=0,fn:=g.frame.fn,pos:=g.frame.place,act:=.go gs.size}) (y:={g:=gs.size,fn:=child.frame.fn,pos:=g.frame.place,act:=.start}) rfl rfl rfl rfl d0 dn hn
 have k:s.w s.sp=.idle:=by have:=(E.I.idle s.sp u).2 (Nat.le_refl _);cases e:s.w s.sp<;>rw[e]at this<;>first|rfl|cases this
 have a9:¬bt P A s gs.size:=by
  rintro(h|⟨l,z,r⟩|⟨z,r⟩)
  . omega
  . omega
  . exact r F
 obtain⟨fk,fO⟩:=E.zt gs.size (by omega) a9
 obtain⟨X,hX⟩:∃X:Node P,X=⟨jx P A s.sp,kk 0,ah.bot,child,R⟩:=⟨_,rfl⟩;obtain⟨s',o⟩:∃s',s'=s.jr s.sp (.run false X) (.add m) (s.sp+1):=⟨_,rfl⟩;have B:s'.w s.sp=.run false X:=by rw[o,dP]
 have K:∀{l:Nat},l≠s.sp->s'.w l=s.w l:=λh=>by rw[o,ib h]
 have C:s'.c=s.c:=by rw[o];rfl
 have G:s'.ms=.add m:=by rw[o];rfl
 have W:s'.sp=s.sp+1:=by rw[o];rfl
 have hI:bs A.n s':=by rw[o];refine E.I.jr u (by rw[k,hm];rfl) (by rw[k];rfl) rfl (by rw[k];simp) rfl (by rw[k];rfl) rfl (.inr ⟨rfl,rfl⟩) (λh=>by cases h) ⟨by omega,F⟩
 have Y:∀l,J l->dW P A s' l:=λl hl=>by
  rcases(E.hJ l).1 hl with⟨a,z,r,h3⟩|⟨z,r⟩
  . refine .inl ⟨a,z,r,?_⟩
    by_cases e:a=s.sp
    . subst e;rw[B];rfl
    . rw[K e];exact h3
  . exact .inr ⟨z,by rw[C];exact r⟩
 have hP:=L.bN.hand (J':=dW P A s') (M':=M) (w':=w) (src:=0) (dst:=gs.size) (by omega) (by omega) V (λop h=>(eM h).1) (λop h=>(eM h).2.2.1 _) rfl ⟨⟨.refl _,rfl⟩,λ_ _=>rfl⟩ (λb=>.inl rfl) (λn a ha b3 h=>h.elim (λ⟨j,z,r⟩=>.inr (.inl ⟨j,Y j z,r.app _⟩)) (λ⟨p,z,r⟩=>.inr (.inr (.inl ⟨p,z,r.app _⟩))))
 rw[fk,bot_join]at hP;obtain⟨ad,al,av⟩:=uw (g':=g') (child:=child) a8
 have ax:cz P A Z s' (bo kk gs.size (kk 0)) OO (dW P A s') M ((gs.setIfInBounds 0 g').push child).size w (t++pZ gs.size g.frame.fn child.frame.fn g.frame.place g.frame.place):=by
  refine E.chan hI (by rw[Array.size_push,Array.size_setIfInBounds,W,C,F];simp[iv.isNone];omega) (by rw[C];exact E.vq) (λ_ _=>rfl) (by rw[o];rfl) (by rw[o];rfl) (by rw[o];rfl) (by rw[o];rfl) (λl _=>?_) (λi b n v h=>?_) (ap _ _ (by omega)) (λi=>Iff.rfl) (.inl C) (λop h=>⟨(eM h).1,(eM h).2.2.2⟩) (λi D=>?_) (λi ay hn=>?_)
  . by_cases e:l=s.sp
    . subst e;rw[B,k];rfl
    . rw[K e]
  . by_cases e:i=gs.size
    . subst e;rw[ak]at h;exact⟨0,h⟩
    . rw[ap _ _ e]at h;exact⟨i,h⟩
  . rcases D with h0|⟨l,z,r⟩|⟨z,r⟩
    . exact .inl (.inl h0)
    . rw[W]at z
      by_cases e:l=s.sp
      . subst e
        rw[r,<-d];exact .inr V
      . exact .inl (.inr (.inl ⟨l,by omega,r⟩))
    . exact .inl (.inr (.inr ⟨z,by rw[<-C];exact r⟩))
  . have b0:¬bt P A s i:=λh=>hn (by
     rcases h with h0|⟨l,z,r⟩|⟨z,r⟩
     . exact .inl h0
     . exact .inr (.inl ⟨l,by omega,r⟩)
     . exact .inr (.inr ⟨z,by rw[C];exact r⟩))
    have H:i≠gs.size:=λe=>hn (.inr (.inl ⟨s.sp,by omega,by omega⟩))
    rw[ap _ _ H];exact E.zt i ay b0
 have hL:MS.fh A.n s' s:=by rw[o];refine qY u ?_;rw[k,hm];have e1:(aW.run (P:=P) false X).bU=20:=rfl;have e2:(mP.add m).bU=40*m+200:=rfl;have e3:(mP.spawn m).bU=40*m+225:=rfl;have e4:(aW.idle (P:=P)).bU=0:=rfl;omega
 have hS:fy A s s' (λi=>i=0\/i=gs.size):=⟨λl _ hl=>K (λe=>hl (.inr (by omega))),λ_=>C,λh=>absurd (.inl rfl) h,by rw[o];rfl,by rw[o];rfl⟩
 refine⟨_,_,U,s',bo (bo f 0 ⟨_,_,_,_,S⟩) gs.size X,q,bo kk gs.size (kk 0),OO,dW P A s',M,_,_,_,rfl,hL,?_⟩;refine L.Ec hu hP ax (by simp) (λi=>i=0\/i=gs.size) (λi D=>ad i (λe=>D (.inl e)) (λe=>D (.inr e))) (jK hZ hS (λi D=>by rw[ap _ _ (λe=>D (.inr e)),ap _ _ (λe=>D (.inl e))]) (λ_ _=>rfl) (λi D _=>ap _ _ (λe=>D (.inr e))) (λ_ _ _=>rfl) (λl _ _ h=>Y l h)) (λi D=>?_)
 rcases D with rfl|rfl
 . refine⟨g',al,λ_=>?_,λh=>absurd h (wA G),λh=>absurd h (kE (by rw[G];simp)),λh=>absurd (p9 G) h⟩
   have H:(0:Nat)≠gs.size:=by omega
   rw[ap _ _ H,ak,ap _ _ H];refine⟨by show 0<A.b+A.n+1;omega,rfl,?_,rfl,rfl,S.running,by rw[bD hu];exact d0,.inl rfl,zQ⟩
   show wu P A Fin m=bm P A Fin s' 0;rw[zW G]
 . have b1:cL P A s' gs.size:=by rw[d];exact iZ u B
   refine⟨child,av,λ_=>?_,λh=>absurd h (by rw[d];exact qT u B),λh=>absurd h (by rw[d];exact iC u B),λh=>absurd b1 h⟩
   rw[ak,ak,hX];refine⟨by show gs.size<A.b+A.n+1;omega,rfl,?_,rfl,fO.symm,R.running,by rw[bD hu];exact dn,.inr (.inl ⟨s.sp,u,d,by rw[B];rfl⟩),λl h X' z r h3=>?_⟩
   . show jx P A s.sp=bm P A Fin s' gs.size
     rw[d,lE u B]
   . obtain rfl:l=s.sp:=by omega
     rw[B]at h3;cases h3;rw[hX];exact rS.refl _
theorem Eg(hZ:A.b+A.n+1<=Z.lk)(O:bg (bM P A Fin Z hZ) Z s f q kk OO J M gs w t)(Q:s.ms=.add 0)(hg:gs[0]?=some g){N:ag->ah->Goroutine->Prop}(ht:(wu P A Fin 0).cJ (kk 0) (OO 0) g N)(sl:Option (Nat × Nat)):
 Goes P A Fin Z hZ s gs w t sl 0:=by
 have r:cz P A Z s kk OO J M gs.size w t:=O.ex;have hb:=A.hb;obtain⟨rfl,g',child,hs,a8,a9⟩:=ht;have S:=r.I.ms;rw[Q]at S;obtain⟨E,z⟩:=S;have E:s.sp=A.n:=by omega
 have d:gs.size=A.b+A.n:=by have:=r.size;rw[z,E]at this;simpa[iv.isNone]using this
 obtain⟨U⟩:=T.tree (P:=P) (m:=uc P A) rfl a8;obtain⟨V⟩:=T.tree (uu (P:=P) (A:=A) (Fin:=Fin) _ _) a9;have ad:=(Array.getElem?_eq_some_iff.1 hg).1;obtain⟨_,_,_,_,_,_,d0,_⟩:=O.live _ (p9 Q);have dn:Deaf t gs.size=0:=O.above _ (Nat.le_refl _);have W:=wy (sl:=sl) hg (hs w (O.bN.sat 0));have hu:jS (pZ gs.size g.frame.fn child.frame.fn g.frame.place g.frame.place):=λop h=>(eM h).2.1
 have K:∀n,Knows t 0 n->Knows (t++pZ gs.size g.frame.fn child.frame.fn g.frame.place g.frame.place) gs.size n:=λn hn=>rH (t:=t) (c:=0) hu (m1:=0) (m2:=1) (x:={g:=0,fn:=g.frame.fn,pos:=g.frame.place,act:=.go gs.size}) (y:={g:=gs.size,fn:=child.frame.fn,pos:=g.frame.place,act:=.start}) rfl rfl rfl rfl d0 dn hn
 have al:¬bt P A s gs.size:=by
  rintro(h|⟨l,C,B⟩|⟨C,B⟩)
  . omega
  . omega
  . exact B z
 obtain⟨fk,fO⟩:=r.zt gs.size (by omega) al
 obtain⟨s',o⟩:∃s':MS P,s'={s with ms:=.recv,c:=.dH}:=⟨_,rfl⟩
 have F:s'.w=s.w:=by rw[o]
 have u:s'.c=.dH:=by rw[o]
 have G:s'.ms=.recv:=by rw[o]
 have L:s'.sp=s.sp:=by rw[o]
 obtain⟨v0,m0,R⟩:=r.I.calm (by rw[z];rfl)
 have hI:bs A.n s':=by
  rw[o];refine⟨?_,r.I.g2,λh=>(by have h:s.gv=1:=h;omega),r.I.g3,r.I.pf,λi D h=>?_,⟨r.I.g5.1,λh=>(by have h:s.gm=1:=h;omega)⟩,λh=>(by cases h),r.I.g7,λh=>(by cases h),λk h=>(by cases h),r.I.ok,rfl,r.I.sp,r.I.idle,⟨E,by simp⟩,λh=>(by cases h),r.I.mu⟩
  . have:=r.I.g1
    rw[Q]at this;exact this
  . have h:s.w i=.dn .d7:=h
    have:=R i D;rw[h]at this;cases this
 have X:∀l,J l->dW P A s' l:=λl R=>by
  rcases(r.hJ l).1 R with⟨a,C,B,h3⟩|⟨C,B⟩
  . exact .inl ⟨a,C,B,by rw[F];exact h3⟩
  . rw[z]at B;cases B
 have hP:=O.bN.hand (J':=dW P A s') (M':=M) (w':=w) (src:=0) (dst:=gs.size) (by omega) (by omega) K (λop h=>(eM h).1) (λop h=>(eM h).2.2.1 _) rfl ⟨⟨.refl _,rfl⟩,λ_ _=>rfl⟩ (λb=>.inl rfl) (λn a ha b4 h=>h.elim (λ⟨j,C,B⟩=>.inr (.inl ⟨j,X j C,B.app _⟩)) (λ⟨p,C,B⟩=>.inr (.inr (.inl ⟨p,C,B.app _⟩))))
 rw[fk,bot_join]at hP;obtain⟨av,ax,ay⟩:=uw (g':=g') (child:=child) ad;have Y:=r.vq;rw[z]at Y
 have b0:cz P A Z s' (bo kk gs.size (kk 0)) OO (dW P A s') M ((gs.setIfInBounds 0 g').push child).size w (t++pZ gs.size g.frame.fn child.frame.fn g.frame.place g.frame.place):=by
  refine r.chan hI (by rw[Array.size_push,Array.size_setIfInBounds,L,u,d,E];rfl) (by rw[u];exact Y) (λ_ _=>rfl) (by rw[o]) (by rw[o]) (by rw[o]) (by rw[o]) (λl _=>by rw[F]) (λi b n v h=>?_) (ap _ _ (by omega)) (λi=>Iff.rfl) (.inr ⟨z,u,λm Q=>by rw[<-d];exact K m Q⟩) (λop h=>⟨(eM h).1,(eM h).2.2.2⟩) (λi D=>?_) (λi b1 hn=>?_)
  . by_cases e:i=gs.size
    . subst e;rw[ak]at h;exact⟨0,h⟩
    . rw[ap _ _ e]at h;exact⟨i,h⟩
  . rcases D with h0|⟨l,C,B⟩|⟨C,B⟩
    . exact .inl (.inl h0)
    . exact .inl (.inr (.inl ⟨l,by rw[<-L];exact C,B⟩))
    . rw[C,<-d];exact .inr K
  . have b2:¬bt P A s i:=λh=>hn (by
     rcases h with h0|⟨l,C,B⟩|⟨C,B⟩
     . exact .inl h0
     . exact .inr (.inl ⟨l,by rw[L];exact C,B⟩)
     . exact .inr (.inr ⟨C,by rw[u];simp⟩))
    have H:i≠gs.size:=λe=>hn (.inr (.inr ⟨by omega,by rw[u];simp⟩))
    rw[ap _ _ H];exact r.zt i b1 b2
 have hL:MS.fh A.n s' s:=by
  refine .inl ?_;rw[o];show mP.recv.bU+sumTo A.n (λi=>(s.w i).bU)+iv.dH.bU s.gc<s.ms.bU+sumTo A.n (λi=>(s.w i).bU)+s.c.bU s.gc
  rw[z,Q];have e2:mP.recv.bU=100:=rfl;have e3:iv.dH.bU s.gc=14:=rfl;have e4:iv.none.bU s.gc=0:=rfl;have e5:(mP.add 0).bU=200:=rfl;omega
 have a7:MS.rem P A.n s'=List.range A.n:=by unfold MS.rem;rw[F];exact List.filter_eq_self.2 λl R=>by rw[r.I.early z l (List.mem_range.1 R)];rfl
 have hS:fy A s s' (λi=>i=0\/i=gs.size):=⟨λl _ R=>by rw[F],λh=>absurd (.inr (by omega)) h,λh=>absurd (.inl rfl) h,by rw[o],by rw[o]⟩
 refine⟨_,_,W,s',bo (bo f 0 ⟨_,_,_,_,V⟩) gs.size ⟨_,_,_,_,U⟩,q,bo kk gs.size (kk 0),OO,dW P A s',M,_,_,_,rfl,hL,?_⟩;refine O.Ec hu hP b0 (by simp) (λi=>i=0\/i=gs.size) (λi D=>av i (λe=>D (.inl e)) (λe=>D (.inr e))) (jK hZ hS (λi D=>by rw[ap _ _ (λe=>D (.inr e)),ap _ _ (λe=>D (.inl e))]) (λ_ _=>rfl) (λi D _=>ap _ _ (λe=>D (.inr e))) (λ_ _ _=>rfl) (λl _ _ h=>X l h)) (λi D=>?_)
 rcases D with rfl|rfl
 . refine⟨g',ax,λ_=>?_,λh=>absurd h (pW (.inl G)),λh=>absurd h (kE (by rw[G];simp)),λh=>absurd (gz G) h⟩
   have H:(0:Nat)≠gs.size:=by omega
   rw[ap _ _ H,ak,ap _ _ H];refine⟨by show 0<A.b+A.n+1;omega,rfl,?_,rfl,rfl,V.running,by rw[bD hu];exact d0,.inl rfl,zQ⟩
   show ov P A Fin _ _=bm P A Fin s' 0;rw[lG G,a7,List.length_range]
 . have b3:cL P A s' gs.size:=by rw[d];exact qV (.inr u)
   refine⟨child,ay,λ_=>?_,λh=>absurd h (by rw[d];exact C5 (.inr u)),λh=>absurd h (by rw[d];exact pS),λh=>absurd b3 h⟩
   rw[ak,ak];refine⟨by show gs.size<A.b+A.n+1;omega,rfl,?_,rfl,fO.symm,U.running,by rw[bD hu];exact dn,.inr (.inr ⟨d,by rw[u];rfl⟩),by rw[d];exact Li⟩
   show uc P A=bm P A Fin s' gs.size;rw[d,C7 u]
end
section
variable{P:Program}{A:dk}{Fin:ag->ah->Goroutine->Prop}{Z:Base}{s s':MS P}{f f':Nat->Node P}{q q':Nat->Nat}{kk kk':Nat->ag}{OO OO':Nat->ah}{J J' M M':Nat->Prop}{gs gs':Array Goroutine}{w w':World}{t u:Trace}{j m:Nat}{g g' g₂ child:Goroutine}{z v:Value}
theorem yi(Q:A.b+A.n+1<=Z.lk)(D:bg (bM P A Fin Z Q) Z s f q kk OO J M gs w t):∃(i:Nat) (g:Goroutine),gs[i]?=some g/\g.status=.running:=by
 have r:cz P A Z s kk OO J M gs.size w t:=D.ex;have B:=aR (P:=P) (A:=A) (Fin:=Fin) (Z:=Z) Q;refine Classical.byContradiction λu=>?_
 have a:∀i,¬cL P A s i:=λi d=>by obtain⟨_,E,_,_,_,F,_⟩:=D.live i d;exact u ⟨i,_,E,F⟩
 have wi:∀i,dV P A s i->LP P A s i:=λi T=>by
  obtain⟨_,_,_,x,x',E,F,U⟩:=D.walk i T
  rcases U with⟨h,_⟩|h
  . exact h
  . exact absurd ⟨i,x,E,h.first (B.jX F).1⟩ u
 have hb:=A.hb
 have R:s.ms=.parked:=by
  cases e:s.ms with
  |parked=>rfl
  |add l=>exact absurd (p9 e) (a 0)
  |spawn l=>exact absurd (ux e) (a 0)
  |recv=>exact absurd (gz e) (a 0)
  |bb l p=>rcases wi 0 (BE e)with⟨l,_,_,o,G,_⟩|⟨h,_⟩<;>omega
 have v:=r.I.ms;rw[R]at v;obtain⟨V,H,K,L⟩:=v
 have S:s.c=.wt .w4/\s.gm=0:=by
  cases e:s.c with
  |none=>exact absurd e H
  |gone=>exact absurd e K
  |dH=>exact absurd (qV (.inr e)) (a _)
  |iX=>exact absurd (qV (.inl e)) (a _)
  | wt p=>
    rcases wi _ (yf e)with⟨l,_,_,o,G,_⟩|⟨_,h,W⟩
    . omega
    . rw[e]at h;exact⟨h,W⟩
 have k:∀l,l<A.n->dV P A s (A.b+l)->∃sv Y,s.w l=.lk (.eY sv) Y/\s.sh.ms=0:=λl d h=>by
  rcases wi _ h with⟨l',sv,Y,o,G,h3,h4⟩|⟨o,_⟩
  . obtain rfl:l'=l:=by omega
    exact⟨sv,Y,h3,h4⟩
  . omega
 have y:∀l,l<A.n->s.w l=.gone\/∃sv Y,s.w l=.lk (.eY sv) Y/\s.sh.ms=0:=λl d=>by
  have z:=r.I.idle l d;cases e:s.w l with
  |idle=>rw[e]at z;have:=z.1 rfl;omega
  |run h X=>exact absurd (iZ d e) (a _)
  |lk p Y=>have:=k l d (.inr (.inl ⟨l,d,rfl,by rw[e];trivial⟩));rw[e]at this;exact .inr this
  |un p Y=>have:=k l d (.inr (.inl ⟨l,d,rfl,by rw[e];trivial⟩));rw[e]at this;obtain⟨_,_,h,_⟩:=this;cases h
  |wait=>exact absurd e (L l d)
  |wv=>exact absurd (uq d e) (a _)
  |dn p=>have:=k l d (kC d e);rw[e]at this;obtain⟨_,_,h,_⟩:=this;cases h
  |gone=>exact .inl rfl
 have m:∀l,l<A.n->s.w l=.gone:=λl d=>by
  rcases y l d with h|⟨sv,Y,h,h0⟩
  . exact h
  . have o:=r.I.mu.alive (λi C=>by
     rcases y i C with h|⟨sv,Y,h,_⟩
     . exact .inl (by rw[h];rfl)
     . exact .inr ⟨sv,by rw[h];rfl⟩) h0 l d
    rw[h]at o;cases o
 have N:s.gc=0:=by
  have o:=r.I.g1;rw[R]at o
  have G:sumTo A.n (λj=>(s.w j).cnt)=0:=by
   have:∀n,n<=A.n->sumTo n (λj=>(s.w j).cnt)=0:=λn=>by
    induction n with
    |zero=>intro _;rfl
    | succ n ih=>
      intro hn;have e1:=ih (by omega)
      simp only[sumTo,e1,m n (by omega)]
      rfl
   exact this A.n (Nat.le_refl _)
  have e:mP.parked.pend=0:=rfl;omega
 have O:s.c.waits=true:=by rw[S.1];rfl
 by_cases hv:s.gv=1
 . obtain⟨i,C,h⟩:=r.I.g7 hv N
   rw[m i C]at h
   rcases h with h|h<;>cases h
 . have:=r.I.g2
   obtain⟨i,C,h⟩:=r.I.g6 O (by omega) S.2
   rw[m i C]at h;cases h
variable(C:iu P A.ng)(X:jt P A.ng)(CM:gu P A.nm)(XM:gx P A.nm)(F:oT P A.nm)
include C X CM XM F in
theorem Eh(o:A.b+A.n+1<=Z.lk)(sl:Option (Nat × Nat))(i:Nat){k:ag}{O:ah}{g:Goroutine}{N:ag->ah->Goroutine->Prop}(K:g.status=.running)(h:(bm P A Fin s i).cJ k O g N)(c:∀k' O' g',N k' O' g'->TT P (bm P A Fin s i) k' O' g')
 (r:bg (bM P A Fin Z o) Z s f q kk OO J M gs w t) (S:cL P A s i) (L:f i=⟨bm P A Fin s i,k,O,g,.cJ N K h c⟩):
 ∃ ops x,runT P (crowd gs w sl) i=(.next x,ops)/\
  ((∃s' f' q' kk' OO' J' M' gs' w' m,x=crowd gs' w' m/\MS.fh A.n s' s/\bg (bM P A Fin Z o) Z s' f' q' kk' OO' J' M' gs' w' (t++ops))\/
   (∃gs' w' m k' O' g',x=crowd gs' w' m/\dE P Z.W0 k' O' g' gs' w' (t++ops)/\Fin k' O' g')):=by
 have hE:cz P A Z s kk OO J M gs.size w t:=r.ex
 have goes:Goes P A Fin Z o s gs w t sl i->∃ops x,runT P (crowd gs w sl) i=(.next x,ops)/\
  ((∃s' f' q' kk' OO' J' M' gs' w' m,x=crowd gs' w' m/\MS.fh A.n s' s/\bg (bM P A Fin Z o) Z s' f' q' kk' OO' J' M' gs' w' (t++ops))\/
   (∃gs' w' m k' O' g',x=crowd gs' w' m/\dE P Z.W0 k' O' g' gs' w' (t++ops)/\Fin k' O' g')):=λ⟨ops,x,Q,R⟩=>⟨ops,x,Q,.inl R⟩
 obtain⟨_,a,_,y,B,_,_,_,_⟩:=r.live i S;rw[L]at a y B;have a:gs[i]?=some g:=a;have y:k=kk i:=y;have B:O=OO i:=B;subst y B
 rcases S with⟨rfl,D⟩|⟨j,u,rfl,E⟩|⟨rfl,H⟩
 . cases e:s.ms with
   | add l=>
     rw[zW e]at h;cases l with
     |zero=>exact goes (Eg o r e a h sl)
     |succ l=>exact goes (G3 C X o r e rfl rfl a h sl)
   |bb l p=>rw[e]at D;exact D.elim
   | spawn l=>
     have d:bm P A Fin s 0=CZ P A Fin l:=by unfold bm;rw[if_pos rfl,e]
     rw[d]at h;exact goes (Ef o r e a h sl)
   |parked=>rw[e]at D;exact D.elim
   | recv=>
     rw[lG e]at h;obtain⟨g₂,z,T,r2,r3,r4⟩:=G4 h
     by_cases I:∃j,j<A.n/\s.w j=.wait
     . obtain⟨j,u,E⟩:=I
       exact goes (G6 o r e u E a T h sl)
     . by_cases H:s.c=.gone
       . obtain⟨ops,x,Q,gs',w',m,k',O',g',R,e3⟩:=LY o r e H a h sl
         exact⟨ops,x,Q,.inr ⟨gs',w',m,k',O',g',R,e3⟩⟩
       . exact goes (G8 o r e (λj u E=>I ⟨j,u,E⟩) H a T r2 r3 r4 sl)
 . cases e:s.w j with
   | run b X0=>
     have d:=lE (Fin:=Fin) u e;have G:=h;rw[d]at G
     rcases G with G|G|⟨rfl,U,g₂,z,v,V,W,ht⟩
     . exact goes (DX CM XM F o r u e (Y:=⟨bm P A Fin s (A.b+j),_,_,g,N,K,h,c⟩) L G sl)
     . exact goes (zF CM XM F o r u e (Y:=⟨bm P A Fin s (A.b+j),_,_,g,N,K,h,c⟩) L G sl)
     . have hb:b=false:=by
        cases b with
        |false=>rfl
        |true=>exact absurd U (hE.ug j u (by rw[e];rfl))
       subst hb
       by_cases D:s.ms=.parked
       . exact goes (G5 o r u e D a V W ht sl)
       . exact goes (J4 o r u e D a V U W ht sl)
   |wv=>have d:=zO (Fin:=Fin) u e;rw[d]at h;exact goes (Eb C X o r u e a h sl)
   |_=>rw[e]at E;exact E.elim
 . cases e:s.c with
   |dH=>rw[C7 e]at h;exact goes (Ea C X o r e rfl rfl a h sl)
   | iX=>
     rw[C6 (by rw[e];simp)]at h
     exact goes (Ha o r e a h sl)
   |_=>rw[e]at H;exact H.elim
include C X CM XM F in
theorem Ei(a:A.b+A.n+1<=Z.lk)(sl:Option (Nat × Nat))(i:Nat){g:Goroutine}(d:bg (bM P A Fin Z a) Z s f q kk OO J M gs w t)(z:dV P A s i)(k:gs[i]?=some g)(m:Ob P A Fin s i (kk i) (OO i) g):
 Goes P A Fin Z a s gs w t sl i\/BA P A s gs w sl i g:=by
 have hb:=A.hb;rcases z with⟨rfl,B⟩|⟨j,o,rfl,z⟩|⟨rfl,D⟩
 . rcases m with⟨_,h⟩|⟨l,r,E,_⟩|⟨r,_⟩
   . cases e:s.ms with
     |bb l p=>rw[e]at h;exact .inl (zM C X a d e k h sl)
     |_=>rw[e]at B;exact B.elim
   . omega
   . omega
 . rcases m with⟨r,_⟩|⟨l,r,E,h⟩|⟨r,_⟩
   . omega
   . obtain rfl:l=j:=by omega
     cases e:s.w l with
     | lk p Y=>
       rw[e]at h;by_cases u:p=.la
       . subst u;exact .inl (JS CM XM F a d o e k h sl)
       . exact JP CM XM a d o e k h u sl
     | un p Y=>
       rw[e]at h;by_cases v:p=.ur
       . subst v;exact .inl (JT CM XM a d o e k h sl)
       . by_cases x:p=.ue
         . subst x;exact .inl (JR CM XM F a d o e k h sl)
         . exact .inl (JQ CM XM a d o e k h v x sl)
     |dn p=>rw[e]at h;exact .inl (JY C X a d o e k h sl)
     |_=>rw[e]at z;exact z.elim
   . omega
 . rcases m with⟨r,_⟩|⟨l,r,E,h⟩|⟨_,h⟩
   . omega
   . omega
   . cases e:s.c with
     | wt p=>
       rw[e]at h;by_cases y:p=.wa
       . subst y;exact .inl (J1 C X a d e k h sl)
       . exact J0 C X a d e y k h sl
     |_=>rw[e]at D;exact D.elim
include C X CM XM F in
theorem Hb(d:A.b+A.n+1<=Z.lk)(a:bg (bM P A Fin Z d) Z s f q kk OO J M gs w t)(sl:Option (Nat × Nat)):
 ∃N gs' w' j m k' O' g',runNT P N (crowd gs w sl) t=(.next (crowd gs' w' j),m)/\dE P Z.W0 k' O' g' gs' w' m/\Fin k' O' g':=
 Gm (aR (P:=P) (A:=A) (Fin:=Fin) (Z:=Z) d) Fin (λa=>yi d a) (by intro s f q kk OO J M gs w t sl i k O g N o h c a p r;exact Eh C X CM XM F d sl i o h c a p r)
  (by
    intro s f q kk OO J M gs w t sl i g a u v l _;rcases Ei C X CM XM F d sl i a u v l with⟨ops,x,y,z⟩|⟨hd,e⟩
    . exact⟨ops,x,y,.inl z⟩
    . exact⟨_,_,e,.inr (.inr ⟨hd,rfl,rfl⟩)⟩) s _ f _ q kk OO J M gs w sl t rfl rfl a
end
end Go.bG

/- Part 23 of the proof. -/
import Derived.Conc.TokenTrace
import Derived.Test.YtigilmjkokbblaaGreatDoorC22
set_option linter.all false
namespace Go.bd
open Go.Conc
open Go.ConcN (sumTo upd sumTo_upd upd_ne upd_same)
section
variable{P:Program}{A:qQ P}{Z:Base}{s s':A.S}{f f':Nat->Node P}{q q':Nat->Nat}{kk kk':Nat->ah}{OO OO':Nat->ai}{J J' M M':Nat->Prop}{gs gs':Array Goroutine}{w w':World}{t u:Trace}
structure Aside(A:qQ P)(s s':A.S)(f f':Nat->Node P)(q q':Nat->Nat)(kk kk':Nat->ah)(OO OO':Nat->ai)(J J':Nat->Prop)(S:Nat->Prop):Prop where
 ef:∀j,¬S j->f' j=f j
 eq:∀j,¬S j->q' j=q j
 ek:∀j,¬S j->j<A.top->kk' j=kk j
 eO:∀j,¬S j->j<A.top->OO' j=OO j
 eJ:∀j,¬S j->A.Live s j->J j->J' j
 live:∀j,¬S j->(A.Live s' j↔A.Live s j)
 walk:∀j,¬S j->(A.Walk s' j↔A.Walk s j)
 held:∀j,¬S j->(A.oD s' j↔A.oD s j)
 mo:∀j,¬S j->A.Live s j->A.mo s' j=A.mo s j
 at':∀j k O x,¬S j->A.Walk s j->A.At s j k O x->A.At s' j k O x
 deaf:∀j,¬S j->A.Walk s j->A.deaf s' j=A.deaf s j
 Aa:∀j,¬S j->A.Walk s j->A.Aa s j->A.Aa s' j
 QC:∀j k O x,¬S j->A.oD s j->A.Fi s j k O x->A.Fi s' j k O x
 tie:∀j x,¬S j->A.Live s j->A.Oj s j x->A.Oj s' j x
theorem bJ.Is(v:bJ A Z s f q kk OO J M gs w t)(K:lZ u)(L:cA Z kk' OO' J' M' w' (t++u))(D:A.Ex s' kk' OO' J' M' gs'.size w' (t++u))(E:gs.size<=gs'.size)(S:Nat->Prop)(z:∀i,¬S i->gs'[i]?=gs[i]?)
 (a:Aside A s s' f f' q q' kk kk' OO OO' J J' S) (B:∀i,S i->∃m,gs'[i]?=some m/\Self P A s' f' q' kk' OO' J' (t++u) i m):bJ A Z s' f' q' kk' OO' J' M' gs' w' (t++u):=by
 have y:∀j,Deaf (t++u) j=Deaf t j:=λj=>cy K j
 refine⟨v.lk,L,λj k=>?_,λj k=>?_,λj k=>?_,λj x C F G H=>?_,λj k=>by rw[y];exact v.above j (Nat.le_trans E k),D⟩
 . by_cases e:S j
   . obtain⟨m,n,o⟩:=B j e
     obtain⟨c,d,g⟩:=o.live k;exact⟨c,by rw[n,d],g⟩
   . have b:=(a.live j e).1 k
     obtain⟨c,d,pm,g,l,p,r,I⟩:=v.live j b;rw[a.ef j e,a.ek j e c,a.eO j e c,y j,a.mo j e b,z j e];exact⟨c,d,pm,g,l,p,r,I.1.imp id (a.eJ j e b),a.tie j _ e b I.2⟩
 . by_cases e:S j
   . obtain⟨m,n,o⟩:=B j e
     obtain⟨c,d,g,N,l,p⟩:=o.walk k;exact⟨c,d,g,m,N,n,l,p⟩
   . have b:=(a.walk j e).1 k
     obtain⟨c,d,g,x,O,l,p,r⟩:=v.walk j b;refine⟨λh=>c ((a.live j e).1 h),d,by rw[y j,a.deaf j e b];exact g,x,O,by rw[z j e];exact l,?_,?_⟩
     . rw[a.ek j e d,a.eO j e d];exact a.at' j _ _ _ e b p
     . rw[a.eq j e]
       rcases r with⟨Q,R,T⟩|r
       . exact .inl ⟨a.Aa j e b Q,R,T⟩
       . exact .inr r
 . by_cases e:S j
   . obtain⟨m,n,o⟩:=B j e
     obtain⟨c,d,g,l,p,r⟩:=o.held k;exact⟨c,d,g,l,m,n,p,r⟩
   . have b:=(a.held j e).1 k
     obtain⟨c,d,g,l,x,U,V,W⟩:=v.held j b;refine⟨λh=>c ((a.live j e).1 h),λh=>d ((a.walk j e).1 h),g,by rw[y j];exact l,x,by rw[z j e];exact U,V,?_⟩;rw[a.ek j e g,a.eO j e g];exact a.QC j _ _ _ e b W
 . by_cases e:S j
   . obtain⟨m,n,o⟩:=B j e
     rw[n]at C;obtain rfl:=Option.some.inj C;exact o.rest F G H
   . rw[a.eq j e,y j]
     rw[z j e]at C;exact v.rest j x C (λh=>F ((a.live j e).2 h)) (λh=>G ((a.walk j e).2 h)) (λh=>H ((a.held j e).2 h))
theorem bJ.quiet(B:Ab A)(a:bJ A Z s f q kk OO J M gs w t){i:Nat}{x:Goroutine}(d:gs[i]?=some x)(n:¬A.oD s i)(c:Nat)(b:Bool):offersAt x c b=[]:=by
 by_cases j:A.Live s i
 . obtain⟨_,k,_,_,_,e,_⟩:=a.live i j
   rw[d]at k;obtain rfl:=Option.some.inj k;exact offersAt_of_not_blocked (by rw[e];decide) _ _
 by_cases l:A.Walk s i
 . obtain⟨_,_,_,y,o,m,e,g⟩:=a.walk i l
   rw[d]at m;obtain rfl:=Option.some.inj m;obtain⟨p,r⟩:=B.me e;rcases g with⟨_,rfl,_⟩|g
   . show offersAt (blk o) c b=[]
     unfold offersAt blk;simp only[r]
   . exact offersAt_of_not_blocked (by rw[g.first p];decide) _ _
 . have h:=(a.rest i x d j l n).2
   refine offersAt_of_not_blocked ?_ _ _;rcases h.status with h|h<;>rw[h]<;>decide
end
section
variable{P:Program}{A:eu}{Fin:ah->ai->Goroutine->Prop}{Z:Base}{s s':MS P}{f f':Nat->Node P}{q q':Nat->Nat}{kk kk':Nat->ah}{OO OO':Nat->ai}{J J' M M':Nat->Prop}{gs gs':Array Goroutine}{w w':World}{t u:Trace}{i:Nat}
structure gV{P:Program}(A:eu)(s s':MS P)(S:Nat->Prop):Prop where
 w:∀l,l<A.n -> ¬S (A.b+l)->s'.w l=s.w l
 c:¬S (A.b+A.n)->s'.c=s.c
 ms:¬S 0->s'.ms=s.ms/\MS.rem P A.n s'=MS.rem P A.n s
 sh:s'.sh.ms=s.sh.ms
 gm:s'.gm=s.gm
variable{S:Nat->Prop}
theorem gV.live(h:gV A s s' S){j:Nat}(b:¬S j):dH P A s' j↔dH P A s j:=by
 constructor<;>rintro(⟨d,a⟩|⟨l,a,e,f⟩|⟨d,a⟩)
 . subst d;exact .inl ⟨rfl,by rw[<-(h.ms b).1];exact a⟩
 . subst e;exact .inr (.inl ⟨l,a,rfl,by rw[<-h.w l a b];exact f⟩)
 . subst d;exact .inr (.inr ⟨rfl,by rw[<-h.c b];exact a⟩)
 . subst d;exact .inl ⟨rfl,by rw[(h.ms b).1];exact a⟩
 . subst e;exact .inr (.inl ⟨l,a,rfl,by rw[h.w l a b];exact f⟩)
 . subst d;exact .inr (.inr ⟨rfl,by rw[h.c b];exact a⟩)
theorem gV.walk(h:gV A s s' S){j:Nat}(b:¬S j):fE P A s' j↔fE P A s j:=by
 constructor<;>rintro(⟨d,a⟩|⟨l,a,e,f⟩|⟨d,a⟩)
 . subst d;exact .inl ⟨rfl,by rw[<-(h.ms b).1];exact a⟩
 . subst e;exact .inr (.inl ⟨l,a,rfl,by rw[<-h.w l a b];exact f⟩)
 . subst d;exact .inr (.inr ⟨rfl,by rw[<-h.c b];exact a⟩)
 . subst d;exact .inl ⟨rfl,by rw[(h.ms b).1];exact a⟩
 . subst e;exact .inr (.inl ⟨l,a,rfl,by rw[h.w l a b];exact f⟩)
 . subst d;exact .inr (.inr ⟨rfl,by rw[h.c b];exact a⟩)
theorem gV.held(h:gV A s s' S){j:Nat}(b:¬S j):eM P A s' j↔eM P A s j:=by
 constructor<;>rintro(⟨c,a⟩|⟨l,a,d,e⟩)
 . subst c;exact .inl ⟨rfl,by rw[<-(h.ms b).1];exact a⟩
 . subst d;exact .inr ⟨l,a,rfl,by rw[<-h.w l a b];exact e⟩
 . subst c;exact .inl ⟨rfl,by rw[(h.ms b).1];exact a⟩
 . subst d;exact .inr ⟨l,a,rfl,by rw[h.w l a b];exact e⟩
theorem lO(x:A.b+A.n+1<=Z.lk)(d:gV A s s' S)(B:∀j,¬S j->f' j=f j)(C:∀j,¬S j->q' j=q j)(D:∀j,¬S j->j<A.b+A.n+1->kk' j=kk j)(E:∀j,¬S j->j<A.b+A.n+1->OO' j=OO j)(F:∀j,¬S j->dH P A s j->J j->J' j):
 Aside (cB P A Fin Z x) s s' f f' q q' kk kk' OO OO' J J' S:=by
 have hb:=A.hb;refine⟨B,C,D,E,F,λj a=>d.live a,λj a=>d.walk a,λj a=>d.held a,λj a G=>?_,λj k O y a _ u=>?_,λj a v=>?_,λj a v hd=>?_,λj k O y a _ u=>?_,λj y a _ H=>?_⟩
 . show bP P A Fin s' j=bP P A Fin s j
   unfold bP;rcases G with⟨g,_⟩|⟨l,i,m,_⟩|⟨g,_⟩
   . subst g
     simp only[if_true,(d.ms a).1,(d.ms a).2]
   . subst m
     have e:A.b+l-A.b=l:=by omega
     have p:¬A.b+l=0:=by omega
     have r:A.b+l<A.b+A.n:=by omega
     simp only[if_neg p,if_pos r,e,d.w l i a]
   . subst g
     have p:¬A.b+A.n=0:=by omega
     have r:¬A.b+A.n<A.b+A.n:=by omega
     simp only[if_neg p,if_neg r,d.c a]
 . rcases u with⟨g,h⟩|⟨l,i,m,o⟩|⟨g,h⟩
   . subst g;exact .inl ⟨rfl,by rw[(d.ms a).1];exact h⟩
   . subst m;exact .inr (.inl ⟨l,i,rfl,by rw[d.w l i a];exact o⟩)
   . subst g;exact .inr (.inr ⟨rfl,by rw[d.c a];exact h⟩)
 . show dc P A s' j=dc P A s j
   unfold dc;rcases v with⟨g,_⟩|⟨l,i,m,_⟩|⟨g,_⟩
   . subst g
     simp only[if_true,(d.ms a).1]
   . subst m
     have e:A.b+l-A.b=l:=by omega
     have p:¬A.b+l=0:=by omega
     have r:A.b+l<A.b+A.n:=by omega
     simp only[if_neg p,if_pos r,e,d.w l i a]
   . subst g
     have p:¬A.b+A.n=0:=by omega
     have r:¬A.b+A.n<A.b+A.n:=by omega
     simp only[if_neg p,if_neg r,d.c a]
 . rcases hd with⟨l,sv,Y,i,m,o,t⟩|⟨g,o,t⟩
   . subst m;exact .inl ⟨l,sv,Y,i,rfl,by rw[d.w l i a];exact o,by rw[d.sh];exact t⟩
   . subst g;exact .inr ⟨rfl,by rw[d.c a];exact o,by rw[d.gm];exact t⟩
 . rcases u with⟨g,g₂,z,i,m,o,t⟩|h
   . subst g;exact .inl ⟨rfl,g₂,z,i,m,o,by rw[(d.ms a).2];exact t⟩
   . exact .inr h
 . exact λl b X i m o=>H l b X i m (by subst m;rw[<-o];exact(d.w l i a).symm)
theorem vk(d:A.b+A.n+1<=Z.lk)(e:bJ (cB P A Fin Z d) Z s f q kk OO J M gs w t){x:Goroutine}(g:gs[i]?=some x)(h:s.ms≠.parked\/i≠0):offersAt x A.cF false=[]:=by
 have B:=bm (P:=P) (A:=A) (Fin:=Fin) (Z:=Z) d;have hb:=A.hb;by_cases a:eM P A s i
 . obtain⟨_,_,_,_,y,k,u,m⟩:=e.held i a
   rw[g]at k;obtain rfl:=Option.some.inj k;rcases m with⟨o,_⟩|⟨j,c,p,g₂,z,v,r,_⟩
   . rcases a with⟨_,c⟩|⟨l,c,p,_⟩
     . rcases h with h|h
       . exact absurd c h
       . exact absurd o h
     . omega
   . rw[r,offersAt_parked_send']
 . exact e.quiet B g a _ _
theorem vl(d:A.b+A.n+1<=Z.lk)(e:bJ (cB P A Fin Z d) Z s f q kk OO J M gs w t){x:Goroutine}(g:gs[i]?=some x)(h:∀j,j<A.n->i=A.b+j->s.w j≠.wait)(r:Nat):offersAt x r true=[]:=by
 have B:=bm (P:=P) (A:=A) (Fin:=Fin) (Z:=Z) d;have hb:=A.hb;by_cases c:eM P A s i
 . obtain⟨_,_,_,_,y,k,u,m⟩:=e.held i c
   rw[g]at k;obtain rfl:=Option.some.inj k;rcases m with⟨v,g₂,z,a,_⟩|⟨j,C,D,_⟩
   . rw[a,offersAt_parked_recv']
   . rcases c with⟨a,_⟩|⟨l,a,o,p⟩
     . omega
     . obtain rfl:l=j:=by omega
       exact absurd p (h l a o)
 . exact e.quiet B g c _ _
theorem oR{i:Nat}{c:Nat}{b:Bool}(h:∀(j:Nat) (g:Goroutine),j≠i->gs[j]?=some g->offersAt g c b=[]):partners (gs.setIfInBounds i ph) c b=[]:=
 partners_nil λj g a=>by
  rcases getElem?_stand gs i j g a with⟨_,rfl⟩|⟨d,a⟩
  . exact offersAt_ph ..
  . exact h j g d a
end
section
variable{Z:Base}{kk:Nat->ah}{OO:Nat->ai}{J J' M M':Nat->Prop}{w w':World}{t u:Trace}
theorem cA.hand(h:cA Z kk OO J M w t){src dst:Nat}(l:src≠Z.lk)(o:dst≠Z.lk)(q:∀n,Knows t src n->Knows (t++u) dst n)(i:∀op∈u,op.act.touch?=none)(r:∀op∈u,op.act.low w.heap.size)(z:w'.heap.size=w.heap.size)(A:Calm Z w w')(hb:∀b,Kept kk OO w w' b)
 (d:∀n a,touchAt t n=some a->a.loc.isMemory=true->((∃j,J j/\Knows t j n)\/(∃p,M p/\Before t n p))->Told Z J' M' (t++u) n a):
 cA Z (bR kk dst ((kk dst).join (kk src))) OO J' M' w' (t++u):=by
 refine h.tY (λa b=>a=b\/(a=src/\b=dst)) z A hb r (λa b e n y _ _ _ g=>?_) (λj b n v c=>?_) (λj b s c=>?_) (λj b x B=>⟨j,.inl rfl,B,λs k=>?_⟩) h.ju
  (λsaid=>?_) (λop f a d=>by rw[i op f]at d;cases d) (λm op a f d=>by rw[i op (Array.mem_of_getElem? f)]at d;cases d) d
 . rcases e with rfl|⟨rfl,rfl⟩
   . exact g.app u
   . exact(oC o).2 (q n ((oC l).1 g))
 . by_cases e:j=dst
   . subst e
     rw[au]at c;rcases ah.lK c with c|c
     . exact⟨_,.inl rfl,c⟩
     . exact⟨src,.inr ⟨rfl,rfl⟩,c⟩
   . rw[az _ _ e]at c;exact⟨j,.inl rfl,c⟩
 . by_cases e:j=dst
   . subst e
     rw[au]at c;rcases ah.Br c with c|c
     . exact⟨_,.inl rfl,c⟩
     . exact⟨src,.inr ⟨rfl,rfl⟩,c⟩
   . rw[az _ _ e]at c;exact⟨j,.inl rfl,c⟩
 . by_cases e:j=dst
   . subst e;rw[au];exact(ah.mO _ _).sh b s k
   . rw[az _ _ e];exact k
 . exact noRace_appendMute (h.clean said) i
end
end Go.bd
namespace Go.bd
open Go.Conc
open Go.ConcN (sumTo upd sumTo_upd upd_ne upd_same)
variable{P:Program}
def MS.kY(s:MS P)(j:Nat)(x:bt P)(m1:pq)(sp1:Nat):MS P:={s with w:=λi=>if i=j then x else s.w i,ms:=m1,sp:=sp1}
section
variable{s:MS P}{j n:Nat}{x:bt P}{m1:pq}{sp1:Nat}
theorem fh:(s.kY j x m1 sp1).w j=x:=by simp[MS.kY]
theorem jy{i:Nat}(h:i≠j):(s.kY j x m1 sp1).w i=s.w i:=by simp[MS.kY,h]
theorem OR:(λi=>((s.kY j x m1 sp1).w i).pc)=Mu.set (λi=>(s.w i).pc) j x.pc:=by
 funext i;by_cases h:i=j
 . subst h;rw[fh,Mu.ak]
 . rw[jy h,Mu.ag _ _ h]
theorem DF(F:bt P->Nat)(a:j<n):sumTo n (λi=>F ((s.kY j x m1 sp1).w i))+F (s.w j)=sumTo n (λi=>F (s.w i))+F x:=by
 have e:(λi=>F ((s.kY j x m1 sp1).w i))=upd (λi=>F (s.w i)) j (F x):=by
  funext i;by_cases h:i=j
  . subst h;rw[fh,upd_same]
  . rw[jy h,upd_ne _ _ h]
 rw[e];have:=sumTo_upd (λi=>F (s.w i)) (F x) id a;simpa using this
theorem bT.kY(I:bT n s)(v:j<n)(H:x.cnt+m1.pend=(s.w j).cnt+s.ms.pend)(m:(s.w j).last=false)(g:x.last=false)(A:s.w j≠.gone)(o:x.ok=true)(q:x.pc=(s.w j).pc)(b:x.jv=false)
 (k:(sp1=s.sp/\(s.w j).jv=false)\/(sp1=s.sp+1/\j=s.sp)) (B:x.ik=true->s.c≠.none)
 (r:match (generalizing:=false) m1 with
   |.add l=>sp1+l=n/\s.c=.none
   |.bD l p=>sp1+l=n/\s.c=.none/\1<=l/\(p=.a0\/p=.a2\/p=.a4\/p=.ae)
   |.spawn l=>sp1+l+1=n/\s.c=.none
   |.recv=>sp1=n/\s.c≠.none
   |.parked=>sp1=n/\s.c≠.none/\s.c≠.gone/\∀i,i<n->(s.kY j x m1 sp1).w i≠.wait):bT n (s.kY j x m1 sp1):=by
 have y:=DF (s:=s) (x:=x) (m1:=m1) (sp1:=sp1) bt.cnt v
 have f:∀{i:Nat},((s.kY j x m1 sp1).w i).last=(s.w i).last:=λ{i}=>by
  by_cases e:i=j
  . subst e;rw[fh,m,g]
  . rw[jy e]
 have dn:∀{i:Nat}{p:vN},(p=.d5\/p=.d6\/p=.d7)->((s.kY j x m1 sp1).w i=.dn p↔s.w i=.dn p):=λ{i p} z=>by
  by_cases e:i=j
  . subst e
    rw[fh];constructor<;>intro h
    . rw[h]at g;rcases z with rfl|rfl|rfl<;>cases g
    . rw[h]at m;rcases z with rfl|rfl|rfl<;>cases m
  . rw[jy e]
 refine⟨?_,I.g2,I.tE,λi b h=>?_,λi l b m h d=>?_,λi b h=>?_,⟨I.g5.1,λh=>?_⟩,λh d t=>?_,λh d=>?_,λh=>?_,I.g9,λi a=>?_,I.Qy,?_,λi a=>?_,r,λh i a=>?_,?_⟩
 . have:=I.g1
   show s.gc=sumTo n (λi=>((s.kY j x m1 sp1).w i).cnt)+m1.pend;omega
 . exact I.g3 i b (h.imp (dn (.inl rfl)).1 (dn (.inr (.inl rfl))).1)
 . rw[f]at h d;exact I.zw i l b m h d
 . exact I.g4 i b ((dn (.inr (.inr rfl))).1 h)
 . obtain⟨C,D,E,F⟩:=I.g5.2 h
   exact⟨C,D,E,λi b=>by rw[f];exact F i b⟩
 . obtain⟨i,b,u⟩:=I.g6 h d t
   exact⟨i,b,(dn (.inr (.inr rfl))).2 u⟩
 . obtain⟨i,b,u⟩:=I.g7 h d
   exact⟨i,b,u.imp (dn (.inl rfl)).2 (dn (.inr (.inl rfl))).2⟩
 . exact absurd ((I.g8 h).2.2.2 j v) A
 . by_cases e:i=j
   . subst e;rw[fh];exact o
   . rw[jy e];exact I.ok i a
 . have:=I.sp
   show sp1<=n;rcases k with⟨h,_⟩|⟨h,d⟩<;>omega
 . show ((s.kY j x m1 sp1).w i).jv=true↔sp1<=i
   by_cases e:i=j
   . subst e
     rw[fh,b];rcases k with⟨h,d⟩|⟨h,d⟩
     . have:=I.idle i a
       rw[d]at this;rw[h];exact this
     . constructor
       . intro h;cases h
       . intro h;omega
   . rw[jy e]
     rcases k with⟨h,d⟩|⟨h,d⟩
     . rw[h];exact I.idle i a
     . rw[I.idle i a];omega
 . by_cases e:i=j
   . subst e;rw[fh]
     cases G:x.ik with
     |false=>rfl
     |true=>exact absurd h (B G)
   . rw[jy e];exact I.early h i a
 . rw[OR,q,mg (λi=>(s.w i).pc)];exact I.mu
theorem uA(a:j<n)(h:x.cS+m1.cS<(s.w j).cS+s.ms.cS):MS.gM n (s.kY j x m1 sp1) s:=by
 have:=DF (s:=s) (x:=x) (m1:=m1) (sp1:=sp1) bt.cS a;refine .inl ?_;show m1.cS+sumTo n (λi=>((s.kY j x m1 sp1).w i).cS)+s.c.cS s.gc<s.ms.cS+sumTo n (λi=>(s.w i).cS)+s.c.cS s.gc;omega
end
section
variable{A:eu}{Z:Base}{s s':MS P}{kk kk':Nat->ah}{OO:Nat->ai}{J J' M:Nat->Prop}{gsz gsz':Nat}{w w':World}{t u:Trace}
theorem dt.chan(h:dt P A Z s kk OO J M gsz w t)(hI:bT A.n s')(E:gsz'=A.b+s'.sp+(if s'.c.isNone then 0 else 1))(Q:∃x tm,w'.heap[A.cF]?=some (.chan 0 #[] s'.c.eD x x tm))(g:∀b,b≠A.cF->w'.heap[b]?=w.heap[b]?)
 (R:s'.sh=s.sh) (S:s'.gc=s.gc) (T:s'.gv=s.gv) (U:s'.gm=s.gm) (o:∀l,l<A.n->(s'.w l).owns=(s.w l).owns) (V:∀i b n v,(kk' i).cell b n=some v->∃l,(kk l).cell b n=some v) (K:kk' Z.lk=kk Z.lk)
 (W:∀i,J' i↔fF P A s' i) (d:s'.c=s.c\/(s.c=.none/\s'.c=.eU/\∀m,Knows t 0 m->Knows (t++u) (A.b+A.n) m)) (hu:∀op∈u,op.act.touch?=none/\∀a,op.act≠.mark (.release a))
 (C:∀i,bU P A s' i->bU P A s i\/(∀m,Knows t 0 m->Knows (t++u) i m)) (L:∀i,i≠Z.lk -> ¬bU P A s' i->kk' i=ah.bot/\OO i=ai.bot):
 dt P A Z s' kk' OO J' M gsz' w' (t++u):=by
 have r:∀{m:Nat}{a:Touch},touchAt (t++u) m=some a->touchAt t m=some a:=λ{m a} B=>by
  rcases mQ B with⟨k,_⟩|⟨op,F,k⟩
  . exact k
  . rw[(hu op F).1]at k;cases k
 have j:∀i b n,(∀l,(kk l).cell b n=none)->(kk' i).cell b n=none:=λi b n hn=>by
  cases e:(kk' i).cell b n with
  |none=>rfl
  |some v=>obtain⟨l,z⟩:=V i b n v e;rw[hn l]at z;cases z
 have G:s'.c=.gone->s.c=.gone:=λe=>by
  rcases d with d|⟨_,d,_⟩
  . rw[<-d];exact e
  . rw[d]at e;cases e
 refine⟨hI,E,Q,by rw[R];exact h.mu.same (.of_heap (g _ (Ne.symm A.d1))),by rw[S,T,U];exact h.gr.same (.of_heap (g _ (Ne.symm A.d2))),by rw[g _ (Ne.symm A.d1)];exact h.vg,by rw[g _ (Ne.symm A.d2)];exact h.yX,h.fV,
  λi=>⟨j i _ _ λl=>(h.dZ l).1,j i _ _ λl=>(h.dZ l).2.1,j i _ _ λl=>(h.dZ l).2.2.1,j i _ _ λl=>(h.dZ l).2.2.2⟩,λi y hy=>?_,λl z H=>h.xJ l z (by rw[<-o l z];exact H),λH=>?_,λc d=>?_,
  W,λp hp=>?_,λd=>h.lD u (G d),λm a B N O i X=>?_,λm a B N O=>?_,λi X m a Y B D hz=>?_,h.iy u (λop F=>(hu op F).2),L,h.rE,h.jV,h.eN,h.la,by simp;exact Nat.le_trans h.n0 (Nat.le_add_right _ _)⟩
 . obtain⟨l,f,q,I,h5,h6⟩:=h.tok i y hy
   exact⟨l,f,q,I,by rw[o l q];exact h5,h6⟩
 . rw[K];exact h.Lf λl z=>by rw[<-o l z];exact H l z
 . obtain⟨q,I⟩:=h.JF c d
   exact⟨q,λl z=>by rw[o l z];exact I l z⟩
 . obtain⟨k,h2,q⟩:=h.sY u p hp
   refine⟨k,h2,?_⟩;rcases q with⟨q,I⟩|⟨q,I⟩
   . refine .inl ⟨q,?_⟩
     rcases d with d|⟨_,d,_⟩
     . rw[d];exact I
     . exact .inr (.inl d)
   . refine .inr ⟨?_,I⟩
     rcases d with d|⟨d,_⟩
     . rw[d];exact q
     . rw[d]at q;cases q
 . rcases C i X with k|k
   . exact(h.quiet m a (r B) N O i k).app u
   . exact k m (h.quiet m a (r B) N O 0 (.inl rfl))
 . have h0:=h.said m a (r B) N O
   rcases d with d|⟨d,a7,k⟩
   . rw[d];exact h0.app u
   . rw[d]at h0
     rw[a7];exact k m h0
 . have a8:m<t.size:=Nat.lt_of_lt_of_le Y h.n0
   rcases C i X with k|k
   . exact(h.old i k m a Y (r B) D hz).app u
   . exact k m (h.old 0 (.inl rfl) m a Y (r B) D hz)
end
end Go.bd
namespace Go.bd
open Go.Conc
open Go.ConcN (sumTo upd sumTo_upd upd_ne upd_same)
section
variable{P:Program}{A:eu}{Fin:ah->ai->Goroutine->Prop}{Z:Base}{s s':MS P}{f f':Nat->Node P}{q q':Nat->Nat}{kk kk':Nat->ah}{OO OO':Nat->ai}{J J' M M':Nat->Prop}{gs gs':Array Goroutine}{w w':World}{t u:Trace}{j:Nat}{g g₂:Goroutine}{z v:Value}
theorem FF(h:∀l,l<A.n->(s'.w l).ik=(s.w l).ik):MS.rem P A.n s'=MS.rem P A.n s:=by unfold MS.rem;exact List.filter_congr λl a=>by rw[h l (List.mem_range.1 a)]
theorem ta{l:Nat}:l∈MS.rem P A.n s↔l<A.n/\(s.w l).ik=false:=by unfold MS.rem;rw[List.mem_filter,List.mem_range];simp
theorem OS{m1:pq}{sp1:Nat}(c:j<A.n)(h:(s.w j).ik=false):MS.rem P A.n (s.kY j .Ah m1 sp1)=(MS.rem P A.n s).erase j/\(MS.rem P A.n s).length=(MS.rem P A.n (s.kY j .Ah m1 sp1)).length+1:=by
 have e:MS.rem P A.n (s.kY j .Ah m1 sp1)=(MS.rem P A.n s).erase j:=by
  unfold MS.rem;rw[List.Nodup.erase_eq_filter (List.Nodup.sublist List.filter_sublist List.nodup_range),List.filter_filter];refine List.filter_congr λi _=>?_
  by_cases a:i=j
  . subst a;rw[fh];simp[bt.ik]
  . rw[jy a];simp[a]
 refine⟨e,?_⟩;have b:j∈MS.rem P A.n s:=ta.2 ⟨c,h⟩;rw[e,List.length_erase_of_mem b];have:=List.length_pos_of_mem b;omega
theorem xT(c:j<A.n)(e:s.w j=.wait):¬dH P A s (A.b+j):=by
 have:=A.hb;rintro(⟨e,_⟩|⟨l,d,f,a⟩|⟨e,_⟩)
 . omega
 . obtain rfl:l=j:=by omega
   rw[e]at a;exact a
 . omega
theorem rP(c:j<A.n)(e:s.w j=.wait\/s.w j=.Ah):¬fE P A s (A.b+j):=by
 have:=A.hb;rintro(⟨e,_⟩|⟨l,d,f,a⟩|⟨e,_⟩)
 . omega
 . obtain rfl:l=j:=by omega
   rcases e with e|e<;>rw[e]at a<;>exact a
 . omega
theorem DG(c:j<A.n)(e:s.w j=.Ah):bP P A Fin s (A.b+j)=qH P A:=by
 have:=A.hb;unfold bP;rw[if_neg (by omega),if_pos (by omega)];have a:A.b+j-A.b=j:=by omega
 rw[a,e]
theorem gW(g:Nat)(fn:FuncId)(pos:String):MemOp.ofEvents g fn pos #[]=#[]:=by rw[ofEvents_eq];simp
theorem oT(t:Trace):t++(#[]:Trace)=t:=by simp
theorem DH:lZ #[]:=λop h=>by simp at h
theorem OT(F:A.b+A.n+1<=Z.lk)(D:bJ (cB P A Fin Z F) Z s f q kk OO J M gs w t)(m:j<A.n){Y:Node P}(k:s.w j=.run false Y)(U:s.ms≠.parked)(W:gs[A.b+j]?=some g)
 (hs:∀w,Sat (kk (A.b+j)) (OO (A.b+j)) w->stepG P false g w=.comm g₂ #[scase A.cF v z] true .send w #[]) (hO:OO (A.b+j) A.fb=none) (hv:V (kk (A.b+j)) v (A.res j)) (ht:T P (qH P A) ja (kk (A.b+j)) (OO (A.b+j)) (Go.Conc.served g₂ undef)) (sl:Option (Nat × Nat)):
 Goes P A Fin Z F s gs w t sl (A.b+j):=by
 have o:dt P A Z s kk OO J M gs.size w t:=D.ex;have hb:=A.hb;have G:(A.b+j==0)=false:=by simp;omega
 obtain⟨c,tm,X⟩:=o.yE
 have H:s.c.eD=false:=by
  cases e:s.c with
  |gone=>have:=(o.I.g8 (by rw[e];rfl)).2.2.2 j m;rw[k]at this;cases this
  |_=>rfl
 rw[H]at X;have K:=(Array.getElem?_eq_some_iff.1 W).1;obtain⟨_,_,_,_,_,_,hd,_⟩:=D.live _ (kH m k)
 have L:∀N∈(#[scase A.cF v z]:Array CommCase),NoWays w (gs.setIfInBounds (A.b+j) ph) N:=λN O=>by
  have:N=scase A.cF v z:=by simpa using O
  subst this;exact ways_send_none X (by simp) (oR λi x _ hx=>vk F D hx (.inl U))
 have r:=crowd_waits (P:=P) (sl:=sl) W (by rw[G];exact hs w (D.cE.sat _)) L
 rw[gW]at r;have Q:∀i,¬(i=A.b+j)->(gs.setIfInBounds (A.b+j) (parked g₂ #[scase A.cF v z] .send))[i]?=gs[i]?:=λi E=>Array.getElem?_setIfInBounds_ne (Ne.symm E)
 have u:(gs.setIfInBounds (A.b+j) (parked g₂ #[scase A.cF v z] .send))[A.b+j]?=some (parked g₂ #[scase A.cF v z] .send):=Array.getElem?_setIfInBounds_self_of_lt K;have hP:cA Z kk OO J M w (t++#[]):=by rw[oT];exact D.cE
 obtain⟨s',a⟩:∃s',s'=s.kY j .wait s.ms s.sp:=⟨_,rfl⟩;have d:s'.w j=.wait:=by rw[a,fh]
 have p:∀{l:Nat},l≠j->s'.w l=s.w l:=λh=>by rw[a,jy h]
 have hI:bT A.n s':=by
  rw[a];refine o.I.kY m (by rw[k];rfl) (by rw[k];rfl) rfl (by rw[k];simp) rfl (by rw[k];rfl) rfl (.inl ⟨rfl,by rw[k];rfl⟩) (λh=>by cases h) ?_
  have:=o.I.ms;cases e:s.ms with
  |parked=>exact absurd e U
  |_=>rw[e]at this;exact this
 have y:∀l,l<A.n->(s'.w l).ik=(s.w l).ik:=λl _=>by
  by_cases e:l=j
  . subst e;rw[d,k];rfl
  . rw[p e]
 have B:∀l,(s'.w l).busy=(s.w l).busy:=λl=>by
  by_cases e:l=j
  . subst e;rw[d,k];rfl
  . rw[p e]
 have R:dt P A Z s' kk OO J M (gs.setIfInBounds (A.b+j) (parked g₂ #[scase A.cF v z] .send)).size w (t++#[]):=by
  refine o.chan hI (by rw[Array.size_setIfInBounds,a];exact o.size) (by rw[a];exact o.yE) (λ_ _=>rfl) (by rw[a];rfl) (by rw[a];rfl) (by rw[a];rfl) (by rw[a];rfl) (λl _=>?_) (λi b n v h=>⟨i,h⟩) rfl (λi=>?_) (.inl (by rw[a];rfl)) (λop h=>by simp at h) (λi E=>.inl ?_) (λi S hn=>o.Dl i S λh=>hn ?_)
  . by_cases e:l=j
    . subst e;rw[d,k];rfl
    . rw[p e]
  . rw[o.hJ i]
    unfold fF;simp only[B,show s'.c=s.c by rw[a];rfl]
  . rw[a]at E;exact E
  . rw[a];exact h
 have hL:MS.gM A.n s' s:=by rw[a];exact uA m (by rw[k];simp[bt.cS])
 have hS:gV A s s' (λi=>i=A.b+j):=⟨λl _ hl=>p (by omega),λ_=>by rw[a];rfl,λ_=>⟨by rw[a];rfl,FF y⟩,by rw[a];rfl,by rw[a];rfl⟩
 refine⟨_,_,r,s',f,q,kk,OO,J,M,_,_,_,rfl,hL,?_⟩;refine D.Is DH hP R (by simp) (λi=>i=A.b+j) Q (lO F hS (λ_ _=>rfl) (λ_ _=>rfl) (λ_ _ _=>rfl) (λ_ _ _=>rfl) (λ_ _ _ h=>h)) (λi E=>?_)
 subst E;have C:eM P A s' (A.b+j):=.inr ⟨j,m,rfl,d⟩;refine⟨_,u,λh=>absurd h (xT m d),λh=>absurd h (rP m (.inl d)),λ_=>⟨xT m d,rP m (.inl d),?_,by rw[oT];exact hd,rfl,.inr ⟨j,m,rfl,g₂,z,v,rfl,hv,hO,ht⟩⟩,λ_ _ h=>absurd C h⟩
 show A.b+j<A.b+A.n+1;omega
def mW(a b c s r cap:Nat)(f1 d:FuncId)(e f:String):Trace:=#[{g:=a,fn:=f1,pos:=e,act:=.send c s},{g:=b,fn:=d,pos:=f,act:=.recv c r cap},{g:=a,fn:=f1,pos:=e,act:=.sendDone c s},{g:=b,fn:=d,pos:=f,act:=.recvDone c r}]
theorem kJ{a b c s r cap:Nat}{f1 d:FuncId}{e f:String}{op:MemOp}(h:op∈mW a b c s r cap f1 d e f):op.act.touch?=none/\(op.act≠.mark .disable/\op.act≠.mark .enable)/\(∀B,c<B->op.act.low B)/\∀a,op.act≠.mark (.release a):=by
 simp only[mW,List.mem_toArray,List.mem_cons,List.not_mem_nil,or_false]at h;rcases h with rfl|rfl|rfl|rfl<;>exact⟨rfl,⟨by simp,by simp⟩,λB g=>g,by simp⟩
theorem te{w:World}{c cap s r:Nat}{buf:Array Value}{e tm:Bool}{d:Nat}(f:ChanAt w c){b:Nat}:
 ((w.at d).setChan c cap buf e s r tm).heap[b]?=if b=c then some (.chan cap buf e s r tm)else w.heap[b]?:=by
 obtain⟨_,_,_,_,_,_,h⟩:=f;have a:=(Array.getElem?_eq_some_iff.1 h).1;simp only[World.setChan,World.at];by_cases hb:b=c
 . subst hb;rw[if_pos rfl,Array.getElem?_setIfInBounds_self_of_lt a]
 . rw[if_neg hb,Array.getElem?_setIfInBounds_ne (Ne.symm hb)]
theorem xU(m:Nat)(R:List Nat):(qV P A Fin m R).solo=false:=by cases m<;>rfl
theorem nW(e:s.ms=.recv):bP P A Fin s 0=qV P A Fin (MS.rem P A.n s).length (MS.rem P A.n s):=by unfold bP;rw[if_pos rfl,e]
theorem iX(e:s.ms=.recv):dH P A s 0:=.inl ⟨rfl,by rw[e];trivial⟩
theorem tg(e:s.ms=.recv\/s.ms=.parked):¬fE P A s 0:=by
 have:=A.hb;rintro(⟨_,h⟩|⟨l,a,b,c⟩|⟨h,_⟩)
 . rcases e with e|e<;>rw[e]at h<;>exact h
 . omega
 . omega
theorem DI{x:Node P}:Oz P A s 0 x:=λj h X a b _=>by have:=A.hb;omega
theorem OU{x:Node P}(e:s.w j=.Ah):Oz P A s (A.b+j) x:=λl h X c d a=>by
 obtain rfl:l=j:=by omega
 rw[e]at a;cases a
theorem handed(hZ:A.b+A.n+1<=Z.lk)(O:bJ (cB P A Fin Z hZ) Z s f q kk OO J M gs w t)(D:j<A.n)(H:s.ms=.recv\/s.ms=.parked)(K:s.w j=.wait\/∃X0,s.w j=.run false X0)(bA:(s.w j).cS+s.ms.cS=119){c:Nat}{tm:Bool}{gw gm:Goroutine}{v:Value}(d:Nat)
 (hF:w.heap[A.cF]?=some (.chan 0 #[] false c c tm)) (dj:Deaf t (A.b+j)=0) (d0:Deaf t 0=0)
 (a8:gs'.size=gs.size) (hw:gs'[A.b+j]?=some gw) (hm:gs'[0]?=some gm) (ho:∀i,i≠0->i≠A.b+j->gs'[i]?=gs[i]?)
 (hv:V (kk (A.b+j)) v (A.res j)) (a9:T P (qH P A) ja (kk (A.b+j)) (OO (A.b+j)) gw)
 (ad:∀k',(kk 0).Le k'->V k' v (A.res j)->T P (qV P A Fin ((MS.rem P A.n s).length-1) ((MS.rem P A.n s).erase j)) ja k' (OO 0) gm) (f1 Q:FuncId) (R S:String):
 ∃s' f' kk',MS.gM A.n s' s/\bJ (cB P A Fin Z hZ) Z s' f' q kk' OO J M gs' ((w.at d).setChan A.cF 0 #[] false (c+1) (c+1) tm) (t++mW (A.b+j) 0 A.cF c c 0 f1 Q R S):=by
 have C:dt P A Z s kk OO J M gs.size w t:=O.ex;have hb:=A.hb;have z:ChanAt w A.cF:=⟨_,_,_,_,_,_,hF⟩;have al:A.cF<w.heap.size:=(Array.getElem?_eq_some_iff.1 hF).1;have hu:lZ (mW (A.b+j) 0 A.cF c c 0 f1 Q R S):=λop h=>(kJ h).2.1
 have av:(kk (A.b+j)).Le ((kk 0).join (kk (A.b+j))):=ah.pP (O.cE.sat 0) (O.cE.sat _);have ax:=ad _ (ah.mO _ _) (hv.mono av);obtain⟨U⟩:=T.tree (xU (P:=P) (A:=A) (Fin:=Fin) _ _) ax;obtain⟨W⟩:=T.tree (P:=P) (m:=qH P A) rfl a9;have bB:=H
 have X:s.sp=A.n/\s.c≠.none:=by
  have:=C.I.ms
  rcases H with e|e<;>rw[e]at this
  . exact this
  . exact⟨this.1,this.2.1⟩
 have ay:s.c.eD=false:=by
  cases e:s.c with
  |gone=>have:=(C.I.g8 (by rw[e];rfl)).2.2.2 j D;rcases K with h|⟨_,h⟩<;>rw[h]at this<;>cases this
  |_=>rfl
 have hP:cA Z (bR kk 0 ((kk 0).join (kk (A.b+j)))) OO J M ((w.at d).setChan A.cF 0 #[] false (c+1) (c+1) tm) (t++mW (A.b+j) 0 A.cF c c 0 f1 Q R S):=by
  refine O.cE.hand (src:=A.b+j) (dst:=0) (by omega) (by omega) (λn hn=>?_) (λop h=>(kJ h).1) (λop h=>(kJ h).2.2.1 _ al) (by simp[World.setChan,World.at]) ⟨⟨.refl _,rfl⟩,λb hb=>by have:=C.eN.1;simp only[World.setChan,World.at];exact Array.getElem?_setIfInBounds_ne (by omega)⟩ (λb=>?_) (λn a ha hm h=>h.elim (λ⟨j,h1,h2⟩=>.inr (.inl ⟨j,h1,h2.app _⟩)) (λ⟨p,h1,h2⟩=>.inr (.inr (.inl ⟨p,h1,h2.app _⟩))))
  . exact xv (t:=t) hu (m1:=0) (m2:=3) (c:=A.cF) (k:=c) (x:={g:=A.b+j,fn:=f1,pos:=R,act:=.send A.cF c}) (y:={g:=0,fn:=Q,pos:=S,act:=.recvDone A.cF c}) rfl rfl rfl rfl dj d0 hn
  . unfold Kept
    rw[te z]
    by_cases E:b=A.cF
    . subst E
      exact .inr (.inl ⟨z,⟨_,_,_,_,_,_,by rw[te z,if_pos rfl]⟩,λi=>(C.fV i).1⟩)
    . rw[if_neg E];exact .inl rfl
 have b0:(s.w j).ik=false:=by rcases K with h|⟨_,h⟩<;>rw[h]<;>rfl
 obtain⟨s',o⟩:∃s',s'=s.kY j .Ah .recv s.sp:=⟨_,rfl⟩;obtain⟨B,Y⟩:=OS (A:=A) (s:=s) (m1:=.recv) (sp1:=s.sp) D b0;rw[<-o]at B Y;have r:s'.w j=.Ah:=by rw[o,fh]
 have L:∀{l:Nat},l≠j->s'.w l=s.w l:=λh=>by rw[o,jy h]
 have F:s'.c=s.c:=by rw[o];rfl
 have G:s'.ms=.recv:=by rw[o];rfl
 have b8:(s.w j).busy=true/\(s.w j).cnt=1/\(s.w j).last=false/\(s.w j).pc=.out/\(s.w j).jv=false/\s.w j≠.gone/\(s.w j).owns=false:=by rcases K with h|⟨_,h⟩<;>rw[h]<;>simp[bt.busy,bt.cnt,bt.last,bt.pc,bt.jv,bt.owns]
 obtain⟨b1,b2,b3,b4,b5,b6,b7⟩:=b8
 have hI:bT A.n s':=by rw[o];refine C.I.kY D (by rw[b2];rcases H with e|e<;>rw[e]<;>rfl) b3 rfl b6 rfl (by rw[b4];rfl) rfl (.inl ⟨rfl,b5⟩) (λ_=>X.2) X
 have N:∀l,(s'.w l).busy=(s.w l).busy:=λl=>by
  by_cases e:l=j
  . subst e;rw[r,b1];rfl
  . rw[L e]
 have b9:dt P A Z s' (bR kk 0 ((kk 0).join (kk (A.b+j)))) OO J M gs'.size ((w.at d).setChan A.cF 0 #[] false (c+1) (c+1) tm) (t++mW (A.b+j) 0 A.cF c c 0 f1 Q R S):=by
  refine C.chan hI (by rw[a8,o];exact C.size) ⟨c+1,tm,by rw[te z,if_pos rfl,F,ay]⟩ (λb E=>by rw[te z,if_neg E]) (by rw[o];rfl) (by rw[o];rfl) (by rw[o];rfl) (by rw[o];rfl) (λl _=>?_) (λi b n v h=>?_) (az _ _ (by omega)) (λi=>?_) (.inl F) (λop h=>⟨(kJ h).1,(kJ h).2.2.2⟩) (λi u=>.inl ?_) (λi bq hn=>?_)
  . by_cases e:l=j
    . subst e;rw[r,b7];rfl
    . rw[L e]
  . by_cases e:i=0
    . subst e
      rw[au]at h;exact(ah.lK h).elim (λh=>⟨0,h⟩) (λh=>⟨_,h⟩)
    . rw[az _ _ e]at h;exact⟨i,h⟩
  . rw[C.hJ i]
    unfold fF;simp only[N,F]
  . rw[o]at u;exact u
  . have a7:¬bU P A s i:=λh=>hn (by rw[o];exact h)
    rw[az _ _ (λe=>a7 (.inl e))]
    exact C.Dl i bq a7
 have hL:MS.gM A.n s' s:=by rw[o];refine uA D ?_;have e1:(bt.Ah (P:=P)).cS=18:=rfl;have e2:pq.recv.cS=100:=rfl;omega
 have hS:gV A s s' (λi=>i=0\/i=A.b+j):=⟨λl _ hl=>L (λe=>hl (.inr (by omega))),λ_=>F,λh=>absurd (.inl rfl) h,by rw[o];rfl,by rw[o];rfl⟩
 refine⟨s',bR (bR f 0 ⟨_,_,_,_,U⟩) (A.b+j) ⟨_,_,_,_,W⟩,bR kk 0 ((kk 0).join (kk (A.b+j))),hL,?_⟩;refine O.Is hu hP b9 (by omega) (λi=>i=0\/i=A.b+j) (λi u=>ho i (λe=>u (.inl e)) (λe=>u (.inr e))) (lO hZ hS (λi u=>by rw[az _ _ (λe=>u (.inr e)),az _ _ (λe=>u (.inl e))]) (λ_ _=>rfl) (λi u _=>az _ _ (λe=>u (.inl e))) (λ_ _ _=>rfl) (λ_ _ _ h=>h)) (λi u=>?_)
 rcases u with rfl|rfl
 . refine⟨gm,hm,λ_=>?_,λh=>absurd h (tg (.inl G)),λh=>absurd h (mV (by rw[G];simp)),λh=>absurd (iX G) h⟩
   have bz:(0:Nat)≠A.b+j:=by omega
   rw[az _ _ bz,au,au];refine⟨by show 0<A.b+A.n+1;omega,rfl,?_,rfl,rfl,U.running,by rw[cy hu];exact d0,.inl rfl,DI⟩
   show qV P A Fin _ _=bP P A Fin s' 0;rw[nW G,B];congr 1;rw[B]at Y;omega
 . refine⟨gw,hw,λ_=>?_,λh=>absurd h (rP D (.inr r)),λh=>absurd h (Ai D r),λh=>absurd (xS D r) h⟩
   rw[au,az _ _ (by omega)]
   refine⟨by show A.b+j<A.b+A.n+1;omega,rfl,?_,rfl,rfl,W.running,by rw[cy hu];exact dj,.inr ((C.hJ _).2 (.inl ⟨j,D,rfl,b1⟩)),OU r⟩
   show qH P A=bP P A Fin s' (A.b+j);rw[DG D r]
end
section
variable{P:Program}{A:eu}{Fin:ah->ai->Goroutine->Prop}{Z:Base}{s s':MS P}{f f':Nat->Node P}{q q':Nat->Nat}{kk kk':Nat->ah}{OO OO':Nat->ai}{J J' M M':Nat->Prop}{gs gs':Array Goroutine}{w w':World}{t u:Trace}{j:Nat}{g g₂:Goroutine}{z v:Value}
theorem It{k:ah}{O:ai}{g g₂ a:Goroutine}{z y:Value}(h:dP P A k O g g₂ z)(c:dP P A k O g a y)(b:Sat k O w):a=g₂/\y=z:=by have e:=(h w b).symm.trans (c w b);simp only[GStep.comm.injEq,rcase]at e;simp at e;exact⟨e.1.symm,e.2.symm⟩
theorem FG{g g':Goroutine}{cs a:Array CommCase}{sh b:CommShape}(h:parked g cs sh=parked g' a b):(∀v,Go.Conc.served g v=Go.Conc.served g' v)/\cs=a/\sh=b/\g.frame=g'.frame:=by
 refine⟨λv=>?_,?_,?_,?_⟩
 . show Go.Conc.served (parked g cs sh) v=Go.Conc.served (parked g' a b) v;rw[h]
 . have:=congrArg (λx:Goroutine=>x.offers) h
   simp only[parked,Option.some.injEq,Prod.mk.injEq]at this;exact this.1
 . have:=congrArg (λx:Goroutine=>x.offers) h
   simp only[parked,Option.some.injEq,Prod.mk.injEq]at this;exact this.2
 . show(parked g cs sh).frame=(parked g' a b).frame;rw[h]
theorem Aj{k:ah}{O:ai}{g g₂:Goroutine}{z:Value}{m:Nat}{R:List Nat}{N:ah->ai->Goroutine->Prop}(h:(qV P A Fin (m+1) R).dC k O g N)(b:dP P A k O g g₂ z)(c:Sat k O w){j:Nat}(d:j∈R):
 ∀k' v,k.Le k'->V k' v (A.res j)->T P (qV P A Fin m (R.erase j)) ja k' O (g₂.finishComm P #[rcase A.cF z] (.recv true) 0 v true):=by
 obtain⟨_,a,y,e,i,l,f⟩:=h;obtain⟨rfl,rfl⟩:=It b e c;exact f j d
theorem Lw{m:Nat}{R:List Nat}{k:ah}{O:ai}{g:Goroutine}{N:ah->ai->Goroutine->Prop}(h:(qV P A Fin m R).dC k O g N):
 ∃g₂ z,dP P A k O g g₂ z/\dP P A k O g₂ g₂ z/\g₂.status=.running/\(qV P A Fin m R).dC k O g₂ ja:=by
 cases m with
 |zero=>obtain⟨_,g₂,z,c,a,b,d⟩:=h;exact⟨g₂,z,c,a,b,rfl,g₂,z,a,a,b,d⟩
 |succ m=>obtain⟨_,g₂,z,c,a,b,d⟩:=h;exact⟨g₂,z,c,a,b,rfl,g₂,z,a,a,b,d⟩
theorem xV(a:j<A.n)(h:(s.w j).ik=false):∃m,(MS.rem P A.n s).length=m+1:=by have:j∈MS.rem P A.n s:=ta.2 ⟨a,h⟩;have:=List.length_pos_of_mem this;exact⟨(MS.rem P A.n s).length-1,by omega⟩
theorem DJ(I:bT A.n s)(a:j<A.n)(h:s.w j≠.gone):s.c.eD=false:=by
 cases e:s.c with
 |gone=>exact absurd ((I.g8 (by rw[e];rfl)).2.2.2 j a) h
 |_=>rfl
theorem Lx(C:A.b+A.n+1<=Z.lk)(e:bJ (cB P A Fin Z C) Z s f q kk OO J M gs w t)(o:j<A.n){O:Node P}(p:s.w j=.run false O)(D:s.ms=.parked)(Q:gs[A.b+j]?=some g)
 (W:∀w,Sat (kk (A.b+j)) (OO (A.b+j)) w->stepG P false g w=.comm g₂ #[scase A.cF v z] true .send w #[]) (X:V (kk (A.b+j)) v (A.res j)) (Y:T P (qH P A) ja (kk (A.b+j)) (OO (A.b+j)) (Go.Conc.served g₂ undef)) (sl:Option (Nat × Nat)):
 Goes P A Fin Z C s gs w t sl (A.b+j):=by
 have R:dt P A Z s kk OO J M gs.size w t:=e.ex;have hb:=A.hb;have E:(A.b+j==0)=false:=by simp;omega
 obtain⟨c,tm,F⟩:=R.yE;rw[DJ R.I o (by rw[p];simp)]at F
 have G:=(Array.getElem?_eq_some_iff.1 Q).1;obtain⟨_,_,_,_,_,_,hd,_⟩:=e.live _ (kH o p);obtain⟨_,_,_,d0,gp,H,_,p5⟩:=e.held 0 (.inl ⟨rfl,D⟩);obtain⟨_,gm,S,rfl,p6,p7,U⟩|⟨l,h1,h2,_⟩:=p5
 . have a:=stand_get (i:=A.b+j) (show(0:Nat)≠A.b+j by omega) H
   have h:partners (gs.setIfInBounds (A.b+j) ph) A.cF false=[(0,0)]:=by
    rw[partners_one a (λk x hk K=>?_),offersAt_parked_recv,if_pos rfl]
    . rfl
    . rcases getElem?_stand gs (A.b+j) k x K with⟨_,rfl⟩|⟨a7,K⟩
      . exact offersAt_ph ..
      . exact vk C e K (.inr hk)
   have d:=crowd_send_meets (P:=P) (sl:=sl) Q (by rw[E];exact W w (e.cE.sat _)) F (by omega) H h
   rw[gW]at d;have r:(s.w j).ik=false:=by rw[p];rfl
   obtain⟨m,u⟩:=xV (A:=A) (s:=s) o r;rw[u]at U;have y:0<gs.size:=(Array.getElem?_eq_some_iff.1 H).1
   obtain⟨s',f',kk',hL,B⟩:=handed C e o (.inr D) (.inr ⟨O,p⟩) (by rw[p,D];rfl) (gs':=(gs.setIfInBounds 0 (gm.finishComm P #[rcase A.cF S] (.recv true) 0 v true)).setIfInBounds (A.b+j) (g₂.finishComm P #[scase A.cF v z] .send 0 undef false)) (gw:=Go.Conc.served g₂ undef) (gm:=gm.finishComm P #[rcase A.cF S] (.recv true) 0 v true) w.drawn F hd d0 (by simp)
    (by rw[Array.getElem?_setIfInBounds_self_of_lt (by simpa using G)];rfl) (by rw[Array.getElem?_setIfInBounds_ne (by omega),Array.getElem?_setIfInBounds_self_of_lt y])
    (λi L N=>by rw[Array.getElem?_setIfInBounds_ne (Ne.symm N),Array.getElem?_setIfInBounds_ne (Ne.symm L)]) X Y
    (λk' L N=>by rw[u];exact Aj U p6 (e.cE.sat 0) (ta.2 ⟨o,r⟩) k' v L N) g₂.frame.fn gm.frame.fn g₂.frame.place gm.frame.place
   refine⟨_,_,d,s',f',q,kk',OO,J,M,_,_,sl,rfl,hL,?_⟩;rw[show w.at w.drawn=w from rfl]at B
   simpa[mW]using B
 . omega
theorem Ly(L:A.b+A.n+1<=Z.lk)(u:bJ (cB P A Fin Z L) Z s f q kk OO J M gs w t)(hm:s.ms=.recv)(hj:j<A.n)(hw:s.w j=.wait)(hg:gs[0]?=some g)
 (hs:dP P A (kk 0) (OO 0) g g₂ z){N:ah->ai->Goroutine->Prop}(ht:(qV P A Fin (MS.rem P A.n s).length (MS.rem P A.n s)).dC (kk 0) (OO 0) g N) (sl:Option (Nat × Nat)):
 Goes P A Fin Z L s gs w t sl 0:=by
 have hE:dt P A Z s kk OO J M gs.size w t:=u.ex;have hb:=A.hb;obtain⟨c,tm,hF⟩:=hE.yE;rw[DJ hE.I hj (by rw[hw];simp)]at hF
 have a7:=(Array.getElem?_eq_some_iff.1 hg).1;obtain⟨_,_,_,_,_,_,d0,_⟩:=u.live _ (iX hm)
 have h:∀{i:Nat}{x:Goroutine},gs[i]?=some x->i≠0->eM P A s i->∃a,a<A.n/\i=A.b+a/\s.w a=.wait/\∃p v o,x=parked p #[scase A.cF o v] .send/\V (kk i) o (A.res a)/\T P (qH P A) ja (kk i) (OO i) (Go.Conc.served p undef):=λ{i x} E B C=>by
  obtain⟨_,_,_,_,y,r1,r2,r3⟩:=u.held i C;rw[E]at r1;obtain rfl:=Option.some.inj r1
  rcases r3 with⟨h0,_⟩|⟨a,h1,h2,p,v,o,h3,h4,_,h5⟩
  . exact absurd h0 B
  . refine⟨a,h1,h2,?_,p,v,o,h3,h4,h5⟩
    rcases C with⟨h6,_⟩|⟨l,h6,h7,h8⟩
    . exact absurd h6 B
    . obtain rfl:l=a:=by omega
      exact h8
 obtain⟨_,_,_,_,x0,e0,_⟩:=u.held (A.b+j) (.inr ⟨j,hj,rfl,hw⟩);obtain⟨a0,_,_,_,al,av,ax,rfl,_⟩:=h e0 (by omega) (.inr ⟨j,hj,rfl,hw⟩)
 have a8:partners (gs.setIfInBounds 0 ph) A.cF true≠[]:=λe=>by
  have:(A.b+j,0)∈partners (gs.setIfInBounds 0 ph) A.cF true:=mem_partners.2 ⟨_,stand_get (by omega) e0,by rw[offersAt_parked_send,if_pos rfl];simp⟩
  rw[e]at this;cases this
 have F:∀i k,(i,k)∈partners (gs.setIfInBounds 0 ph) A.cF true->k=0/\i≠0/\∃x,gs[i]?=some x/\eM P A s i:=λi k G=>by
  obtain⟨x,E,K⟩:=mem_partners.1 G
  rcases getElem?_stand gs 0 i x E with⟨_,rfl⟩|⟨hi,E⟩
  . rw[offersAt_ph]at K;cases K
  . by_cases C:eM P A s i
    . obtain⟨a,_,_,_,p,v,o,rfl,_⟩:=h E hi C
      rw[offersAt_parked_send,if_pos rfl]at K;exact⟨by simpa using K,hi,_,E,C⟩
    . rw[u.quiet (bm (P:=P) (A:=A) (Fin:=Fin) (Z:=Z) L) E C]at K;cases K
 have O:∀i k,(i,k)∈partners (gs.setIfInBounds 0 ph) A.cF true->k=0/\i≠0/\∃p o v Q,gs[i]?=some (parked p #[scase A.cF o v] Q):=λi k G=>by obtain⟨h1,h2,x,h3,h4⟩:=F i k G;obtain⟨a,_,_,_,p,v,o,rfl,_⟩:=h h3 h2 h4;exact⟨h1,h2,p,o,v,_,h3⟩
 obtain⟨i,p,o,v,Q,d,B,H,D⟩:=crowd_recv_meets_some (P:=P) (sl:=sl) hg (show stepG P (0==0) g w=_ from hs w (u.cE.sat 0)) hF a8 O
 rw[gW]at D
 have r:eM P A s i:=Classical.byContradiction λC=>by have:=u.quiet (bm (P:=P) (A:=A) (Fin:=Fin) (Z:=Z) L) H C A.cF true;rw[offersAt_parked_send,if_pos rfl]at this;cases this
 obtain⟨a,a2,rfl,a3,ay,b0,a9,R,S,e3⟩:=h H B r;obtain⟨i1,i2,i3,i4⟩:=FG R
 have i5:o=a9:=by
  have:=congrArg (λx:Array CommCase=>x[0]?) i2
  simp[scase]at this;exact this.1
 subst i3;subst i5;obtain⟨_,_,_,dj,_⟩:=u.held _ r;have U:=(Array.getElem?_eq_some_iff.1 H).1;have W:(s.w a).ik=false:=by rw[a3];rfl
 obtain⟨m,X⟩:=xV (A:=A) (s:=s) a2 W;have Y:=ht;rw[X]at Y
 obtain⟨s',f',kk',hL,ad⟩:=handed L u a2 (.inl hm) (.inl a3) (by rw[a3,hm];rfl) (gs':=(gs.setIfInBounds (A.b+a) (p.finishComm P #[scase A.cF o v] .send 0 undef false)).setIfInBounds 0 (g₂.finishComm P #[rcase A.cF z] (.recv true) 0 o true)) (gw:=Go.Conc.served p undef) (gm:=g₂.finishComm P #[rcase A.cF z] (.recv true) 0 o true) d hF dj d0 (by simp)
  (by rw[Array.getElem?_setIfInBounds_ne (by omega),Array.getElem?_setIfInBounds_self_of_lt U];rfl) (by rw[Array.getElem?_setIfInBounds_self_of_lt (by simpa using a7)])
  (λi R S=>by rw[Array.getElem?_setIfInBounds_ne (Ne.symm R),Array.getElem?_setIfInBounds_ne (Ne.symm S)]) S (by rw[i1];exact e3)
  (λk' R S=>by rw[X];exact Aj Y hs (u.cE.sat 0) (ta.2 ⟨a2,W⟩) k' o R S) p.frame.fn g₂.frame.fn p.frame.place g₂.frame.place
 refine⟨_,_,D,s',f',q,kk',OO,J,M,_,_,sl,rfl,hL,?_⟩;simpa[mW]using ad
theorem th(a:s.ms=.parked):¬dH P A s 0:=by
 have:=A.hb;rintro(⟨_,h⟩|⟨l,b,c,d⟩|⟨h,_⟩)
 . rw[a]at h;exact h
 . omega
 . omega
theorem Lz(K:A.b+A.n+1<=Z.lk)(B:bJ (cB P A Fin Z K) Z s f q kk OO J M gs w t)(L:s.ms=.recv)(D:∀j,j<A.n->s.w j≠.wait)(E:s.c≠.gone)(V:gs[0]?=some g)
 (X:dP P A (kk 0) (OO 0) g g₂ z) (N:dP P A (kk 0) (OO 0) g₂ g₂ z) (Y:g₂.status=.running) (ht:(qV P A Fin (MS.rem P A.n s).length (MS.rem P A.n s)).dC (kk 0) (OO 0) g₂ ja) (sl:Option (Nat × Nat)):
 Goes P A Fin Z K s gs w t sl 0:=by
 have d:dt P A Z s kk OO J M gs.size w t:=B.ex;have hb:=A.hb;obtain⟨c,tm,W⟩:=d.yE
 have F:s.c.eD=false:=by
  cases e:s.c.eD with
  |true=>exact absurd (rN.1 e) E
  |false=>rfl
 rw[F]at W;have O:=(Array.getElem?_eq_some_iff.1 V).1;obtain⟨_,_,_,_,_,_,d0,_⟩:=B.live _ (iX L)
 have G:∀Q∈(#[rcase A.cF z]:Array CommCase),NoWays w (gs.setIfInBounds 0 ph) Q:=λQ R=>by
  have:Q=rcase A.cF z:=by simpa using R
  subst this;exact ways_recv_none W (oR λi x _ hx=>vl K B hx (λj h1 h2=>D j h1) _)
 have p:=crowd_waits (P:=P) (sl:=sl) V (show stepG P (0==0) g w=_ from X w (B.cE.sat 0)) G
 rw[gW]at p;have S:∀i,¬(i=0)->(gs.setIfInBounds 0 (parked g₂ #[rcase A.cF z] (.recv true)))[i]?=gs[i]?:=λi C=>Array.getElem?_setIfInBounds_ne (Ne.symm C)
 have r:(gs.setIfInBounds 0 (parked g₂ #[rcase A.cF z] (.recv true)))[0]?=some (parked g₂ #[rcase A.cF z] (.recv true)):=Array.getElem?_setIfInBounds_self_of_lt O;have hP:cA Z kk OO J M w (t++#[]):=by rw[oT];exact B.cE
 obtain⟨s',a⟩:∃s',s'=s.s9 .parked s.gc:=⟨_,rfl⟩;have k:s'.ms=.parked:=by rw[a];rfl
 have m:s'.w=s.w:=by rw[a];rfl
 have o:s'.c=s.c:=by rw[a];rfl
 have u:=d.I.ms;rw[L]at u
 have hI:bT A.n s':=by rw[a];exact⟨by have:=d.I.g1;rw[L]at this;exact this,d.I.g2,d.I.tE,d.I.g3,d.I.zw,d.I.g4,d.I.g5,d.I.g6,d.I.g7,d.I.g8,d.I.g9,d.I.ok,d.I.Qy,d.I.sp,d.I.idle,⟨u.1,u.2,E,D⟩,d.I.early,d.I.mu⟩
 have T:dt P A Z s' kk OO J M (gs.setIfInBounds 0 (parked g₂ #[rcase A.cF z] (.recv true))).size w (t++#[]):=by
  refine d.chan hI (by rw[Array.size_setIfInBounds,a];exact d.size) (by rw[o];exact d.yE) (λ_ _=>rfl) (by rw[a];rfl) (by rw[a];rfl) (by rw[a];rfl) (by rw[a];rfl) (λl _=>by rw[m]) (λi b n v h=>⟨i,h⟩) rfl (λi=>?_) (.inl o) (λop h=>by simp at h) (λi C=>.inl ?_) (λi U hn=>d.Dl i U λh=>hn ?_)
  . rw[d.hJ i]
    unfold fF;rw[m,o]
  . rw[a]at C;exact C
  . rw[a];exact h
 have hL:MS.gM A.n s' s:=by
  refine .inl ?_;rw[a];show pq.parked.cS+sumTo A.n (λi=>(s.w i).cS)+s.c.cS s.gc<s.ms.cS+sumTo A.n (λi=>(s.w i).cS)+s.c.cS s.gc
  rw[L];have e1:pq.parked.cS=99:=rfl;have e2:pq.recv.cS=100:=rfl;omega
 have H:MS.rem P A.n s'=MS.rem P A.n s:=FF λl _=>by rw[m]
 have hS:gV A s s' (λi=>i=0):=⟨λl _ hl=>by rw[m],λ_=>o,λh=>absurd rfl h,by rw[a];rfl,by rw[a];rfl⟩
 refine⟨_,_,p,s',f,q,kk,OO,J,M,_,_,_,rfl,hL,?_⟩;refine B.Is DH hP T (by simp) (λi=>i=0) S (lO K hS (λ_ _=>rfl) (λ_ _=>rfl) (λ_ _ _=>rfl) (λ_ _ _=>rfl) (λ_ _ _ h=>h)) (λi C=>?_)
 subst C;have y:eM P A s' 0:=.inl ⟨rfl,k⟩;refine⟨_,r,λh=>absurd h (th k),λh=>absurd h (tg (.inr k)),λ_=>⟨th k,tg (.inr k),?_,by rw[oT];exact d0,rfl,.inl ⟨rfl,g₂,z,rfl,N,Y,by rw[H];exact ht⟩⟩,λ_ _ h=>absurd y h⟩
 show 0<A.b+A.n+1;omega
end
end Go.bd

import Derived.Conc.TokenTrace
import Derived.Test.YtldmpfccgajobaaGreatDoorC22
set_option linter.all false
namespace Go.aR
open Go.Conc
open Go.ConcN (sumTo upd sumTo_upd upd_ne upd_same)
section
variable{P:Program}{A:qR P}{Z:Base}{s s':A.S}{f f':Nat->Node P}{q q':Nat->Nat}{kk kk':Nat->ah}{OO OO':Nat->aj}{J J' M M':Nat->Prop}{gs gs':Array Goroutine}{w w':World}{t u:Trace}
structure Aside(A:qR P)(s s':A.S)(f f':Nat->Node P)(q q':Nat->Nat)(kk kk':Nat->ah)(OO OO':Nat->aj)(J J':Nat->Prop)(S:Nat->Prop):Prop where
 ef:∀j,¬S j->f' j=f j
 eq:∀j,¬S j->q' j=q j
 ek:∀j,¬S j->j<A.top->kk' j=kk j
 eO:∀j,¬S j->j<A.top->OO' j=OO j
 eJ:∀j,¬S j->A.Live s j->J j->J' j
 live:∀j,¬S j->(A.Live s' j↔A.Live s j)
 walk:∀j,¬S j->(A.Walk s' j↔A.Walk s j)
 held:∀j,¬S j->(A.oE s' j↔A.oE s j)
 mo:∀j,¬S j->A.Live s j->A.mo s' j=A.mo s j
 at':∀j k O x,¬S j->A.Walk s j->A.At s j k O x->A.At s' j k O x
 deaf:∀j,¬S j->A.Walk s j->A.deaf s' j=A.deaf s j
 yZ:∀j,¬S j->A.Walk s j->A.yZ s j->A.yZ s' j
 OQ:∀j k O x,¬S j->A.oE s j->A.DY s j k O x->A.DY s' j k O x
 tie:∀j x,¬S j->A.Live s j->A.MC s j x->A.MC s' j x
theorem bI.G8(v:bI A Z s f q kk OO J M gs w t)(K:mf u)(L:cE Z kk' OO' J' M' w' (t++u))(D:A.Ex s' kk' OO' J' M' gs'.size w' (t++u))(E:gs.size<=gs'.size)(S:Nat->Prop)(z:∀i,¬S i->gs'[i]?=gs[i]?)
 (a:Aside A s s' f f' q q' kk kk' OO OO' J J' S) (B:∀i,S i->∃m,gs'[i]?=some m/\Self P A s' f' q' kk' OO' J' (t++u) i m):bI A Z s' f' q' kk' OO' J' M' gs' w' (t++u):=by
 have y:∀j,Deaf (t++u) j=Deaf t j:=λj=>cj K j
 refine⟨v.lk,L,λj k=>?_,λj k=>?_,λj k=>?_,λj x C F G H=>?_,λj k=>by rw[y];exact v.above j (Nat.le_trans E k),D⟩
 . by_cases e:S j
   . obtain⟨m,n,o⟩:=B j e
     obtain⟨c,d,g⟩:=o.live k;exact⟨c,by rw[n,d],g⟩
   . have b:=(a.live j e).1 k
     obtain⟨c,d,pm,g,l,p,r,I⟩:=v.live j b;rw[a.ef j e,a.ek j e c,a.eO j e c,y j,a.mo j e b,z j e];exact⟨c,d,pm,g,l,p,r,I.1.imp id (a.eJ j e b),a.tie j _ e b I.2⟩
 . by_cases e:S j
   . obtain⟨m,n,o⟩:=B j e
     obtain⟨c,d,g,N,l,p⟩:=o.walk k;exact⟨c,d,g,m,N,n,l,p⟩
   . have b:=(a.walk j e).1 k
     obtain⟨c,d,g,x,O,l,p,r⟩:=v.walk j b;refine⟨λh=>c ((a.live j e).1 h),d,by rw[y j,a.deaf j e b];exact g,x,O,by rw[z j e];exact l,?_,?_⟩
     . rw[a.ek j e d,a.eO j e d];exact a.at' j _ _ _ e b p
     . rw[a.eq j e]
       rcases r with⟨Q,R,T⟩|r
       . exact .inl ⟨a.yZ j e b Q,R,T⟩
       . exact .inr r
 . by_cases e:S j
   . obtain⟨m,n,o⟩:=B j e
     obtain⟨c,d,g,l,p,r⟩:=o.held k;exact⟨c,d,g,l,m,n,p,r⟩
   . have b:=(a.held j e).1 k
     obtain⟨c,d,g,l,x,U,V,W⟩:=v.held j b;refine⟨λh=>c ((a.live j e).1 h),λh=>d ((a.walk j e).1 h),g,by rw[y j];exact l,x,by rw[z j e];exact U,V,?_⟩;rw[a.ek j e g,a.eO j e g];exact a.OQ j _ _ _ e b W
 . by_cases e:S j
   . obtain⟨m,n,o⟩:=B j e
     rw[n]at C;obtain rfl:=Option.some.inj C;exact o.rest F G H
   . rw[a.eq j e,y j]
     rw[z j e]at C;exact v.rest j x C (λh=>F ((a.live j e).2 h)) (λh=>G ((a.walk j e).2 h)) (λh=>H ((a.held j e).2 h))
theorem bI.quiet(B:y7 A)(a:bI A Z s f q kk OO J M gs w t){i:Nat}{x:Goroutine}(d:gs[i]?=some x)(n:¬A.oE s i)(c:Nat)(b:Bool):offersAt x c b=[]:=by
 by_cases j:A.Live s i
 . obtain⟨_,k,_,_,_,e,_⟩:=a.live i j
   rw[d]at k;obtain rfl:=Option.some.inj k;exact offersAt_of_not_blocked (by rw[e];decide) _ _
 by_cases l:A.Walk s i
 . obtain⟨_,_,_,y,o,m,e,g⟩:=a.walk i l
   rw[d]at m;obtain rfl:=Option.some.inj m;obtain⟨p,r⟩:=B.mq e;rcases g with⟨_,rfl,_⟩|g
   . show offersAt (blk o) c b=[]
     unfold offersAt blk;simp only[r]
   . exact offersAt_of_not_blocked (by rw[g.first p];decide) _ _
 . have h:=(a.rest i x d j l n).2
   refine offersAt_of_not_blocked ?_ _ _;rcases h.status with h|h<;>rw[h]<;>decide
end
section
variable{P:Program}{A:eD}{Fin:ah->aj->Goroutine->Prop}{Z:Base}{s s':MS P}{f f':Nat->Node P}{q q':Nat->Nat}{kk kk':Nat->ah}{OO OO':Nat->aj}{J J' M M':Nat->Prop}{gs gs':Array Goroutine}{w w':World}{t u:Trace}{i:Nat}
structure ir{P:Program}(A:eD)(s s':MS P)(S:Nat->Prop):Prop where
 w:∀l,l<A.n -> ¬S (A.b+l)->s'.w l=s.w l
 c:¬S (A.b+A.n)->s'.c=s.c
 ms:¬S 0->s'.ms=s.ms/\MS.rem P A.n s'=MS.rem P A.n s
 sh:s'.sh.ms=s.sh.ms
 gm:s'.gm=s.gm
variable{S:Nat->Prop}
theorem ir.live(h:ir A s s' S){j:Nat}(b:¬S j):dK P A s' j↔dK P A s j:=by
 constructor<;>rintro(⟨d,a⟩|⟨l,a,e,f⟩|⟨d,a⟩)
 . subst d;exact .inl ⟨rfl,by rw[<-(h.ms b).1];exact a⟩
 . subst e;exact .inr (.inl ⟨l,a,rfl,by rw[<-h.w l a b];exact f⟩)
 . subst d;exact .inr (.inr ⟨rfl,by rw[<-h.c b];exact a⟩)
 . subst d;exact .inl ⟨rfl,by rw[(h.ms b).1];exact a⟩
 . subst e;exact .inr (.inl ⟨l,a,rfl,by rw[h.w l a b];exact f⟩)
 . subst d;exact .inr (.inr ⟨rfl,by rw[h.c b];exact a⟩)
theorem ir.walk(h:ir A s s' S){j:Nat}(b:¬S j):fX P A s' j↔fX P A s j:=by
 constructor<;>rintro(⟨d,a⟩|⟨l,a,e,f⟩|⟨d,a⟩)
 . subst d;exact .inl ⟨rfl,by rw[<-(h.ms b).1];exact a⟩
 . subst e;exact .inr (.inl ⟨l,a,rfl,by rw[<-h.w l a b];exact f⟩)
 . subst d;exact .inr (.inr ⟨rfl,by rw[<-h.c b];exact a⟩)
 . subst d;exact .inl ⟨rfl,by rw[(h.ms b).1];exact a⟩
 . subst e;exact .inr (.inl ⟨l,a,rfl,by rw[h.w l a b];exact f⟩)
 . subst d;exact .inr (.inr ⟨rfl,by rw[h.c b];exact a⟩)
theorem ir.held(h:ir A s s' S){j:Nat}(b:¬S j):fj P A s' j↔fj P A s j:=by
 constructor<;>rintro(⟨c,a⟩|⟨l,a,d,e⟩)
 . subst c;exact .inl ⟨rfl,by rw[<-(h.ms b).1];exact a⟩
 . subst d;exact .inr ⟨l,a,rfl,by rw[<-h.w l a b];exact e⟩
 . subst c;exact .inl ⟨rfl,by rw[(h.ms b).1];exact a⟩
 . subst d;exact .inr ⟨l,a,rfl,by rw[h.w l a b];exact e⟩
theorem lR(x:A.b+A.n+1<=Z.lk)(d:ir A s s' S)(B:∀j,¬S j->f' j=f j)(C:∀j,¬S j->q' j=q j)(D:∀j,¬S j->j<A.b+A.n+1->kk' j=kk j)(E:∀j,¬S j->j<A.b+A.n+1->OO' j=OO j)(F:∀j,¬S j->dK P A s j->J j->J' j):
 Aside (cG P A Fin Z x) s s' f f' q q' kk kk' OO OO' J J' S:=by
 have hb:=A.hb;refine⟨B,C,D,E,F,λj a=>d.live a,λj a=>d.walk a,λj a=>d.held a,λj a G=>?_,λj k O y a _ u=>?_,λj a v=>?_,λj a v hd=>?_,λj k O y a _ u=>?_,λj y a _ H=>?_⟩
 . show bM P A Fin s' j=bM P A Fin s j
   unfold bM;rcases G with⟨g,_⟩|⟨l,i,m,_⟩|⟨g,_⟩
   . subst g
     simp only[if_true,(d.ms a).1,(d.ms a).2]
   . subst m
     have e:A.b+l-A.b=l:=by omega
     have p:¬A.b+l=0:=by omega
     have r:A.b+l<A.b+A.n:=by omega
     simp only[if_neg p,if_pos r,e,d.w l i a]
   . subst g
     have p:¬A.b+A.n=0:=by omega
     have r:¬A.b+A.n<A.b+A.n:=by omega
     simp only[if_neg p,if_neg r,d.c a]
 . rcases u with⟨g,h⟩|⟨l,i,m,o⟩|⟨g,h⟩
   . subst g;exact .inl ⟨rfl,by rw[(d.ms a).1];exact h⟩
   . subst m;exact .inr (.inl ⟨l,i,rfl,by rw[d.w l i a];exact o⟩)
   . subst g;exact .inr (.inr ⟨rfl,by rw[d.c a];exact h⟩)
 . show dg P A s' j=dg P A s j
   unfold dg;rcases v with⟨g,_⟩|⟨l,i,m,_⟩|⟨g,_⟩
   . subst g
     simp only[if_true,(d.ms a).1]
   . subst m
     have e:A.b+l-A.b=l:=by omega
     have p:¬A.b+l=0:=by omega
     have r:A.b+l<A.b+A.n:=by omega
     simp only[if_neg p,if_pos r,e,d.w l i a]
   . subst g
     have p:¬A.b+A.n=0:=by omega
     have r:¬A.b+A.n<A.b+A.n:=by omega
     simp only[if_neg p,if_neg r,d.c a]
 . rcases hd with⟨l,sv,Y,i,m,o,t⟩|⟨g,o,t⟩
   . subst m;exact .inl ⟨l,sv,Y,i,rfl,by rw[d.w l i a];exact o,by rw[d.sh];exact t⟩
   . subst g;exact .inr ⟨rfl,by rw[d.c a];exact o,by rw[d.gm];exact t⟩
 . rcases u with⟨g,g₂,z,i,m,o,t⟩|h
   . subst g;exact .inl ⟨rfl,g₂,z,i,m,o,by rw[(d.ms a).2];exact t⟩
   . exact .inr h
 . exact λl b X i m o=>H l b X i m (by subst m;rw[<-o];exact(d.w l i a).symm)
theorem uT(d:A.b+A.n+1<=Z.lk)(e:bI (cG P A Fin Z d) Z s f q kk OO J M gs w t){x:Goroutine}(g:gs[i]?=some x)(h:s.ms≠.parked\/i≠0):offersAt x A.cF false=[]:=by
 have B:=bm (P:=P) (A:=A) (Fin:=Fin) (Z:=Z) d;have hb:=A.hb;by_cases a:fj P A s i
 . obtain⟨_,_,_,_,y,k,u,m⟩:=e.held i a
   rw[g]at k;obtain rfl:=Option.some.inj k;rcases m with⟨o,_⟩|⟨j,c,p,g₂,z,v,r,_⟩
   . rcases a with⟨_,c⟩|⟨l,c,p,_⟩
     . rcases h with h|h
       . exact absurd c h
       . exact absurd o h
     . omega
   . rw[r,offersAt_parked_send']
 . exact e.quiet B g a _ _
theorem uU(d:A.b+A.n+1<=Z.lk)(e:bI (cG P A Fin Z d) Z s f q kk OO J M gs w t){x:Goroutine}(g:gs[i]?=some x)(h:∀j,j<A.n->i=A.b+j->s.w j≠.wait)(r:Nat):offersAt x r true=[]:=by
 have B:=bm (P:=P) (A:=A) (Fin:=Fin) (Z:=Z) d;have hb:=A.hb;by_cases c:fj P A s i
 . obtain⟨_,_,_,_,y,k,u,m⟩:=e.held i c
   rw[g]at k;obtain rfl:=Option.some.inj k;rcases m with⟨v,g₂,z,a,_⟩|⟨j,C,D,_⟩
   . rw[a,offersAt_parked_recv']
   . rcases c with⟨a,_⟩|⟨l,a,o,p⟩
     . omega
     . obtain rfl:l=j:=by omega
       exact absurd p (h l a o)
 . exact e.quiet B g c _ _
theorem oT{i:Nat}{c:Nat}{b:Bool}(h:∀(j:Nat) (g:Goroutine),j≠i->gs[j]?=some g->offersAt g c b=[]):partners (gs.setIfInBounds i ph) c b=[]:=
 partners_nil λj g a=>by
  rcases getElem?_stand gs i j g a with⟨_,rfl⟩|⟨d,a⟩
  . exact offersAt_ph ..
  . exact h j g d a
end
section
variable{Z:Base}{kk:Nat->ah}{OO:Nat->aj}{J J' M M':Nat->Prop}{w w':World}{t u:Trace}
theorem cE.hand(h:cE Z kk OO J M w t){src dst:Nat}(l:src≠Z.lk)(o:dst≠Z.lk)(q:∀n,Knows t src n->Knows (t++u) dst n)(i:∀op∈u,op.act.touch?=none)(r:∀op∈u,op.act.low w.heap.size)(z:w'.heap.size=w.heap.size)(A:Calm Z w w')(hb:∀b,Kept kk OO w w' b)
 (d:∀n a,touchAt t n=some a->a.loc.isMemory=true->((∃j,J j/\Knows t j n)\/(∃p,M p/\Before t n p))->Told Z J' M' (t++u) n a):
 cE Z (bO kk dst ((kk dst).join (kk src))) OO J' M' w' (t++u):=by
 refine h.tL (λa b=>a=b\/(a=src/\b=dst)) z A hb r (λa b e n y _ _ _ g=>?_) (λj b n v c=>?_) (λj b s c=>?_) (λj b x B=>⟨j,.inl rfl,B,λs k=>?_⟩) h.jF
  (λsaid=>?_) (λop f a d=>by rw[i op f]at d;cases d) (λm op a f d=>by rw[i op (Array.mem_of_getElem? f)]at d;cases d) d
 . rcases e with rfl|⟨rfl,rfl⟩
   . exact g.app u
   . exact(oD o).2 (q n ((oD l).1 g))
 . by_cases e:j=dst
   . subst e
     rw[ap]at c;rcases ah.lN c with c|c
     . exact⟨_,.inl rfl,c⟩
     . exact⟨src,.inr ⟨rfl,rfl⟩,c⟩
   . rw[au _ _ e]at c;exact⟨j,.inl rfl,c⟩
 . by_cases e:j=dst
   . subst e
     rw[ap]at c;rcases ah.Av c with c|c
     . exact⟨_,.inl rfl,c⟩
     . exact⟨src,.inr ⟨rfl,rfl⟩,c⟩
   . rw[au _ _ e]at c;exact⟨j,.inl rfl,c⟩
 . by_cases e:j=dst
   . subst e;rw[ap];exact(ah.mX _ _).sh b s k
   . rw[au _ _ e];exact k
 . exact noRace_appendMute (h.clean said) i
end
end Go.aR
namespace Go.aR
open Go.Conc
open Go.ConcN (sumTo upd sumTo_upd upd_ne upd_same)
variable{P:Program}
def MS.lg(s:MS P)(j:Nat)(x:br P)(m1:pv)(sp1:Nat):MS P:={s with w:=λi=>if i=j then x else s.w i,ms:=m1,sp:=sp1}
section
variable{s:MS P}{j n:Nat}{x:br P}{m1:pv}{sp1:Nat}
theorem fS:(s.lg j x m1 sp1).w j=x:=by simp[MS.lg]
theorem jJ{i:Nat}(h:i≠j):(s.lg j x m1 sp1).w i=s.w i:=by simp[MS.lg,h]
theorem Na:(λi=>((s.lg j x m1 sp1).w i).pc)=Mu.set (λi=>(s.w i).pc) j x.pc:=by
 funext i;by_cases h:i=j
 . subst h;rw[fS,Mu.an]
 . rw[jJ h,Mu.ag _ _ h]
theorem CA(F:br P->Nat)(a:j<n):sumTo n (λi=>F ((s.lg j x m1 sp1).w i))+F (s.w j)=sumTo n (λi=>F (s.w i))+F x:=by
 have e:(λi=>F ((s.lg j x m1 sp1).w i))=upd (λi=>F (s.w i)) j (F x):=by
  funext i;by_cases h:i=j
  . subst h;rw[fS,upd_same]
  . rw[jJ h,upd_ne _ _ h]
 rw[e];have:=sumTo_upd (λi=>F (s.w i)) (F x) id a;simpa using this
theorem bQ.lg(I:bQ n s)(v:j<n)(H:x.cnt+m1.pend=(s.w j).cnt+s.ms.pend)(m:(s.w j).last=false)(g:x.last=false)(A:s.w j≠.gone)(o:x.ok=true)(q:x.pc=(s.w j).pc)(b:x.jG=false)
 (k:(sp1=s.sp/\(s.w j).jG=false)\/(sp1=s.sp+1/\j=s.sp)) (B:x.iD=true->s.c≠.none)
 (r:match (generalizing:=false) m1 with
   |.add l=>sp1+l=n/\s.c=.none
   |.bw l p=>sp1+l=n/\s.c=.none/\1<=l/\(p=.a0\/p=.a2\/p=.a4\/p=.ae)
   |.spawn l=>sp1+l+1=n/\s.c=.none
   |.recv=>sp1=n/\s.c≠.none
   |.parked=>sp1=n/\s.c≠.none/\s.c≠.gone/\∀i,i<n->(s.lg j x m1 sp1).w i≠.wait):bQ n (s.lg j x m1 sp1):=by
 have y:=CA (s:=s) (x:=x) (m1:=m1) (sp1:=sp1) br.cnt v
 have f:∀{i:Nat},((s.lg j x m1 sp1).w i).last=(s.w i).last:=λ{i}=>by
  by_cases e:i=j
  . subst e;rw[fS,m,g]
  . rw[jJ e]
 have dn:∀{i:Nat}{p:vu},(p=.d5\/p=.d6\/p=.d7)->((s.lg j x m1 sp1).w i=.dn p↔s.w i=.dn p):=λ{i p} z=>by
  by_cases e:i=j
  . subst e
    rw[fS];constructor<;>intro h
    . rw[h]at g;rcases z with rfl|rfl|rfl<;>cases g
    . rw[h]at m;rcases z with rfl|rfl|rfl<;>cases m
  . rw[jJ e]
 refine⟨?_,I.g2,I.jj,λi b h=>?_,λi l b m h d=>?_,λi b h=>?_,⟨I.g5.1,λh=>?_⟩,λh d t=>?_,λh d=>?_,λh=>?_,I.g9,λi a=>?_,I.OL,?_,λi a=>?_,r,λh i a=>?_,?_⟩
 . have:=I.g1
   show s.gc=sumTo n (λi=>((s.lg j x m1 sp1).w i).cnt)+m1.pend;omega
 . exact I.g3 i b (h.imp (dn (.inl rfl)).1 (dn (.inr (.inl rfl))).1)
 . rw[f]at h d;exact I.mE i l b m h d
 . exact I.g4 i b ((dn (.inr (.inr rfl))).1 h)
 . obtain⟨C,D,E,F⟩:=I.g5.2 h
   exact⟨C,D,E,λi b=>by rw[f];exact F i b⟩
 . obtain⟨i,b,u⟩:=I.g6 h d t
   exact⟨i,b,(dn (.inr (.inr rfl))).2 u⟩
 . obtain⟨i,b,u⟩:=I.g7 h d
   exact⟨i,b,u.imp (dn (.inl rfl)).2 (dn (.inr (.inl rfl))).2⟩
 . exact absurd ((I.g8 h).2.2.2 j v) A
 . by_cases e:i=j
   . subst e;rw[fS];exact o
   . rw[jJ e];exact I.ok i a
 . have:=I.sp
   show sp1<=n;rcases k with⟨h,_⟩|⟨h,d⟩<;>omega
 . show ((s.lg j x m1 sp1).w i).jG=true↔sp1<=i
   by_cases e:i=j
   . subst e
     rw[fS,b];rcases k with⟨h,d⟩|⟨h,d⟩
     . have:=I.idle i a
       rw[d]at this;rw[h];exact this
     . constructor
       . intro h;cases h
       . intro h;omega
   . rw[jJ e]
     rcases k with⟨h,d⟩|⟨h,d⟩
     . rw[h];exact I.idle i a
     . rw[I.idle i a];omega
 . by_cases e:i=j
   . subst e;rw[fS]
     cases G:x.iD with
     |false=>rfl
     |true=>exact absurd h (B G)
   . rw[jJ e];exact I.early h i a
 . rw[Na,q,mw (λi=>(s.w i).pc)];exact I.mu
theorem ug(a:j<n)(h:x.cS+m1.cS<(s.w j).cS+s.ms.cS):MS.ik n (s.lg j x m1 sp1) s:=by
 have:=CA (s:=s) (x:=x) (m1:=m1) (sp1:=sp1) br.cS a;refine .inl ?_;show m1.cS+sumTo n (λi=>((s.lg j x m1 sp1).w i).cS)+s.c.cS s.gc<s.ms.cS+sumTo n (λi=>(s.w i).cS)+s.c.cS s.gc;omega
end
section
variable{A:eD}{Z:Base}{s s':MS P}{kk kk':Nat->ah}{OO:Nat->aj}{J J' M:Nat->Prop}{gsz gsz':Nat}{w w':World}{t u:Trace}
theorem dw.chan(h:dw P A Z s kk OO J M gsz w t)(hI:bQ A.n s')(E:gsz'=A.b+s'.sp+(if s'.c.isNone then 0 else 1))(Q:∃x tm,w'.heap[A.cF]?=some (.chan 0 #[] s'.c.eL x x tm))(g:∀b,b≠A.cF->w'.heap[b]?=w.heap[b]?)
 (R:s'.sh=s.sh) (S:s'.gc=s.gc) (T:s'.gv=s.gv) (U:s'.gm=s.gm) (o:∀l,l<A.n->(s'.w l).owns=(s.w l).owns) (V:∀i b n v,(kk' i).cell b n=some v->∃l,(kk l).cell b n=some v) (K:kk' Z.lk=kk Z.lk)
 (W:∀i,J' i↔fY P A s' i) (d:s'.c=s.c\/(s.c=.none/\s'.c=.fF/\∀m,Knows t 0 m->Knows (t++u) (A.b+A.n) m)) (hu:∀op∈u,op.act.touch?=none/\∀a,op.act≠.mark (.release a))
 (C:∀i,bR P A s' i->bR P A s i\/(∀m,Knows t 0 m->Knows (t++u) i m)) (L:∀i,i≠Z.lk -> ¬bR P A s' i->kk' i=ah.bot/\OO i=aj.bot):
 dw P A Z s' kk' OO J' M gsz' w' (t++u):=by
 have r:∀{m:Nat}{a:Touch},touchAt (t++u) m=some a->touchAt t m=some a:=λ{m a} B=>by
  rcases mZ B with⟨k,_⟩|⟨op,F,k⟩
  . exact k
  . rw[(hu op F).1]at k;cases k
 have j:∀i b n,(∀l,(kk l).cell b n=none)->(kk' i).cell b n=none:=λi b n hn=>by
  cases e:(kk' i).cell b n with
  |none=>rfl
  |some v=>obtain⟨l,z⟩:=V i b n v e;rw[hn l]at z;cases z
 have G:s'.c=.gone->s.c=.gone:=λe=>by
  rcases d with d|⟨_,d,_⟩
  . rw[<-d];exact e
  . rw[d]at e;cases e
 refine⟨hI,E,Q,by rw[R];exact h.mu.same (.of_heap (g _ (Ne.symm A.d1))),by rw[S,T,U];exact h.gr.same (.of_heap (g _ (Ne.symm A.d2))),by rw[g _ (Ne.symm A.d1)];exact h.uQ,by rw[g _ (Ne.symm A.d2)];exact h.ya,h.gF,
  λi=>⟨j i _ _ λl=>(h.eu l).1,j i _ _ λl=>(h.eu l).2.1,j i _ _ λl=>(h.eu l).2.2.1,j i _ _ λl=>(h.eu l).2.2.2⟩,λi y hy=>?_,λl z H=>h.wI l z (by rw[<-o l z];exact H),λH=>?_,λc d=>?_,
  W,λp hp=>?_,λd=>h.lH u (G d),λm a B N O i X=>?_,λm a B N O=>?_,λi X m a Y B D hz=>?_,h.iM u (λop F=>(hu op F).2),L,h.rB,h.kb,h.fq,h.la,by simp;exact Nat.le_trans h.n0 (Nat.le_add_right _ _)⟩
 . obtain⟨l,f,q,I,h5,h6⟩:=h.tok i y hy
   exact⟨l,f,q,I,by rw[o l q];exact h5,h6⟩
 . rw[K];exact h.JL λl z=>by rw[<-o l z];exact H l z
 . obtain⟨q,I⟩:=h.Ir c d
   exact⟨q,λl z=>by rw[o l z];exact I l z⟩
 . obtain⟨k,h2,q⟩:=h.sJ u p hp
   refine⟨k,h2,?_⟩;rcases q with⟨q,I⟩|⟨q,I⟩
   . refine .inl ⟨q,?_⟩
     rcases d with d|⟨_,d,_⟩
     . rw[d];exact I
     . exact .inr (.inl d)
   . refine .inr ⟨?_,I⟩
     rcases d with d|⟨d,_⟩
     . rw[d];exact q
     . rw[d]at q;cases q
 . rcases C i X with k|k
   . exact(h.quiet m a (r B) N O i k).app u
   . exact k m (h.quiet m a (r B) N O 0 (.inl rfl))
 . have h0:=h.said m a (r B) N O
   rcases d with d|⟨d,a7,k⟩
   . rw[d];exact h0.app u
   . rw[d]at h0
     rw[a7];exact k m h0
 . have a8:m<t.size:=Nat.lt_of_lt_of_le Y h.n0
   rcases C i X with k|k
   . exact(h.old i k m a Y (r B) D hz).app u
   . exact k m (h.old 0 (.inl rfl) m a Y (r B) D hz)
end
end Go.aR
namespace Go.aR
open Go.Conc
open Go.ConcN (sumTo upd sumTo_upd upd_ne upd_same)
section
variable{P:Program}{A:eD}{Fin:ah->aj->Goroutine->Prop}{Z:Base}{s s':MS P}{f f':Nat->Node P}{q q':Nat->Nat}{kk kk':Nat->ah}{OO OO':Nat->aj}{J J' M M':Nat->Prop}{gs gs':Array Goroutine}{w w':World}{t u:Trace}{j:Nat}{g g₂:Goroutine}{z v:Value}
theorem Ep(h:∀l,l<A.n->(s'.w l).iD=(s.w l).iD):MS.rem P A.n s'=MS.rem P A.n s:=by unfold MS.rem;exact List.filter_congr λl a=>by rw[h l (List.mem_range.1 a)]
theorem sN{l:Nat}:l∈MS.rem P A.n s↔l<A.n/\(s.w l).iD=false:=by unfold MS.rem;rw[List.mem_filter,List.mem_range];simp
theorem Nb{m1:pv}{sp1:Nat}(c:j<A.n)(h:(s.w j).iD=false):MS.rem P A.n (s.lg j .zg m1 sp1)=(MS.rem P A.n s).erase j/\(MS.rem P A.n s).length=(MS.rem P A.n (s.lg j .zg m1 sp1)).length+1:=by
 have e:MS.rem P A.n (s.lg j .zg m1 sp1)=(MS.rem P A.n s).erase j:=by
  unfold MS.rem;rw[List.Nodup.erase_eq_filter (List.Nodup.sublist List.filter_sublist List.nodup_range),List.filter_filter];refine List.filter_congr λi _=>?_
  by_cases a:i=j
  . subst a;rw[fS];simp[br.iD]
  . rw[jJ a];simp[a]
 refine⟨e,?_⟩;have b:j∈MS.rem P A.n s:=sN.2 ⟨c,h⟩;rw[e,List.length_erase_of_mem b];have:=List.length_pos_of_mem b;omega
theorem wV(c:j<A.n)(e:s.w j=.wait):¬dK P A s (A.b+j):=by
 have:=A.hb;rintro(⟨e,_⟩|⟨l,d,f,a⟩|⟨e,_⟩)
 . omega
 . obtain rfl:l=j:=by omega
   rw[e]at a;exact a
 . omega
theorem rL(c:j<A.n)(e:s.w j=.wait\/s.w j=.zg):¬fX P A s (A.b+j):=by
 have:=A.hb;rintro(⟨e,_⟩|⟨l,d,f,a⟩|⟨e,_⟩)
 . omega
 . obtain rfl:l=j:=by omega
   rcases e with e|e<;>rw[e]at a<;>exact a
 . omega
theorem CB(c:j<A.n)(e:s.w j=.zg):bM P A Fin s (A.b+j)=qJ P A:=by
 have:=A.hb;unfold bM;rw[if_neg (by omega),if_pos (by omega)];have a:A.b+j-A.b=j:=by omega
 rw[a,e]
theorem iu(g:Nat)(fn:FuncId)(pos:String):MemOp.ofEvents g fn pos #[]=#[]:=by rw[ofEvents_eq];simp
theorem oU(t:Trace):t++(#[]:Trace)=t:=by simp
theorem CC:mf #[]:=λop h=>by simp at h
theorem Nc(F:A.b+A.n+1<=Z.lk)(D:bI (cG P A Fin Z F) Z s f q kk OO J M gs w t)(m:j<A.n){Y:Node P}(k:s.w j=.run false Y)(U:s.ms≠.parked)(W:gs[A.b+j]?=some g)
 (hs:∀w,Sat (kk (A.b+j)) (OO (A.b+j)) w->stepG P false g w=.comm g₂ #[scase A.cF v z] true .send w #[]) (hO:OO (A.b+j) A.fb=none) (hv:V (kk (A.b+j)) v (A.res j)) (ht:T P (qJ P A) jn (kk (A.b+j)) (OO (A.b+j)) (Go.Conc.served g₂ undef)) (sl:Option (Nat × Nat)):
 Goes P A Fin Z F s gs w t sl (A.b+j):=by
 have o:dw P A Z s kk OO J M gs.size w t:=D.ex;have hb:=A.hb;have G:(A.b+j==0)=false:=by simp;omega
 obtain⟨c,tm,X⟩:=o.xP
 have H:s.c.eL=false:=by
  cases e:s.c with
  |gone=>have:=(o.I.g8 (by rw[e];rfl)).2.2.2 j m;rw[k]at this;cases this
  |_=>rfl
 rw[H]at X;have K:=(Array.getElem?_eq_some_iff.1 W).1;obtain⟨_,_,_,_,_,_,hd,_⟩:=D.live _ (kM m k)
 have L:∀N∈(#[scase A.cF v z]:Array CommCase),NoWays w (gs.setIfInBounds (A.b+j) ph) N:=λN O=>by
  have:N=scase A.cF v z:=by simpa using O
  subst this;exact ways_send_none X (by simp) (oT λi x _ hx=>uT F D hx (.inl U))
 have r:=crowd_waits (P:=P) (sl:=sl) W (by rw[G];exact hs w (D.cK.sat _)) L
 rw[iu]at r;have Q:∀i,¬(i=A.b+j)->(gs.setIfInBounds (A.b+j) (parked g₂ #[scase A.cF v z] .send))[i]?=gs[i]?:=λi E=>Array.getElem?_setIfInBounds_ne (Ne.symm E)
 have u:(gs.setIfInBounds (A.b+j) (parked g₂ #[scase A.cF v z] .send))[A.b+j]?=some (parked g₂ #[scase A.cF v z] .send):=Array.getElem?_setIfInBounds_self_of_lt K;have hP:cE Z kk OO J M w (t++#[]):=by rw[oU];exact D.cK
 obtain⟨s',a⟩:∃s',s'=s.lg j .wait s.ms s.sp:=⟨_,rfl⟩;have d:s'.w j=.wait:=by rw[a,fS]
 have p:∀{l:Nat},l≠j->s'.w l=s.w l:=λh=>by rw[a,jJ h]
 have hI:bQ A.n s':=by
  rw[a];refine o.I.lg m (by rw[k];rfl) (by rw[k];rfl) rfl (by rw[k];simp) rfl (by rw[k];rfl) rfl (.inl ⟨rfl,by rw[k];rfl⟩) (λh=>by cases h) ?_
  have:=o.I.ms;cases e:s.ms with
  |parked=>exact absurd e U
  |_=>rw[e]at this;exact this
 have y:∀l,l<A.n->(s'.w l).iD=(s.w l).iD:=λl _=>by
  by_cases e:l=j
  . subst e;rw[d,k];rfl
  . rw[p e]
 have B:∀l,(s'.w l).busy=(s.w l).busy:=λl=>by
  by_cases e:l=j
  . subst e;rw[d,k];rfl
  . rw[p e]
 have R:dw P A Z s' kk OO J M (gs.setIfInBounds (A.b+j) (parked g₂ #[scase A.cF v z] .send)).size w (t++#[]):=by
  refine o.chan hI (by rw[Array.size_setIfInBounds,a];exact o.size) (by rw[a];exact o.xP) (λ_ _=>rfl) (by rw[a];rfl) (by rw[a];rfl) (by rw[a];rfl) (by rw[a];rfl) (λl _=>?_) (λi b n v h=>⟨i,h⟩) rfl (λi=>?_) (.inl (by rw[a];rfl)) (λop h=>by simp at h) (λi E=>.inl ?_) (λi S hn=>o.Ck i S λh=>hn ?_)
  . by_cases e:l=j
    . subst e;rw[d,k];rfl
    . rw[p e]
  . rw[o.hJ i]
    unfold fY;simp only[B,show s'.c=s.c by rw[a];rfl]
  . rw[a]at E;exact E
  . rw[a];exact h
 have hL:MS.ik A.n s' s:=by rw[a];exact ug m (by rw[k];simp[br.cS])
 have hS:ir A s s' (λi=>i=A.b+j):=⟨λl _ hl=>p (by omega),λ_=>by rw[a];rfl,λ_=>⟨by rw[a];rfl,Ep y⟩,by rw[a];rfl,by rw[a];rfl⟩
 refine⟨_,_,r,s',f,q,kk,OO,J,M,_,_,_,rfl,hL,?_⟩;refine D.G8 CC hP R (by simp) (λi=>i=A.b+j) Q (lR F hS (λ_ _=>rfl) (λ_ _=>rfl) (λ_ _ _=>rfl) (λ_ _ _=>rfl) (λ_ _ _ h=>h)) (λi E=>?_)
 subst E;have C:fj P A s' (A.b+j):=.inr ⟨j,m,rfl,d⟩;refine⟨_,u,λh=>absurd h (wV m d),λh=>absurd h (rL m (.inl d)),λ_=>⟨wV m d,rL m (.inl d),?_,by rw[oU];exact hd,rfl,.inr ⟨j,m,rfl,g₂,z,v,rfl,hv,hO,ht⟩⟩,λ_ _ h=>absurd C h⟩
 show A.b+j<A.b+A.n+1;omega
def nc(a b c s r cap:Nat)(f1 d:FuncId)(e f:String):Trace:=#[{g:=a,fn:=f1,pos:=e,act:=.send c s},{g:=b,fn:=d,pos:=f,act:=.recv c r cap},{g:=a,fn:=f1,pos:=e,act:=.sendDone c s},{g:=b,fn:=d,pos:=f,act:=.recvDone c r}]
theorem kO{a b c s r cap:Nat}{f1 d:FuncId}{e f:String}{op:MemOp}(h:op∈nc a b c s r cap f1 d e f):op.act.touch?=none/\(op.act≠.mark .disable/\op.act≠.mark .enable)/\(∀B,c<B->op.act.low B)/\∀a,op.act≠.mark (.release a):=by
 simp only[nc,List.mem_toArray,List.mem_cons,List.not_mem_nil,or_false]at h;rcases h with rfl|rfl|rfl|rfl<;>exact⟨rfl,⟨by simp,by simp⟩,λB g=>g,by simp⟩
theorem sO{w:World}{c cap s r:Nat}{buf:Array Value}{e tm:Bool}{d:Nat}(f:ChanAt w c){b:Nat}:
 ((w.at d).setChan c cap buf e s r tm).heap[b]?=if b=c then some (.chan cap buf e s r tm)else w.heap[b]?:=by
 obtain⟨_,_,_,_,_,_,h⟩:=f;have a:=(Array.getElem?_eq_some_iff.1 h).1;simp only[World.setChan,World.at];by_cases hb:b=c
 . subst hb;rw[if_pos rfl,Array.getElem?_setIfInBounds_self_of_lt a]
 . rw[if_neg hb,Array.getElem?_setIfInBounds_ne (Ne.symm hb)]
theorem wW(m:Nat)(R:List Nat):(qW P A Fin m R).solo=false:=by cases m<;>rfl
theorem oi(e:s.ms=.recv):bM P A Fin s 0=qW P A Fin (MS.rem P A.n s).length (MS.rem P A.n s):=by unfold bM;rw[if_pos rfl,e]
theorem ji(e:s.ms=.recv):dK P A s 0:=.inl ⟨rfl,by rw[e];trivial⟩
theorem sP(e:s.ms=.recv\/s.ms=.parked):¬fX P A s 0:=by
 have:=A.hb;rintro(⟨_,h⟩|⟨l,a,b,c⟩|⟨h,_⟩)
 . rcases e with e|e<;>rw[e]at h<;>exact h
 . omega
 . omega
theorem CD{x:Node P}:MP P A s 0 x:=λj h X a b _=>by have:=A.hb;omega
theorem Nd{x:Node P}(e:s.w j=.zg):MP P A s (A.b+j) x:=λl h X c d a=>by
 obtain rfl:l=j:=by omega
 rw[e]at a;cases a
theorem handed(hZ:A.b+A.n+1<=Z.lk)(O:bI (cG P A Fin Z hZ) Z s f q kk OO J M gs w t)(D:j<A.n)(H:s.ms=.recv\/s.ms=.parked)(K:s.w j=.wait\/∃X0,s.w j=.run false X0)(bA:(s.w j).cS+s.ms.cS=119){c:Nat}{tm:Bool}{gw gm:Goroutine}{v:Value}(d:Nat)
 (hF:w.heap[A.cF]?=some (.chan 0 #[] false c c tm)) (dj:Deaf t (A.b+j)=0) (d0:Deaf t 0=0)
 (a8:gs'.size=gs.size) (hw:gs'[A.b+j]?=some gw) (hm:gs'[0]?=some gm) (ho:∀i,i≠0->i≠A.b+j->gs'[i]?=gs[i]?)
 (hv:V (kk (A.b+j)) v (A.res j)) (a9:T P (qJ P A) jn (kk (A.b+j)) (OO (A.b+j)) gw)
 (ad:∀k',(kk 0).Le k'->V k' v (A.res j)->T P (qW P A Fin ((MS.rem P A.n s).length-1) ((MS.rem P A.n s).erase j)) jn k' (OO 0) gm) (f1 Q:FuncId) (R S:String):
 ∃s' f' kk',MS.ik A.n s' s/\bI (cG P A Fin Z hZ) Z s' f' q kk' OO J M gs' ((w.at d).setChan A.cF 0 #[] false (c+1) (c+1) tm) (t++nc (A.b+j) 0 A.cF c c 0 f1 Q R S):=by
 have C:dw P A Z s kk OO J M gs.size w t:=O.ex;have hb:=A.hb;have z:ChanAt w A.cF:=⟨_,_,_,_,_,_,hF⟩;have al:A.cF<w.heap.size:=(Array.getElem?_eq_some_iff.1 hF).1;have hu:mf (nc (A.b+j) 0 A.cF c c 0 f1 Q R S):=λop h=>(kO h).2.1
 have av:(kk (A.b+j)).Le ((kk 0).join (kk (A.b+j))):=ah.pN (O.cK.sat 0) (O.cK.sat _);have ax:=ad _ (ah.mX _ _) (hv.mono av);obtain⟨U⟩:=T.tree (wW (P:=P) (A:=A) (Fin:=Fin) _ _) ax;obtain⟨W⟩:=T.tree (P:=P) (m:=qJ P A) rfl a9;have bB:=H
 have X:s.sp=A.n/\s.c≠.none:=by
  have:=C.I.ms
  rcases H with e|e<;>rw[e]at this
  . exact this
  . exact⟨this.1,this.2.1⟩
 have ay:s.c.eL=false:=by
  cases e:s.c with
  |gone=>have:=(C.I.g8 (by rw[e];rfl)).2.2.2 j D;rcases K with h|⟨_,h⟩<;>rw[h]at this<;>cases this
  |_=>rfl
 have hP:cE Z (bO kk 0 ((kk 0).join (kk (A.b+j)))) OO J M ((w.at d).setChan A.cF 0 #[] false (c+1) (c+1) tm) (t++nc (A.b+j) 0 A.cF c c 0 f1 Q R S):=by
  refine O.cK.hand (src:=A.b+j) (dst:=0) (by omega) (by omega) (λn hn=>?_) (λop h=>(kO h).1) (λop h=>(kO h).2.2.1 _ al) (by simp[World.setChan,World.at]) ⟨⟨.refl _,rfl⟩,λb hb=>by have:=C.fq.1;simp only[World.setChan,World.at];exact Array.getElem?_setIfInBounds_ne (by omega)⟩ (λb=>?_) (λn a ha hm h=>h.elim (λ⟨j,h1,h2⟩=>.inr (.inl ⟨j,h1,h2.app _⟩)) (λ⟨p,h1,h2⟩=>.inr (.inr (.inl ⟨p,h1,h2.app _⟩))))
  . exact wq (t:=t) hu (m1:=0) (m2:=3) (c:=A.cF) (k:=c) (x:={g:=A.b+j,fn:=f1,pos:=R,act:=.send A.cF c}) (y:={g:=0,fn:=Q,pos:=S,act:=.recvDone A.cF c}) rfl rfl rfl rfl dj d0 hn
  . unfold Kept
    rw[sO z]
    by_cases E:b=A.cF
    . subst E
      exact .inr (.inl ⟨z,⟨_,_,_,_,_,_,by rw[sO z,if_pos rfl]⟩,λi=>(C.gF i).1⟩)
    . rw[if_neg E];exact .inl rfl
 have b0:(s.w j).iD=false:=by rcases K with h|⟨_,h⟩<;>rw[h]<;>rfl
 obtain⟨s',o⟩:∃s',s'=s.lg j .zg .recv s.sp:=⟨_,rfl⟩;obtain⟨B,Y⟩:=Nb (A:=A) (s:=s) (m1:=.recv) (sp1:=s.sp) D b0;rw[<-o]at B Y;have r:s'.w j=.zg:=by rw[o,fS]
 have L:∀{l:Nat},l≠j->s'.w l=s.w l:=λh=>by rw[o,jJ h]
 have F:s'.c=s.c:=by rw[o];rfl
 have G:s'.ms=.recv:=by rw[o];rfl
 have b8:(s.w j).busy=true/\(s.w j).cnt=1/\(s.w j).last=false/\(s.w j).pc=.out/\(s.w j).jG=false/\s.w j≠.gone/\(s.w j).owns=false:=by rcases K with h|⟨_,h⟩<;>rw[h]<;>simp[br.busy,br.cnt,br.last,br.pc,br.jG,br.owns]
 obtain⟨b1,b2,b3,b4,b5,b6,b7⟩:=b8
 have hI:bQ A.n s':=by rw[o];refine C.I.lg D (by rw[b2];rcases H with e|e<;>rw[e]<;>rfl) b3 rfl b6 rfl (by rw[b4];rfl) rfl (.inl ⟨rfl,b5⟩) (λ_=>X.2) X
 have N:∀l,(s'.w l).busy=(s.w l).busy:=λl=>by
  by_cases e:l=j
  . subst e;rw[r,b1];rfl
  . rw[L e]
 have b9:dw P A Z s' (bO kk 0 ((kk 0).join (kk (A.b+j)))) OO J M gs'.size ((w.at d).setChan A.cF 0 #[] false (c+1) (c+1) tm) (t++nc (A.b+j) 0 A.cF c c 0 f1 Q R S):=by
  refine C.chan hI (by rw[a8,o];exact C.size) ⟨c+1,tm,by rw[sO z,if_pos rfl,F,ay]⟩ (λb E=>by rw[sO z,if_neg E]) (by rw[o];rfl) (by rw[o];rfl) (by rw[o];rfl) (by rw[o];rfl) (λl _=>?_) (λi b n v h=>?_) (au _ _ (by omega)) (λi=>?_) (.inl F) (λop h=>⟨(kO h).1,(kO h).2.2.2⟩) (λi u=>.inl ?_) (λi bq hn=>?_)
  . by_cases e:l=j
    . subst e;rw[r,b7];rfl
    . rw[L e]
  . by_cases e:i=0
    . subst e
      rw[ap]at h;exact(ah.lN h).elim (λh=>⟨0,h⟩) (λh=>⟨_,h⟩)
    . rw[au _ _ e]at h;exact⟨i,h⟩
  . rw[C.hJ i]
    unfold fY;simp only[N,F]
  . rw[o]at u;exact u
  . have a7:¬bR P A s i:=λh=>hn (by rw[o];exact h)
    rw[au _ _ (λe=>a7 (.inl e))]
    exact C.Ck i bq a7
 have hL:MS.ik A.n s' s:=by rw[o];refine ug D ?_;have e1:(br.zg (P:=P)).cS=18:=rfl;have e2:pv.recv.cS=100:=rfl;omega
 have hS:ir A s s' (λi=>i=0\/i=A.b+j):=⟨λl _ hl=>L (λe=>hl (.inr (by omega))),λ_=>F,λh=>absurd (.inl rfl) h,by rw[o];rfl,by rw[o];rfl⟩
 refine⟨s',bO (bO f 0 ⟨_,_,_,_,U⟩) (A.b+j) ⟨_,_,_,_,W⟩,bO kk 0 ((kk 0).join (kk (A.b+j))),hL,?_⟩;refine O.G8 hu hP b9 (by omega) (λi=>i=0\/i=A.b+j) (λi u=>ho i (λe=>u (.inl e)) (λe=>u (.inr e))) (lR hZ hS (λi u=>by rw[au _ _ (λe=>u (.inr e)),au _ _ (λe=>u (.inl e))]) (λ_ _=>rfl) (λi u _=>au _ _ (λe=>u (.inl e))) (λ_ _ _=>rfl) (λ_ _ _ h=>h)) (λi u=>?_)
 rcases u with rfl|rfl
 . refine⟨gm,hm,λ_=>?_,λh=>absurd h (sP (.inl G)),λh=>absurd h (na (by rw[G];simp)),λh=>absurd (ji G) h⟩
   have bz:(0:Nat)≠A.b+j:=by omega
   rw[au _ _ bz,ap,ap];refine⟨by show 0<A.b+A.n+1;omega,rfl,?_,rfl,rfl,U.running,by rw[cj hu];exact d0,.inl rfl,CD⟩
   show qW P A Fin _ _=bM P A Fin s' 0;rw[oi G,B];congr 1;rw[B]at Y;omega
 . refine⟨gw,hw,λ_=>?_,λh=>absurd h (rL D (.inr r)),λh=>absurd h (zh D r),λh=>absurd (wU D r) h⟩
   rw[ap,au _ _ (by omega)]
   refine⟨by show A.b+j<A.b+A.n+1;omega,rfl,?_,rfl,rfl,W.running,by rw[cj hu];exact dj,.inr ((C.hJ _).2 (.inl ⟨j,D,rfl,b1⟩)),Nd r⟩
   show qJ P A=bM P A Fin s' (A.b+j);rw[CB D r]
end
section
variable{P:Program}{A:eD}{Fin:ah->aj->Goroutine->Prop}{Z:Base}{s s':MS P}{f f':Nat->Node P}{q q':Nat->Nat}{kk kk':Nat->ah}{OO OO':Nat->aj}{J J' M M':Nat->Prop}{gs gs':Array Goroutine}{w w':World}{t u:Trace}{j:Nat}{g g₂:Goroutine}{z v:Value}
theorem Ha{k:ah}{O:aj}{g g₂ a:Goroutine}{z y:Value}(h:dS P A k O g g₂ z)(c:dS P A k O g a y)(b:Sat k O w):a=g₂/\y=z:=by have e:=(h w b).symm.trans (c w b);simp only[GStep.comm.injEq,rcase]at e;simp at e;exact⟨e.1.symm,e.2.symm⟩
theorem Eq{g g':Goroutine}{cs a:Array CommCase}{sh b:CommShape}(h:parked g cs sh=parked g' a b):(∀v,Go.Conc.served g v=Go.Conc.served g' v)/\cs=a/\sh=b/\g.frame=g'.frame:=by
 refine⟨λv=>?_,?_,?_,?_⟩
 . show Go.Conc.served (parked g cs sh) v=Go.Conc.served (parked g' a b) v;rw[h]
 . have:=congrArg (λx:Goroutine=>x.offers) h
   simp only[parked,Option.some.injEq,Prod.mk.injEq]at this;exact this.1
 . have:=congrArg (λx:Goroutine=>x.offers) h
   simp only[parked,Option.some.injEq,Prod.mk.injEq]at this;exact this.2
 . show(parked g cs sh).frame=(parked g' a b).frame;rw[h]
theorem zi{k:ah}{O:aj}{g g₂:Goroutine}{z:Value}{m:Nat}{R:List Nat}{N:ah->aj->Goroutine->Prop}(h:(qW P A Fin (m+1) R).dH k O g N)(b:dS P A k O g g₂ z)(c:Sat k O w){j:Nat}(d:j∈R):
 ∀k' v,k.Le k'->V k' v (A.res j)->T P (qW P A Fin m (R.erase j)) jn k' O (g₂.finishComm P #[rcase A.cF z] (.recv true) 0 v true):=by
 obtain⟨_,a,y,e,i,l,f⟩:=h;obtain⟨rfl,rfl⟩:=Ha b e c;exact f j d
theorem J1{m:Nat}{R:List Nat}{k:ah}{O:aj}{g:Goroutine}{N:ah->aj->Goroutine->Prop}(h:(qW P A Fin m R).dH k O g N):
 ∃g₂ z,dS P A k O g g₂ z/\dS P A k O g₂ g₂ z/\g₂.status=.running/\(qW P A Fin m R).dH k O g₂ jn:=by
 cases m with
 |zero=>obtain⟨_,g₂,z,c,a,b,d⟩:=h;exact⟨g₂,z,c,a,b,rfl,g₂,z,a,a,b,d⟩
 |succ m=>obtain⟨_,g₂,z,c,a,b,d⟩:=h;exact⟨g₂,z,c,a,b,rfl,g₂,z,a,a,b,d⟩
theorem wX(a:j<A.n)(h:(s.w j).iD=false):∃m,(MS.rem P A.n s).length=m+1:=by have:j∈MS.rem P A.n s:=sN.2 ⟨a,h⟩;have:=List.length_pos_of_mem this;exact⟨(MS.rem P A.n s).length-1,by omega⟩
theorem CE(I:bQ A.n s)(a:j<A.n)(h:s.w j≠.gone):s.c.eL=false:=by
 cases e:s.c with
 |gone=>exact absurd ((I.g8 (by rw[e];rfl)).2.2.2 j a) h
 |_=>rfl
theorem J2(C:A.b+A.n+1<=Z.lk)(e:bI (cG P A Fin Z C) Z s f q kk OO J M gs w t)(o:j<A.n){O:Node P}(p:s.w j=.run false O)(D:s.ms=.parked)(Q:gs[A.b+j]?=some g)
 (W:∀w,Sat (kk (A.b+j)) (OO (A.b+j)) w->stepG P false g w=.comm g₂ #[scase A.cF v z] true .send w #[]) (X:V (kk (A.b+j)) v (A.res j)) (Y:T P (qJ P A) jn (kk (A.b+j)) (OO (A.b+j)) (Go.Conc.served g₂ undef)) (sl:Option (Nat × Nat)):
 Goes P A Fin Z C s gs w t sl (A.b+j):=by
 have R:dw P A Z s kk OO J M gs.size w t:=e.ex;have hb:=A.hb;have E:(A.b+j==0)=false:=by simp;omega
 obtain⟨c,tm,F⟩:=R.xP;rw[CE R.I o (by rw[p];simp)]at F
 have G:=(Array.getElem?_eq_some_iff.1 Q).1;obtain⟨_,_,_,_,_,_,hd,_⟩:=e.live _ (kM o p);obtain⟨_,_,_,d0,gp,H,_,p5⟩:=e.held 0 (.inl ⟨rfl,D⟩);obtain⟨_,gm,S,rfl,p6,p7,U⟩|⟨l,h1,h2,_⟩:=p5
 . have a:=stand_get (i:=A.b+j) (show(0:Nat)≠A.b+j by omega) H
   have h:partners (gs.setIfInBounds (A.b+j) ph) A.cF false=[(0,0)]:=by
    rw[partners_one a (λk x hk K=>?_),offersAt_parked_recv,if_pos rfl]
    . rfl
    . rcases getElem?_stand gs (A.b+j) k x K with⟨_,rfl⟩|⟨a7,K⟩
      . exact offersAt_ph ..
      . exact uT C e K (.inr hk)
   have d:=crowd_send_meets (P:=P) (sl:=sl) Q (by rw[E];exact W w (e.cK.sat _)) F (by omega) H h
   rw[iu]at d;have r:(s.w j).iD=false:=by rw[p];rfl
   obtain⟨m,u⟩:=wX (A:=A) (s:=s) o r;rw[u]at U;have y:0<gs.size:=(Array.getElem?_eq_some_iff.1 H).1
   obtain⟨s',f',kk',hL,B⟩:=handed C e o (.inr D) (.inr ⟨O,p⟩) (by rw[p,D];rfl) (gs':=(gs.setIfInBounds 0 (gm.finishComm P #[rcase A.cF S] (.recv true) 0 v true)).setIfInBounds (A.b+j) (g₂.finishComm P #[scase A.cF v z] .send 0 undef false)) (gw:=Go.Conc.served g₂ undef) (gm:=gm.finishComm P #[rcase A.cF S] (.recv true) 0 v true) w.drawn F hd d0 (by simp)
    (by rw[Array.getElem?_setIfInBounds_self_of_lt (by simpa using G)];rfl) (by rw[Array.getElem?_setIfInBounds_ne (by omega),Array.getElem?_setIfInBounds_self_of_lt y])
    (λi L N=>by rw[Array.getElem?_setIfInBounds_ne (Ne.symm N),Array.getElem?_setIfInBounds_ne (Ne.symm L)]) X Y
    (λk' L N=>by rw[u];exact zi U p6 (e.cK.sat 0) (sN.2 ⟨o,r⟩) k' v L N) g₂.frame.fn gm.frame.fn g₂.frame.place gm.frame.place
   refine⟨_,_,d,s',f',q,kk',OO,J,M,_,_,sl,rfl,hL,?_⟩;rw[show w.at w.drawn=w from rfl]at B
   simpa[nc]using B
 . omega
theorem J3(L:A.b+A.n+1<=Z.lk)(u:bI (cG P A Fin Z L) Z s f q kk OO J M gs w t)(hm:s.ms=.recv)(hj:j<A.n)(hw:s.w j=.wait)(hg:gs[0]?=some g)
 (hs:dS P A (kk 0) (OO 0) g g₂ z){N:ah->aj->Goroutine->Prop}(ht:(qW P A Fin (MS.rem P A.n s).length (MS.rem P A.n s)).dH (kk 0) (OO 0) g N) (sl:Option (Nat × Nat)):
 Goes P A Fin Z L s gs w t sl 0:=by
 have hE:dw P A Z s kk OO J M gs.size w t:=u.ex;have hb:=A.hb;obtain⟨c,tm,hF⟩:=hE.xP;rw[CE hE.I hj (by rw[hw];simp)]at hF
 have a7:=(Array.getElem?_eq_some_iff.1 hg).1;obtain⟨_,_,_,_,_,_,d0,_⟩:=u.live _ (ji hm)
 have h:∀{i:Nat}{x:Goroutine},gs[i]?=some x->i≠0->fj P A s i->∃a,a<A.n/\i=A.b+a/\s.w a=.wait/\∃p v o,x=parked p #[scase A.cF o v] .send/\V (kk i) o (A.res a)/\T P (qJ P A) jn (kk i) (OO i) (Go.Conc.served p undef):=λ{i x} E B C=>by
  obtain⟨_,_,_,_,y,r1,r2,r3⟩:=u.held i C;rw[E]at r1;obtain rfl:=Option.some.inj r1
  rcases r3 with⟨h0,_⟩|⟨a,h1,h2,p,v,o,h3,h4,_,h5⟩
  . exact absurd h0 B
  . refine⟨a,h1,h2,?_,p,v,o,h3,h4,h5⟩
    rcases C with⟨h6,_⟩|⟨l,h6,h7,h8⟩
    . exact absurd h6 B
    . obtain rfl:l=a:=by omega
      exact h8
 obtain⟨_,_,_,_,x0,e0,_⟩:=u.held (A.b+j) (.inr ⟨j,hj,rfl,hw⟩);obtain⟨a0,_,_,_,al,av,ax,rfl,_⟩:=h e0 (by omega) (.inr ⟨j,hj,rfl,hw⟩)
 have a8:partners (gs.setIfInBounds 0 ph) A.cF true≠[]:=λe=>by
  have:(A.b+j,0)∈partners (gs.setIfInBounds 0 ph) A.cF true:=mem_partners.2 ⟨_,stand_get (by omega) e0,by rw[offersAt_parked_send,if_pos rfl];simp⟩
  rw[e]at this;cases this
 have F:∀i k,(i,k)∈partners (gs.setIfInBounds 0 ph) A.cF true->k=0/\i≠0/\∃x,gs[i]?=some x/\fj P A s i:=λi k G=>by
  obtain⟨x,E,K⟩:=mem_partners.1 G
  rcases getElem?_stand gs 0 i x E with⟨_,rfl⟩|⟨hi,E⟩
  . rw[offersAt_ph]at K;cases K
  . by_cases C:fj P A s i
    . obtain⟨a,_,_,_,p,v,o,rfl,_⟩:=h E hi C
      rw[offersAt_parked_send,if_pos rfl]at K;exact⟨by simpa using K,hi,_,E,C⟩
    . rw[u.quiet (bm (P:=P) (A:=A) (Fin:=Fin) (Z:=Z) L) E C]at K;cases K
 have O:∀i k,(i,k)∈partners (gs.setIfInBounds 0 ph) A.cF true->k=0/\i≠0/\∃p o v Q,gs[i]?=some (parked p #[scase A.cF o v] Q):=λi k G=>by obtain⟨h1,h2,x,h3,h4⟩:=F i k G;obtain⟨a,_,_,_,p,v,o,rfl,_⟩:=h h3 h2 h4;exact⟨h1,h2,p,o,v,_,h3⟩
 obtain⟨i,p,o,v,Q,d,B,H,D⟩:=crowd_recv_meets_some (P:=P) (sl:=sl) hg (show stepG P (0==0) g w=_ from hs w (u.cK.sat 0)) hF a8 O
 rw[iu]at D
 have r:fj P A s i:=Classical.byContradiction λC=>by have:=u.quiet (bm (P:=P) (A:=A) (Fin:=Fin) (Z:=Z) L) H C A.cF true;rw[offersAt_parked_send,if_pos rfl]at this;cases this
 obtain⟨a,a2,rfl,a3,ay,b0,a9,R,S,e3⟩:=h H B r;obtain⟨i1,i2,i3,i4⟩:=Eq R
 have i5:o=a9:=by
  have:=congrArg (λx:Array CommCase=>x[0]?) i2
  simp[scase]at this;exact this.1
 subst i3;subst i5;obtain⟨_,_,_,dj,_⟩:=u.held _ r;have U:=(Array.getElem?_eq_some_iff.1 H).1;have W:(s.w a).iD=false:=by rw[a3];rfl
 obtain⟨m,X⟩:=wX (A:=A) (s:=s) a2 W;have Y:=ht;rw[X]at Y
 obtain⟨s',f',kk',hL,ad⟩:=handed L u a2 (.inl hm) (.inl a3) (by rw[a3,hm];rfl) (gs':=(gs.setIfInBounds (A.b+a) (p.finishComm P #[scase A.cF o v] .send 0 undef false)).setIfInBounds 0 (g₂.finishComm P #[rcase A.cF z] (.recv true) 0 o true)) (gw:=Go.Conc.served p undef) (gm:=g₂.finishComm P #[rcase A.cF z] (.recv true) 0 o true) d hF dj d0 (by simp)
  (by rw[Array.getElem?_setIfInBounds_ne (by omega),Array.getElem?_setIfInBounds_self_of_lt U];rfl) (by rw[Array.getElem?_setIfInBounds_self_of_lt (by simpa using a7)])
  (λi R S=>by rw[Array.getElem?_setIfInBounds_ne (Ne.symm R),Array.getElem?_setIfInBounds_ne (Ne.symm S)]) S (by rw[i1];exact e3)
  (λk' R S=>by rw[X];exact zi Y hs (u.cK.sat 0) (sN.2 ⟨a2,W⟩) k' o R S) p.frame.fn g₂.frame.fn p.frame.place g₂.frame.place
 refine⟨_,_,D,s',f',q,kk',OO,J,M,_,_,sl,rfl,hL,?_⟩;simpa[nc]using ad
theorem sQ(a:s.ms=.parked):¬dK P A s 0:=by
 have:=A.hb;rintro(⟨_,h⟩|⟨l,b,c,d⟩|⟨h,_⟩)
 . rw[a]at h;exact h
 . omega
 . omega
theorem J4(K:A.b+A.n+1<=Z.lk)(B:bI (cG P A Fin Z K) Z s f q kk OO J M gs w t)(L:s.ms=.recv)(D:∀j,j<A.n->s.w j≠.wait)(E:s.c≠.gone)(V:gs[0]?=some g)
 (X:dS P A (kk 0) (OO 0) g g₂ z) (N:dS P A (kk 0) (OO 0) g₂ g₂ z) (Y:g₂.status=.running) (ht:(qW P A Fin (MS.rem P A.n s).length (MS.rem P A.n s)).dH (kk 0) (OO 0) g₂ jn) (sl:Option (Nat × Nat)):
 Goes P A Fin Z K s gs w t sl 0:=by
 have d:dw P A Z s kk OO J M gs.size w t:=B.ex;have hb:=A.hb;obtain⟨c,tm,W⟩:=d.xP
 have F:s.c.eL=false:=by
  cases e:s.c.eL with
  |true=>exact absurd (rJ.1 e) E
  |false=>rfl
 rw[F]at W;have O:=(Array.getElem?_eq_some_iff.1 V).1;obtain⟨_,_,_,_,_,_,d0,_⟩:=B.live _ (ji L)
 have G:∀Q∈(#[rcase A.cF z]:Array CommCase),NoWays w (gs.setIfInBounds 0 ph) Q:=λQ R=>by
  have:Q=rcase A.cF z:=by simpa using R
  subst this;exact ways_recv_none W (oT λi x _ hx=>uU K B hx (λj h1 h2=>D j h1) _)
 have p:=crowd_waits (P:=P) (sl:=sl) V (show stepG P (0==0) g w=_ from X w (B.cK.sat 0)) G
 rw[iu]at p;have S:∀i,¬(i=0)->(gs.setIfInBounds 0 (parked g₂ #[rcase A.cF z] (.recv true)))[i]?=gs[i]?:=λi C=>Array.getElem?_setIfInBounds_ne (Ne.symm C)
 have r:(gs.setIfInBounds 0 (parked g₂ #[rcase A.cF z] (.recv true)))[0]?=some (parked g₂ #[rcase A.cF z] (.recv true)):=Array.getElem?_setIfInBounds_self_of_lt O;have hP:cE Z kk OO J M w (t++#[]):=by rw[oU];exact B.cK
 obtain⟨s',a⟩:∃s',s'=s.sM .parked s.gc:=⟨_,rfl⟩;have k:s'.ms=.parked:=by rw[a];rfl
 have m:s'.w=s.w:=by rw[a];rfl
 have o:s'.c=s.c:=by rw[a];rfl
 have u:=d.I.ms;rw[L]at u
 have hI:bQ A.n s':=by rw[a];exact⟨by have:=d.I.g1;rw[L]at this;exact this,d.I.g2,d.I.jj,d.I.g3,d.I.mE,d.I.g4,d.I.g5,d.I.g6,d.I.g7,d.I.g8,d.I.g9,d.I.ok,d.I.OL,d.I.sp,d.I.idle,⟨u.1,u.2,E,D⟩,d.I.early,d.I.mu⟩
 have T:dw P A Z s' kk OO J M (gs.setIfInBounds 0 (parked g₂ #[rcase A.cF z] (.recv true))).size w (t++#[]):=by
  refine d.chan hI (by rw[Array.size_setIfInBounds,a];exact d.size) (by rw[o];exact d.xP) (λ_ _=>rfl) (by rw[a];rfl) (by rw[a];rfl) (by rw[a];rfl) (by rw[a];rfl) (λl _=>by rw[m]) (λi b n v h=>⟨i,h⟩) rfl (λi=>?_) (.inl o) (λop h=>by simp at h) (λi C=>.inl ?_) (λi U hn=>d.Ck i U λh=>hn ?_)
  . rw[d.hJ i]
    unfold fY;rw[m,o]
  . rw[a]at C;exact C
  . rw[a];exact h
 have hL:MS.ik A.n s' s:=by
  refine .inl ?_;rw[a];show pv.parked.cS+sumTo A.n (λi=>(s.w i).cS)+s.c.cS s.gc<s.ms.cS+sumTo A.n (λi=>(s.w i).cS)+s.c.cS s.gc
  rw[L];have e1:pv.parked.cS=99:=rfl;have e2:pv.recv.cS=100:=rfl;omega
 have H:MS.rem P A.n s'=MS.rem P A.n s:=Ep λl _=>by rw[m]
 have hS:ir A s s' (λi=>i=0):=⟨λl _ hl=>by rw[m],λ_=>o,λh=>absurd rfl h,by rw[a];rfl,by rw[a];rfl⟩
 refine⟨_,_,p,s',f,q,kk,OO,J,M,_,_,_,rfl,hL,?_⟩;refine B.G8 CC hP T (by simp) (λi=>i=0) S (lR K hS (λ_ _=>rfl) (λ_ _=>rfl) (λ_ _ _=>rfl) (λ_ _ _=>rfl) (λ_ _ _ h=>h)) (λi C=>?_)
 subst C;have y:fj P A s' 0:=.inl ⟨rfl,k⟩;refine⟨_,r,λh=>absurd h (sQ k),λh=>absurd h (sP (.inr k)),λ_=>⟨sQ k,sP (.inr k),?_,by rw[oU];exact d0,rfl,.inl ⟨rfl,g₂,z,rfl,N,Y,by rw[H];exact ht⟩⟩,λ_ _ h=>absurd y h⟩
 show 0<A.b+A.n+1;omega
end
end Go.aR

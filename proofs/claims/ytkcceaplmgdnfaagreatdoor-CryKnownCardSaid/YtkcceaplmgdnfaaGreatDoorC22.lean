import Derived.Conc.TokenTrace
import Derived.Test.YtkcceaplmgdnfaaGreatDoorC21
set_option linter.all false
namespace Go.bu
open Go.Conc
open Go.ConcN (sumTo upd sumTo_upd upd_ne upd_same)
section
variable{P:Program}{A:pH P}{Z:Base}{s s':A.S}{f f':Nat->Node P}{q q':Nat->Nat}{kk kk':Nat->ai}{OO OO':Nat->aj}{J J' M M':Nat->Prop}{gs gs':Array Goroutine}{w w':World}{t u:Trace}
structure Aside(A:pH P)(s s':A.S)(f f':Nat->Node P)(q q':Nat->Nat)(kk kk':Nat->ai)(OO OO':Nat->aj)(J J':Nat->Prop)(S:Nat->Prop):Prop where
 ef:∀j,¬S j->f' j=f j
 eq:∀j,¬S j->q' j=q j
 ek:∀j,¬S j->j<A.top->kk' j=kk j
 eO:∀j,¬S j->j<A.top->OO' j=OO j
 eJ:∀j,¬S j->A.Live s j->J j->J' j
 live:∀j,¬S j->(A.Live s' j↔A.Live s j)
 walk:∀j,¬S j->(A.Walk s' j↔A.Walk s j)
 held:∀j,¬S j->(A.mZ s' j↔A.mZ s j)
 mo:∀j,¬S j->A.Live s j->A.mo s' j=A.mo s j
 at':∀j k O x,¬S j->A.Walk s j->A.At s j k O x->A.At s' j k O x
 deaf:∀j,¬S j->A.Walk s j->A.deaf s' j=A.deaf s j
 yh:∀j,¬S j->A.Walk s j->A.yh s j->A.yh s' j
 QB:∀j k O x,¬S j->A.mZ s j->A.Db s j k O x->A.Db s' j k O x
 tie:∀j x,¬S j->A.Live s j->A.ME s j x->A.ME s' j x
theorem bn.Gq(m:bn A Z s f q kk OO J M gs w t)(K:jK u)(L:bX Z kk' OO' J' M' w' (t++u))(C:A.Ex s' kk' OO' J' M' gs'.size w' (t++u))(D:gs.size<=gs'.size)(S:Nat->Prop)(E:∀i,¬S i->gs'[i]?=gs[i]?)
 (a:Aside A s s' f f' q q' kk kk' OO OO' J J' S) (v:∀i,S i->∃n,gs'[i]?=some n/\Self P A s' f' q' kk' OO' J' (t++u) i n):bn A Z s' f' q' kk' OO' J' M' gs' w' (t++u):=by
 have y:∀j,Deaf (t++u) j=Deaf t j:=λj=>bP K j
 refine⟨m.lk,L,λj c=>?_,λj c=>?_,λj c=>?_,λj x z F G H=>?_,λj c=>by rw[y];exact m.above j (Nat.le_trans D c),C⟩
 . by_cases e:S j
   . obtain⟨n,B,l⟩:=v j e
     obtain⟨d,g,k⟩:=l.live c
     simp_all
   . have b:=(a.live j e).1 c
     obtain⟨d,g,pm,k,p,r,o,I⟩:=m.live j b;rw[a.ef j e,a.ek j e d,a.eO j e d,y j,a.mo j e b,E j e];exact⟨d,g,pm,k,p,r,o,I.1.imp id (a.eJ j e b),a.tie j _ e b I.2⟩
 . by_cases e:S j
   . obtain⟨n,B,l⟩:=v j e
     obtain⟨d,g,k,V,p,r⟩:=l.walk c
     grind
   . have b:=(a.walk j e).1 c
     obtain⟨d,g,k,x,N,p,r,o⟩:=m.walk j b;refine⟨λh=>d ((a.live j e).1 h),g,by rw[y j,a.deaf j e b];exact k,x,N,by simp_all,?_,?_⟩
     . rw[a.ek j e g,a.eO j e g];exact a.at' j _ _ _ e b r
     . rw[a.eq j e]
       rcases o with⟨O,Q,R⟩|o
       . exact .inl ⟨a.yh j e b O,Q,R⟩
       . exact .inr o
 . by_cases e:S j
   . obtain⟨n,B,l⟩:=v j e
     obtain⟨d,g,k,p,r,o⟩:=l.held c
     simp_all
   . have b:=(a.held j e).1 c
     obtain⟨d,g,k,p,x,W,T,U⟩:=m.held j b;refine⟨λh=>d ((a.live j e).1 h),λh=>g ((a.walk j e).1 h),k,by simp_all,x,by simp_all,T,?_⟩;rw[a.ek j e k,a.eO j e k];exact a.QB j _ _ _ e b U
 . by_cases e:S j
   . obtain⟨n,B,l⟩:=v j e
     rw[B]at z;obtain rfl:=Option.some.inj z;exact l.rest F G H
   . rw[a.eq j e,y j]
     rw[E j e]at z;exact m.rest j x z (λh=>F ((a.live j e).2 h)) (λh=>G ((a.walk j e).2 h)) (λh=>H ((a.held j e).2 h))
theorem bn.quiet(B:yi A)(a:bn A Z s f q kk OO J M gs w t){i:Nat}{x:Goroutine}(d:gs[i]?=some x)(n:¬A.mZ s i)(c:Nat)(b:Bool):offersAt x c b=[]:=by
 by_cases g:A.Live s i
 . obtain⟨_,j,_,_,_,k,_⟩:=a.live i g
   rw[d]at j;obtain rfl:=Option.some.inj j;exact offersAt_of_not_blocked (by simp_all) _ _
 by_cases l:A.Walk s i
 . obtain⟨_,_,_,y,o,m,k,e⟩:=a.walk i l
   rw[d]at m;obtain rfl:=Option.some.inj m;obtain⟨p,r⟩:=B.jS k;rcases e with⟨_,rfl,_⟩|e
   . show offersAt (blk o) c b=[]
     unfold offersAt blk
     simp_all
   . exact offersAt_of_not_blocked (by rw[e.first p];decide) _ _
 . have h:=(a.rest i x d g l n).2
   refine offersAt_of_not_blocked ?_ _ _;rcases h.status with h|h<;>rw[h]<;>decide
end
section
variable{P:Program}{A:bt}{Fin:ai->aj->Goroutine->Prop}{Z:Base}{s s':MS P}{f f':Nat->Node P}{q q':Nat->Nat}{kk kk':Nat->ai}{OO OO':Nat->aj}{J J' M M':Nat->Prop}{gs gs':Array Goroutine}{w w':World}{t u:Trace}{i:Nat}
structure fU{P:Program}(A:bt)(s s':MS P)(S:Nat->Prop):Prop where
 w:∀l,l<A.n -> ¬S (A.b+l)->s'.w l=s.w l
 c:¬S A.cl->s'.c=s.c
 ms:¬S 0->s'.ms=s.ms/\MS.rem P A.n s'=MS.rem P A.n s
 sh:s'.sh.ms=s.sh.ms
 gm:s'.gm=s.gm
variable{S:Nat->Prop}
theorem fU.live(h:fU A s s' S){j:Nat}(b:¬S j):c9 P A s' j↔c9 P A s j:=by
 constructor<;>rintro(⟨d,a⟩|⟨l,a,e,f⟩|⟨d,a⟩)
 . subst d;exact .inl ⟨rfl,by rw[<-(h.ms b).1];exact a⟩
 . subst e;exact .inr (.inl ⟨l,a,rfl,by rw[<-h.w l a b];exact f⟩)
 . subst d;exact .inr (.inr ⟨rfl,by rw[<-h.c b];exact a⟩)
 . subst d;exact .inl ⟨rfl,by rw[(h.ms b).1];exact a⟩
 . subst e;exact .inr (.inl ⟨l,a,rfl,by rw[h.w l a b];exact f⟩)
 . subst d;exact .inr (.inr ⟨rfl,by rw[h.c b];exact a⟩)
theorem fU.walk(h:fU A s s' S){j:Nat}(b:¬S j):fa P A s' j↔fa P A s j:=by
 constructor<;>rintro(⟨d,a⟩|⟨l,a,e,f⟩|⟨d,a⟩)
 . subst d;exact .inl ⟨rfl,by rw[<-(h.ms b).1];exact a⟩
 . subst e;exact .inr (.inl ⟨l,a,rfl,by rw[<-h.w l a b];exact f⟩)
 . subst d;exact .inr (.inr ⟨rfl,by rw[<-h.c b];exact a⟩)
 . subst d;exact .inl ⟨rfl,by rw[(h.ms b).1];exact a⟩
 . subst e;exact .inr (.inl ⟨l,a,rfl,by rw[h.w l a b];exact f⟩)
 . subst d;exact .inr (.inr ⟨rfl,by rw[h.c b];exact a⟩)
theorem fU.held(h:fU A s s' S){j:Nat}(b:¬S j):ep P A s' j↔ep P A s j:=by
 constructor<;>rintro(⟨c,a⟩|⟨l,a,d,e⟩)
 . subst c;exact .inl ⟨rfl,by rw[<-(h.ms b).1];exact a⟩
 . subst d;exact .inr ⟨l,a,rfl,by rw[<-h.w l a b];exact e⟩
 . subst c;exact .inl ⟨rfl,by rw[(h.ms b).1];exact a⟩
 . subst d;exact .inr ⟨l,a,rfl,by rw[h.w l a b];exact e⟩
theorem kq(B:A.b+A.n+1<=Z.lk)(d:fU A s s' S)(C:∀j,¬S j->f' j=f j)(D:∀j,¬S j->q' j=q j)(E:∀j,¬S j->j<A.b+A.n+1->kk' j=kk j)(F:∀j,¬S j->j<A.b+A.n+1->OO' j=OO j)(G:∀j,¬S j->c9 P A s j->J j->J' j):
 Aside (bL P A Fin Z B) s s' f f' q q' kk kk' OO OO' J J' S:=by
 have hb:=A.hb;refine⟨C,D,E,F,G,λj a=>d.live a,λj a=>d.walk a,λj a=>d.held a,λj a H=>?_,λj k O y a _ v=>?_,λj a x=>?_,λj a x hd=>?_,λj k O y a _ v=>?_,λj y a _ I=>?_⟩
 . show bR P A Fin s' j=bR P A Fin s j
   unfold bR;by_cases p:j=0
   . subst p
     simp only[if_true,(d.ms a).1,(d.ms a).2]
   rcases H with⟨g,_⟩|⟨l,i,m,_⟩|⟨g,_⟩
   . omega
   . subst m
     have e:A.b+l-A.b=l:=by omega
     have r:¬A.b+l=0:=by omega
     have t:A.b+l<A.b+A.n:=by omega
     simp only[if_neg r,if_pos t,e,d.w l i a]
   . have t:¬j<A.b+A.n:=by omega
     simp only[if_neg p,if_neg t,d.c (g ▸ a)]
 . rcases v with⟨g,h⟩|⟨l,i,m,o⟩|⟨g,h⟩
   . subst g;exact .inl ⟨rfl,by rw[(d.ms a).1];exact h⟩
   . subst m;exact .inr (.inl ⟨l,i,rfl,by rw[d.w l i a];exact o⟩)
   . subst g;exact .inr (.inr ⟨rfl,by rw[d.c a];exact h⟩)
 . show dq P A s' j=dq P A s j
   unfold dq;rcases x with⟨g,L⟩|⟨l,i,m,_⟩|⟨g,_⟩
   . subst g
     rw[if_pos rfl,if_pos rfl,(d.ms a).1]
     grind
   . subst m
     have e:A.b+l-A.b=l:=by omega
     have r:¬A.b+l=0:=by omega
     have t:A.b+l<A.b+A.n:=by omega
     simp only[if_neg r,if_pos t,e,d.w l i a]
   . have K:=d.c (g ▸ a)
     by_cases r:j=0
     . subst r
       simp only[if_true,(d.ms a).1,K]
     simp_all
 . rcases hd with⟨l,sv,Y,i,m,o,u⟩|⟨g,o,u⟩
   . subst m;exact .inl ⟨l,sv,Y,i,rfl,by rw[d.w l i a];exact o,by rw[d.sh];exact u⟩
   . subst g;exact .inr ⟨rfl,by rw[d.c a];exact o,by rw[d.gm];exact u⟩
 . rcases v with⟨g,g₂,z,i,m,o,u⟩|h
   . subst g;exact .inl ⟨rfl,g₂,z,i,m,o,by rw[(d.ms a).2];exact u⟩
   . exact .inr h
 . exact λl b X i m o=>I l b X i m (by subst m;rw[<-o];exact(d.w l i a).symm)
theorem tC(c:A.b+A.n+1<=Z.lk)(d:bn (bL P A Fin Z c) Z s f q kk OO J M gs w t){x:Goroutine}(e:gs[i]?=some x)(h:s.ms≠.parked\/i≠0):offersAt x A.cF false=[]:=by
 have B:=aY (P:=P) (A:=A) (Fin:=Fin) (Z:=Z) c;have hb:=A.hb;by_cases a:ep P A s i
 . obtain⟨_,_,_,_,y,g,r,m⟩:=d.held i a
   rw[e]at g;obtain rfl:=Option.some.inj g;rcases m with⟨u,_⟩|⟨j,k,o,g₂,z,v,p,_⟩
   . rcases a with⟨_,k⟩|⟨l,k,o,_⟩
     . simp_all
     . omega
   . rw[p,offersAt_parked_send']
 . exact d.quiet B e a _ _
theorem tD(d:A.b+A.n+1<=Z.lk)(e:bn (bL P A Fin Z d) Z s f q kk OO J M gs w t){x:Goroutine}(g:gs[i]?=some x)(h:∀j,j<A.n->i=A.b+j->s.w j≠.wait)(r:Nat):offersAt x r true=[]:=by
 have B:=aY (P:=P) (A:=A) (Fin:=Fin) (Z:=Z) d;have hb:=A.hb;by_cases a:ep P A s i
 . obtain⟨_,_,_,_,y,k,o,m⟩:=e.held i a
   rw[g]at k;obtain rfl:=Option.some.inj k;rcases m with⟨p,g₂,z,c,_⟩|⟨j,u,v,_⟩
   . rw[c,offersAt_parked_recv']
   . rcases a with⟨c,_⟩|⟨l,c,C,D⟩
     . omega
     simp_all
 . exact e.quiet B g a _ _
theorem nk{i:Nat}{c:Nat}{b:Bool}(h:∀(j:Nat) (g:Goroutine),j≠i->gs[j]?=some g->offersAt g c b=[]):partners (gs.setIfInBounds i ph) c b=[]:=
 partners_nil λj g a=>by
  rcases getElem?_stand gs i j g a with⟨_,rfl⟩|⟨d,a⟩
  . exact offersAt_ph ..
  grind
end
section
variable{Z:Base}{kk:Nat->ai}{OO:Nat->aj}{J J' M M':Nat->Prop}{w w':World}{t u:Trace}
theorem bX.hand(h:bX Z kk OO J M w t){src dst:Nat}(k:src≠Z.lk)(l:dst≠Z.lk)(o:∀n,Knows t src n->Knows (t++u) dst n)(q:∀op∈u,op.act.touch?=none)(r:∀op∈u,op.act.low w.heap.size)(z:w'.heap.size=w.heap.size)(A:Calm Z w w')(hb:∀b,Kept kk OO w w' b)
 (f:∀n a,touchAt t n=some a->a.loc.isMemory=true->((∃j,J j/\Knows t j n)\/(∃p,M p/\Before t n p))->Told Z J' M' (t++u) n a):
 bX Z (bF kk dst ((kk dst).join (kk src))) OO J' M' w' (t++u):=by
 refine h.r9 (λa b=>a=b\/(a=src/\b=dst)) z A hb r (λa b e n y _ _ _ d=>?_) (λj b n v c=>?_) (λj b s c=>?_) (λj b x B=>⟨j,.inl rfl,B,λs i=>?_⟩) h.iF
  (λsaid=>?_) (λop g a f=>by simp_all) (λm op a g f=>by grind) f
 . rcases e with rfl|⟨rfl,rfl⟩
   . exact d.app u
   . exact(mY l).2 (o n ((mY k).1 d))
 . by_cases e:j=dst
   . subst e
     rw[az]at c;rcases ai.my c with c|c
     . simp_all
     simp_all
   . rw[aA _ _ e]at c;simp_all
 . by_cases e:j=dst
   . subst e
     rw[az]at c;rcases ai.ET c with c|c
     . simp_all
     simp_all
   . rw[aA _ _ e]at c;simp_all
 . by_cases e:j=dst
   . subst e;rw[az];exact(ai.qL _ _).sh b s i
   . rw[aA _ _ e];exact i
 . exact noRace_appendMute (h.clean said) q
end
end Go.bu
namespace Go.bu
open Go.Conc
open Go.ConcN (sumTo upd sumTo_upd upd_ne upd_same)
variable{P:Program}
def MS.jP(s:MS P)(j:Nat)(x:ba P)(m1:m8)(sp1:Nat):MS P:={s with w:=λi=>if i=j then x else s.w i,ms:=m1,sp:=sp1}
section
variable{s:MS P}{j n:Nat}{x:ba P}{m1:m8}{sp1:Nat}
theorem er:(s.jP j x m1 sp1).w j=x:=by simp[MS.jP]
theorem iL{i:Nat}(h:i≠j):(s.jP j x m1 sp1).w i=s.w i:=by simp[MS.jP,h]
theorem Nf:(λi=>((s.jP j x m1 sp1).w i).pc)=Mu.set (λi=>(s.w i).pc) j x.pc:=by
 funext i;by_cases h:i=j
 . subst h;rw[er,Mu.ao]
 . rw[iL h,Mu.ak _ _ h]
theorem BF(F:ba P->Nat)(a:j<n):sumTo n (λi=>F ((s.jP j x m1 sp1).w i))+F (s.w j)=sumTo n (λi=>F (s.w i))+F x:=by
 have e:(λi=>F ((s.jP j x m1 sp1).w i))=upd (λi=>F (s.w i)) j (F x):=by
  funext i;by_cases h:i=j
  . subst h;rw[er,upd_same]
  . rw[iL h,upd_ne _ _ h]
 rw[e];have:=sumTo_upd (λi=>F (s.w i)) (F x) id a
 simp_all
theorem bD.jP(I:bD n s)(u:j<n)(G:x.cnt+m1.pend=(s.w j).cnt+s.ms.pend)(k:(s.w j).last=false)(f:x.last=false)(z:s.w j≠.gone)(o:x.ok=true)(q:x.pc=(s.w j).pc)(b:x.iI=false)
 (m:(sp1=s.sp/\(s.w j).iI=false)\/(sp1=s.sp+1/\j=s.sp)) (A:x.gJ=true->s.c≠.none)
 (r:match (generalizing:=false) m1 with
   |.add l=>sp1+l=n/\s.c=.none
   |.bh l p=>sp1+l=n/\s.c=.none/\1<=l/\(p=.a0\/p=.a2\/p=.a4\/p=.ae)
   |.spawn l=>sp1+l+1=n/\s.c=.none
   |.recv=>sp1=n/\s.c≠.none
   |.parked=>sp1=n/\s.c≠.none/\s.c≠.gone/\∀i,i<n->(s.jP j x m1 sp1).w i≠.wait
   |.off=>sp1=n/\s.c≠.none):bD n (s.jP j x m1 sp1):=by
 have v:=BF (s:=s) (x:=x) (m1:=m1) (sp1:=sp1) ba.cnt u
 have g:∀{i:Nat},((s.jP j x m1 sp1).w i).last=(s.w i).last:=λ{i}=>by
  by_cases e:i=j
  . subst e;rw[er,k,f]
  . rw[iL e]
 have dn:∀{i:Nat}{p:uD},(p=.d5\/p=.d6\/p=.d7)->((s.jP j x m1 sp1).w i=.dn p↔s.w i=.dn p):=λ{i p} y=>by
  by_cases e:i=j
  . subst e
    rw[er];constructor<;>intro h
    . rw[h]at f;rcases y with rfl|rfl|rfl<;>cases f
    . rw[h]at k;rcases y with rfl|rfl|rfl<;>cases k
  . rw[iL e]
 refine⟨?_,I.g2,I.Jd,λi b h=>?_,λi l b k h d=>?_,λi b h=>?_,⟨I.g5.1,λh=>?_⟩,λh d t=>?_,λh d=>?_,λh=>?_,I.g9,λi a=>?_,I.Qz,?_,λi a=>?_,r,λhd h i a=>?_,?_⟩
 . have:=I.g1
   show s.gc=sumTo n (λi=>((s.jP j x m1 sp1).w i).cnt)+m1.pend;omega
 . exact I.g3 i b (h.imp (dn (.inl rfl)).1 (dn (.inr (.inl rfl))).1)
 . rw[g]at h d;exact I.H6 i l b k h d
 . exact I.g4 i b ((dn (.inr (.inr rfl))).1 h)
 . obtain⟨B,C,D,H⟩:=I.g5.2 h
   exact⟨B,C,D,λi b=>by simp_all⟩
 . obtain⟨i,b,E⟩:=I.g6 h d t
   grind
 . obtain⟨i,b,E⟩:=I.g7 h d
   grind
 . exact absurd ((I.g8 h).2.2.2 j u) z
 . by_cases e:i=j
   . subst e;rw[er];exact o
   . rw[iL e];exact I.ok i a
 . have:=I.sp
   show sp1<=n;omega
 . show ((s.jP j x m1 sp1).w i).iI=true↔sp1<=i
   by_cases e:i=j
   . subst e
     rw[er,b];rcases m with⟨h,d⟩|⟨h,d⟩
     . have:=I.idle i a
       simp_all
     simp_all
   . rw[iL e]
     rcases m with⟨h,d⟩|⟨h,d⟩
     . rw[h];exact I.idle i a
     . rw[I.idle i a];omega
 . by_cases e:i=j
   . subst e;rw[er]
     cases F:x.gJ with
     |false=>rfl
     |true=>exact absurd h (A F)
   . rw[iL e];exact I.early hd h i a
 . rw[Nf,q,iK (λi=>(s.w i).pc)];exact I.mu
theorem sE(a:j<n)(h:x.bT+m1.bT<(s.w j).bT+s.ms.bT):MS.eU n (s.jP j x m1 sp1) s:=by
 have:=BF (s:=s) (x:=x) (m1:=m1) (sp1:=sp1) ba.bT a;refine .inl ?_;show m1.bT+sumTo n (λi=>((s.jP j x m1 sp1).w i).bT)+s.c.bT s.gc<s.ms.bT+sumTo n (λi=>(s.w i).bT)+s.c.bT s.gc;omega
end
section
variable{A:bt}{Z:Base}{s s':MS P}{kk kk':Nat->ai}{OO:Nat->aj}{J J' M:Nat->Prop}{gsz gsz':Nat}{w w':World}{t u:Trace}
theorem cI.chan(h:cI P A Z s kk OO J M gsz w t)(hI:bD A.n s')(I:uj P A s')(T:s'.d=s.d)(D:A.dir=true->∀l,l<A.n->(s'.w l).gh=(s.w l).gh/\kk' (A.b+l)=kk (A.b+l)\/(s'.w l).rel=false/\(s.w l).gh=false)(G:gsz'=A.b+s'.sp+(if s'.c.isNone||A.dir then 0 else 1))(U:A.dir=false->∃x tm,w'.heap[A.cF]?=some (.chan 0 #[] s'.c.dO x x tm))(j:∀b,b≠A.cF->w'.heap[b]?=w.heap[b]?)
 (V:s'.sh=s.sh) (W:s'.gc=s.gc) (X:s'.gv=s.gv) (Y:s'.gm=s.gm) (K:∀l,l<A.n->(s'.w l).owns=(s.w l).owns) (a9:∀i b n v,(kk' i).cell b n=some v->∃l,(kk l).cell b n=some v) (L:kk' Z.lk=kk Z.lk)
 (a7:∀i,J' i↔dF P A s' i) (z:s'.c=s.c\/(s.c=.none/\(s'.c=.dL\/∃q,s'.c=.wt q)/\∀m,Knows t 0 m->Knows (t++u) A.cl m)) (hu:∀op∈u,op.act.touch?=none/\∀a,op.act≠.mark (.release a))
 (E:∀i,bG P A s' i->bG P A s i\/(∀m,Knows t 0 m->Knows (t++u) i m)) (N:∀i,i≠Z.lk -> ¬bG P A s' i->kk' i=ai.bot/\OO i=aj.bot):
 cI P A Z s' kk' OO J' M gsz' w' (t++u):=by
 have k:∀{m:Nat}{a:Touch},touchAt (t++u) m=some a->touchAt t m=some a:=λ{m a} r=>by
  rcases dB r with⟨o,_⟩|⟨op,O,o⟩
  . exact o
  simp_all
 have g:∀i b n,(∀l,(kk l).cell b n=none)->(kk' i).cell b n=none:=λi b n hn=>by
  cases e:(kk' i).cell b n with
  |none=>rfl
  |some v=>grind
 have H:s'.c=.gone->s.c=.gone:=λe=>by simp_all
 refine⟨hI,G,T.trans h.dd,I,λhd l B=>⟨λQ=>?_,λhr=>?_⟩,U,by rw[V];exact h.mu.same (.of_heap (j _ (Ne.symm A.d1))),by rw[W,X,Y];exact h.gr.same (.of_heap (j _ (Ne.symm A.d2))),by rw[j _ (Ne.symm A.d1)];exact h.tz,by rw[j _ (Ne.symm A.d2)];exact h.xC,h.fe,
  λi=>⟨g i _ _ λl=>(h.dM l).1,g i _ _ λl=>(h.dM l).2.1,g i _ _ λl=>(h.dM l).2.2.1,g i _ _ λl=>(h.dM l).2.2.2⟩,λi y hy=>?_,λl B a8=>h.xD l B (by simp_all),λa8=>?_,λc z=>?_,
  a7,λp hp=>?_,λz=>h.lG u (H z),λm a r R S i hi=>?_,λm a r R S=>?_,λi hi m a hm r F hz=>?_,h.iJ u (λop O=>(hu op O).2),N,h.qN,h.jh,h.dY,h.la,by simp;exact Nat.le_trans h.n0 (Nat.le_add_right _ _)⟩
 . have Q:(s.w l).gh=false:=(D hd l B).elim (λe=>e.1 ▸ Q) (·.2)
   exact⟨λi=>g i _ _ ((h.xk hd l B).1 Q).1,λm a ad r=>((h.xk hd l B).1 Q).2 m a ad (k r)⟩
 . rcases D hd l B with⟨e1,e2⟩|⟨e,_⟩
   . rw[e2];exact(h.xk hd l B).2 (by rw[ba.rel,<-e1,<-K l B];exact hr)
   simp_all
 . obtain⟨l,f,h3,h4,h5,h6⟩:=h.tok i y hy
   exact⟨l,f,h3,h4,by grind,h6⟩
 . rw[L];exact h.Mf λl B=>by simp_all
 . obtain⟨h3,h4⟩:=h.Mg c z
   simp_all
 . obtain⟨o,h2,h3⟩:=h.tB u p hp
   grind
 . rcases E i hi with o|o
   . exact(h.quiet m a (k r) R S i o).app u
   . exact o m (h.quiet m a (k r) R S 0 (.inl rfl))
 . have h0:=h.said m a (k r) R S
   rcases z with z|⟨z,C,o⟩
   . rw[z];exact h0.app u
   . rw[z]at h0
     rcases C with C|⟨_,C⟩<;>rw[C]<;>exact o m h0
 . have ab:m<t.size:=Nat.lt_of_lt_of_le hm h.n0
   rcases E i hi with o|o
   . exact(h.old i o m a hm (k r) F hz).app u
   . exact o m (h.old 0 (.inl rfl) m a hm (k r) F hz)
end
end Go.bu
namespace Go.bu
open Go.Conc
open Go.ConcN (sumTo upd sumTo_upd upd_ne upd_same)
section
variable{P:Program}{A:bt}{Fin:ai->aj->Goroutine->Prop}{Z:Base}{s s':MS P}{f f':Nat->Node P}{q q':Nat->Nat}{kk kk':Nat->ai}{OO OO':Nat->aj}{J J' M M':Nat->Prop}{gs gs':Array Goroutine}{w w':World}{t u:Trace}{j:Nat}{g g₂:Goroutine}{z v:Value}
theorem rf{l:Nat}:l∈MS.rem P A.n s↔l<A.n/\(s.w l).gJ=false:=by
 unfold MS.rem
 grind
theorem Ng{m1:m8}{sp1:Nat}(b:j<A.n)(h:(s.w j).gJ=false):MS.rem P A.n (s.jP j .xi m1 sp1)=(MS.rem P A.n s).erase j/\(MS.rem P A.n s).length=(MS.rem P A.n (s.jP j .xi m1 sp1)).length+1:=by
 have e:MS.rem P A.n (s.jP j .xi m1 sp1)=(MS.rem P A.n s).erase j:=by
  unfold MS.rem;rw[List.Nodup.erase_eq_filter (List.Nodup.sublist List.filter_sublist List.nodup_range),List.filter_filter];refine List.filter_congr λi _=>?_
  by_cases a:i=j
  . subst a;rw[er];simp[ba.gJ]
  . rw[iL a];simp[a]
 refine⟨e,?_⟩;have c:j∈MS.rem P A.n s:=rf.2 ⟨b,h⟩
 grind
theorem vN(a:j<A.n)(e:s.w j=.wait):¬c9 P A s (A.b+j):=by
 have:=A.hb;rintro(⟨e,_⟩|⟨l,c,d,f⟩|⟨e,_⟩)
 . omega
 . simp_all
 . omega
theorem np(a:j<A.n)(e:s.w j=.wait\/s.w j=.xi):¬fa P A s (A.b+j):=by
 have:=A.hb;rintro(⟨e,_⟩|⟨l,c,d,f⟩|⟨e,_⟩)
 . omega
 . grind
 . omega
theorem vO(a:j<A.n)(e:s.w j=.xi):bR P A Fin s (A.b+j)=jY P A:=by
 have:=A.hb;unfold bR
 grind
theorem eH(g:Nat)(fn:FuncId)(pos:String):MemOp.ofEvents g fn pos #[]=#[]:=by rw[ofEvents_eq];simp
theorem oX(t:Trace):t++(#[]:Trace)=t:=by simp
theorem BG:jK #[]:=λop h=>by simp at h
theorem Nh(F:A.b+A.n+1<=Z.lk)(k:A.dir=false)(D:bn (bL P A Fin Z F) Z s f q kk OO J M gs w t)(m:j<A.n){X:Node P}(p:s.w j=.run false X)(Y:s.ms≠.parked)(U:gs[A.b+j]?=some g)
 (hs:∀w,Sat (kk (A.b+j)) (OO (A.b+j)) w->stepG P false g w=.comm g₂ #[scase A.cF v z] true .send w #[]) (hO:OO (A.b+j) A.fb=none) (hv:V (kk (A.b+j)) v (A.res j)) (ht:T P (jY P A) fH (kk (A.b+j)) (OO (A.b+j)) (Go.Conc.served g₂ undef)) (sl:Option (Nat × Nat)):
 Goes P A Fin Z F s gs w t sl (A.b+j):=by
 have o:cI P A Z s kk OO J M gs.size w t:=D.ex;have hb:=A.hb;have G:(A.b+j==0)=false:=by simp;omega
 obtain⟨c,tm,W⟩:=o.yn k
 have H:s.c.dO=false:=by
  cases e:s.c with
  |gone=>have:=(o.I.g8 (by rw[e];rfl)).2.2.2 j m;simp_all
  |_=>rfl
 rw[H]at W;have K:=(Array.getElem?_eq_some_iff.1 U).1;obtain⟨_,_,_,_,_,_,hd,_⟩:=D.live _ (jD m p)
 have L:∀N∈(#[scase A.cF v z]:Array CommCase),NoWays w (gs.setIfInBounds (A.b+j) ph) N:=λN a7=>by
  have:N=scase A.cF v z:=by simp_all
  subst this;exact ways_send_none W (by simp) (nk λi x _ hx=>tC F D hx (.inl Y))
 have r:=crowd_waits (P:=P) (sl:=sl) U (by rw[G];exact hs w (D.cA.sat _)) L
 rw[eH]at r;have O:∀i,¬(i=A.b+j)->(gs.setIfInBounds (A.b+j) (parked g₂ #[scase A.cF v z] .send))[i]?=gs[i]?:=λi E=>Array.getElem?_setIfInBounds_ne (Ne.symm E)
 have u:(gs.setIfInBounds (A.b+j) (parked g₂ #[scase A.cF v z] .send))[A.b+j]?=some (parked g₂ #[scase A.cF v z] .send):=Array.getElem?_setIfInBounds_self_of_lt K;have hP:bX Z kk OO J M w (t++#[]):=by rw[oX];exact D.cA
 obtain⟨s',a⟩:∃s',s'=s.jP j .wait s.ms s.sp:=⟨_,rfl⟩;have d:s'.w j=.wait:=by rw[a,er]
 have Q:∀{l:Nat},l≠j->s'.w l=s.w l:=λh=>by rw[a,iL h]
 have hI:bD A.n s':=by
  rw[a];refine o.I.jP m (by rw[p];rfl) (by rw[p];rfl) rfl (by grind) rfl (by rw[p];rfl) rfl (.inl ⟨rfl,by rw[p];rfl⟩) (λh=>by cases h) ?_
  have:=o.I.ms
  grind
 have y:∀l,l<A.n->(s'.w l).gJ=(s.w l).gJ:=λl _=>by
  by_cases e:l=j
  . subst e;rw[d,p];rfl
  grind
 have B:∀l,(s'.w l).busy=(s.w l).busy:=λl=>by
  by_cases e:l=j
  . subst e;rw[d,p];rfl
  grind
 have R:cI P A Z s' kk OO J M (gs.setIfInBounds (A.b+j) (parked g₂ #[scase A.cF v z] .send)).size w (t++#[]):=by
  refine o.chan hI (zO k (by rw[a];exact o.off.2.2 k)) (by rw[a];rfl) (λh=>by simp_all) (by rw[Array.size_setIfInBounds,a];exact o.size) (by rw[a];exact o.yn) (λ_ _=>rfl) (by rw[a];rfl) (by rw[a];rfl) (by rw[a];rfl) (by rw[a];rfl) (λl _=>?_) (λi b n v h=>⟨i,h⟩) rfl (λi=>?_) (.inl (by rw[a];rfl)) (λop h=>by simp at h) (λi E=>.inl ?_) (λi S hn=>o.Bo i S λh=>hn ?_)
  . by_cases e:l=j
    . subst e;rw[d,p];rfl
    grind
  . rw[o.hJ i]
    unfold dF;simp only[B,show s'.c=s.c by rw[a];rfl]
  . rw[a]at E;exact E
  . rw[a];exact h
 have hL:MS.eU A.n s' s:=by rw[a];exact sE m (by rw[p];simp[ba.bT])
 have hS:fU A s s' (λi=>i=A.b+j):=⟨λl _ hl=>Q (by omega),λ_=>by rw[a];rfl,λ_=>⟨by rw[a];rfl,vK y⟩,by rw[a];rfl,by rw[a];rfl⟩
 refine⟨_,_,r,s',f,q,kk,OO,J,M,_,_,_,rfl,hL,?_⟩;refine D.Gq BG hP R (by simp) (λi=>i=A.b+j) O (kq F hS (λ_ _=>rfl) (λ_ _=>rfl) (λ_ _ _=>rfl) (λ_ _ _=>rfl) (λ_ _ _ h=>h)) (λi E=>?_)
 subst E;have C:ep P A s' (A.b+j):=.inr ⟨j,m,rfl,d⟩;refine⟨_,u,λh=>absurd h (vN m d),λh=>absurd h (np m (.inl d)),λ_=>⟨vN m d,np m (.inl d),?_,by simp_all,rfl,.inr ⟨j,m,rfl,g₂,z,v,rfl,hv,hO,ht,k⟩⟩,λ_ _ h=>absurd C h⟩
 omega
def lM(a b c s r cap:Nat)(f1 d:FuncId)(e f:String):Trace:=#[{g:=a,fn:=f1,pos:=e,act:=.send c s},{g:=b,fn:=d,pos:=f,act:=.recv c r cap},{g:=a,fn:=f1,pos:=e,act:=.sendDone c s},{g:=b,fn:=d,pos:=f,act:=.recvDone c r}]
theorem jF{a b c s r cap:Nat}{f1 d:FuncId}{e f:String}{op:MemOp}(h:op∈lM a b c s r cap f1 d e f):op.act.touch?=none/\(op.act≠.mark .disable/\op.act≠.mark .enable)/\(∀B,c<B->op.act.low B)/\∀a,op.act≠.mark (.release a):=by
 simp only[lM,List.mem_toArray,List.mem_cons,List.not_mem_nil,or_false]at h;rcases h with rfl|rfl|rfl|rfl<;>exact⟨rfl,⟨by simp,by simp⟩,λB g=>g,by simp⟩
theorem rh{w:World}{c cap s r:Nat}{buf:Array Value}{cl tm:Bool}{d:Nat}(a:ChanAt w c){b:Nat}:
 ((w.at d).setChan c cap buf cl s r tm).heap[b]?=if b=c then some (.chan cap buf cl s r tm)else w.heap[b]?:=by
 obtain⟨_,_,_,_,_,_,h⟩:=a;have e:=(Array.getElem?_eq_some_iff.1 h).1;simp only[World.setChan,World.at]
 grind
theorem vP(m:Nat)(R:List Nat):(pM P A Fin m R).solo=false:=by cases m<;>rfl
theorem mG(e:s.ms=.recv):bR P A Fin s 0=pM P A Fin (MS.rem P A.n s).length (MS.rem P A.n s):=by
 unfold bR
 simp_all
theorem ib(e:s.ms=.recv):c9 P A s 0:=.inl ⟨rfl,by simp_all⟩
theorem ri(hd:A.dir=false)(e:s.ms=.recv\/s.ms=.parked):¬fa P A s 0:=by
 have:=A.hb;have:=tx hd;rintro(⟨_,h⟩|⟨l,a,b,c⟩|⟨h,_⟩)
 . grind
 . omega
 . omega
theorem BH{x:Node P}:MT P A s 0 x:=λj h X a b _=>by have:=A.hb;omega
theorem Fs{x:Node P}(e:s.w j=.xi):MT P A s (A.b+j) x:=λl h X a c d=>by simp_all
theorem handed(hZ:A.b+A.n+1<=Z.lk)(u:A.dir=false)(K:bn (bL P A Fin Z hZ) Z s f q kk OO J M gs w t)(D:j<A.n)(L:s.ms=.recv\/s.ms=.parked)(N:s.w j=.wait\/∃X0,s.w j=.run false X0)(bx:(s.w j).bT+s.ms.bT=119){c:Nat}{tm:Bool}{gw gm:Goroutine}{v:Value}(d:Nat)
 (hF:w.heap[A.cF]?=some (.chan 0 #[] false c c tm)) (dj:Deaf t (A.b+j)=0) (d0:Deaf t 0=0)
 (a7:gs'.size=gs.size) (hw:gs'[A.b+j]?=some gw) (hm:gs'[0]?=some gm) (ho:∀i,i≠0->i≠A.b+j->gs'[i]?=gs[i]?)
 (hv:V (kk (A.b+j)) v (A.res j)) (a8:T P (jY P A) fH (kk (A.b+j)) (OO (A.b+j)) gw)
 (a9:∀k',(kk 0).Le k'->V k' v (A.res j)->T P (pM P A Fin ((MS.rem P A.n s).length-1) ((MS.rem P A.n s).erase j)) fH k' (OO 0) gm) (f1 O:FuncId) (Q R:String):
 ∃s' f' kk',MS.eU A.n s' s/\bn (bL P A Fin Z hZ) Z s' f' q kk' OO J M gs' ((w.at d).setChan A.cF 0 #[] false (c+1) (c+1) tm) (t++lM (A.b+j) 0 A.cF c c 0 f1 O Q R):=by
 have C:cI P A Z s kk OO J M gs.size w t:=K.ex;have hb:=A.hb;have B:ChanAt w A.cF:=⟨_,_,_,_,_,_,hF⟩;have ab:A.cF<w.heap.size:=(Array.getElem?_eq_some_iff.1 hF).1;have Y:jK (lM (A.b+j) 0 A.cF c c 0 f1 O Q R):=λop h=>(jF h).2.1
 have ad:(kk (A.b+j)).Le ((kk 0).join (kk (A.b+j))):=ai.vr (K.cA.sat 0) (K.cA.sat _);have al:=a9 _ (ai.qL _ _) (hv.mono ad);obtain⟨S⟩:=T.tree (vP (P:=P) (A:=A) (Fin:=Fin) _ _) al;obtain⟨U⟩:=T.tree (P:=P) (m:=jY P A) rfl a8;have bA:=L
 have W:s.sp=A.n/\s.c≠.none:=by
  have:=C.I.ms
  grind
 have ar:s.c.dO=false:=by
  cases e:s.c with
  |gone=>have:=(C.I.g8 (by rw[e];rfl)).2.2.2 j D;simp_all
  |_=>rfl
 have hP:bX Z (bF kk 0 ((kk 0).join (kk (A.b+j)))) OO J M ((w.at d).setChan A.cF 0 #[] false (c+1) (c+1) tm) (t++lM (A.b+j) 0 A.cF c c 0 f1 O Q R):=by
  refine K.cA.hand (src:=A.b+j) (dst:=0) (by omega) (by omega) (λn hn=>?_) (λop h=>(jF h).1) (λop h=>(jF h).2.2.1 _ ab) (by simp[World.setChan,World.at]) ⟨⟨.refl _,rfl⟩,λb hb=>by have:=C.dY.1 u;simp only[World.setChan,World.at];grind⟩ (λb=>?_) (λn a ha hm h=>h.elim (λ⟨j,h1,h2⟩=>.inr (.inl ⟨j,h1,h2.app _⟩)) (λ⟨p,h1,h2⟩=>.inr (.inr (.inl ⟨p,h1,h2.app _⟩))))
  . exact vu (t:=t) Y (m1:=0) (m2:=3) (c:=A.cF) (k:=c) (x:={g:=A.b+j,fn:=f1,pos:=Q,act:=.send A.cF c}) (y:={g:=0,fn:=O,pos:=R,act:=.recvDone A.cF c}) rfl rfl rfl rfl dj d0 hn
  . unfold Kept
    rw[rh B]
    by_cases F:b=A.cF
    . subst F
      exact .inr (.inl ⟨B,⟨_,_,_,_,_,_,by rw[rh B,if_pos rfl]⟩,λi=>(C.fe i).1 u⟩)
    grind
 have av:(s.w j).gJ=false:=by rcases N with h|⟨_,h⟩<;>rw[h]<;>rfl
 obtain⟨s',o⟩:∃s',s'=s.jP j .xi .recv s.sp:=⟨_,rfl⟩;obtain⟨E,ax⟩:=Ng (A:=A) (s:=s) (m1:=.recv) (sp1:=s.sp) D av;rw[<-o]at E ax;have r:s'.w j=.xi:=by rw[o,er]
 have ay:∀{l:Nat},l≠j->s'.w l=s.w l:=λh=>by rw[o,iL h]
 have G:s'.c=s.c:=by rw[o];rfl
 have H:s'.ms=.recv:=by rw[o];rfl
 have b8:(s.w j).busy=true/\(s.w j).cnt=1/\(s.w j).last=false/\(s.w j).pc=.out/\(s.w j).iI=false/\s.w j≠.gone/\(s.w j).owns=false:=by rcases N with h|⟨_,h⟩<;>rw[h]<;>simp[ba.busy,ba.cnt,ba.last,ba.pc,ba.iI,ba.owns]
 obtain⟨b1,b2,b3,b4,b5,b6,b7⟩:=b8
 have hI:bD A.n s':=by rw[o];refine C.I.jP D (by rw[b2];rcases L with e|e<;>rw[e]<;>rfl) b3 rfl b6 rfl (by rw[b4];rfl) rfl (.inl ⟨rfl,b5⟩) (λ_=>W.2) W
 have b9:∀l,(s'.w l).busy=(s.w l).busy:=λl=>by
  by_cases e:l=j
  . subst e;rw[r,b1];rfl
  grind
 have bm:cI P A Z s' (bF kk 0 ((kk 0).join (kk (A.b+j)))) OO J M gs'.size ((w.at d).setChan A.cF 0 #[] false (c+1) (c+1) tm) (t++lM (A.b+j) 0 A.cF c c 0 f1 O Q R):=by
  refine C.chan hI (zO u (by simp_all)) (by rw[o];rfl) (λh=>by simp_all) (by rw[a7,o];exact C.size) (λ_=>⟨c+1,tm,by rw[rh B,if_pos rfl,G,ar]⟩) (λb F=>by rw[rh B,if_neg F]) (by rw[o];rfl) (by rw[o];rfl) (by rw[o];rfl) (by rw[o];rfl) (λl _=>?_) (λi b n v h=>?_) (aA _ _ (by omega)) (λi=>?_) (.inl G) (λop h=>⟨(jF h).1,(jF h).2.2.2⟩) (λi z=>.inl ?_) (λi br hn=>?_)
  . by_cases e:l=j
    . subst e;rw[r,b7];rfl
    grind
  . by_cases e:i=0
    . subst e
      rw[az]at h;exact(ai.my h).elim (λh=>⟨0,h⟩) (λh=>⟨_,h⟩)
    . rw[aA _ _ e]at h;grind
  . rw[C.hJ i]
    unfold dF
    simp_all
  . rw[o]at z;exact z
  . have X:¬bG P A s i:=λh=>hn (by rw[o];exact h)
    rw[aA _ _ (λe=>X (.inl e))]
    exact C.Bo i br X
 have hL:MS.eU A.n s' s:=by rw[o];refine sE D ?_;have e1:(ba.xi (P:=P)).bT=18:=rfl;have e2:m8.recv.bT=100:=rfl;omega
 have hS:fU A s s' (λi=>i=0\/i=A.b+j):=⟨λl _ hl=>ay (λe=>hl (.inr (by omega))),λ_=>G,λh=>absurd (.inl rfl) h,by rw[o];rfl,by rw[o];rfl⟩
 refine⟨s',bF (bF f 0 ⟨_,_,_,_,S⟩) (A.b+j) ⟨_,_,_,_,U⟩,bF kk 0 ((kk 0).join (kk (A.b+j))),hL,?_⟩;refine K.Gq Y hP bm (by omega) (λi=>i=0\/i=A.b+j) (λi z=>ho i (λe=>z (.inl e)) (λe=>z (.inr e))) (kq hZ hS (λi z=>by rw[aA _ _ (λe=>z (.inr e)),aA _ _ (λe=>z (.inl e))]) (λ_ _=>rfl) (λi z _=>aA _ _ (λe=>z (.inl e))) (λ_ _ _=>rfl) (λ_ _ _ h=>h)) (λi z=>?_)
 rcases z with rfl|rfl
 . refine⟨gm,hm,λ_=>?_,λh=>absurd h (ri u (.inl H)),λh=>absurd h (lL (by simp_all)),λh=>absurd (ib H) h⟩
   have bw:(0:Nat)≠A.b+j:=by omega
   rw[aA _ _ bw,az,az];refine⟨by show 0<A.b+A.n+1;omega,rfl,?_,rfl,rfl,S.running,by rw[bP Y];exact d0,.inl rfl,BH⟩
   show pM P A Fin _ _=bR P A Fin s' 0;rw[mG H,E]
   simp_all
 . refine⟨gw,hw,λ_=>?_,λh=>absurd h (np D (.inr r)),λh=>absurd h (sC D r),λh=>absurd (q9 D r) h⟩
   rw[az,aA _ _ (by omega)]
   refine⟨by show A.b+j<A.b+A.n+1;omega,rfl,?_,rfl,rfl,U.running,by rw[bP Y];exact dj,.inr ((C.hJ _).2 (.inl ⟨j,D,rfl,b1⟩)),Fs r⟩
   show jY P A=bR P A Fin s' (A.b+j);rw[vO D r]
end
section
variable{P:Program}{A:bt}{Fin:ai->aj->Goroutine->Prop}{Z:Base}{s s':MS P}{f f':Nat->Node P}{q q':Nat->Nat}{kk kk':Nat->ai}{OO OO':Nat->aj}{J J' M M':Nat->Prop}{gs gs':Array Goroutine}{w w':World}{t u:Trace}{j:Nat}{g g₂:Goroutine}{z v:Value}
theorem Gr{k:ai}{O:aj}{g g₂ a:Goroutine}{z y:Value}(h:dp P A k O g g₂ z)(c:dp P A k O g a y)(b:Sat k O w):a=g₂/\y=z:=by
 have e:=(h w b).symm.trans (c w b);simp only[GStep.comm.injEq,rcase]at e
 simp_all
theorem Du{g g':Goroutine}{cs a:Array CommCase}{sh b:CommShape}(h:parked g cs sh=parked g' a b):(∀v,Go.Conc.served g v=Go.Conc.served g' v)/\cs=a/\sh=b/\g.frame=g'.frame:=by
 refine⟨λv=>?_,?_,?_,?_⟩
 . show Go.Conc.served (parked g cs sh) v=Go.Conc.served (parked g' a b) v;rw[h]
 . have:=congrArg (λx:Goroutine=>x.offers) h
   simp only[parked,Option.some.injEq,Prod.mk.injEq]at this;exact this.1
 . have:=congrArg (λx:Goroutine=>x.offers) h
   simp only[parked,Option.some.injEq,Prod.mk.injEq]at this;exact this.2
 . show(parked g cs sh).frame=(parked g' a b).frame;rw[h]
theorem yq{k:ai}{O:aj}{g g₂:Goroutine}{z:Value}{m:Nat}{R:List Nat}{N:ai->aj->Goroutine->Prop}(h:(pM P A Fin (m+1) R).cN k O g N)(b:dp P A k O g g₂ z)(c:Sat k O w){j:Nat}(d:j∈R):
 ∀k' v,k.Le k'->V k' v (A.res j)->T P (pM P A Fin m (R.erase j)) fH k' O (g₂.finishComm P #[rcase A.cF z] (.recv true) 0 v true):=by
 obtain⟨_,a,y,e,i,l,f⟩:=h;obtain⟨rfl,rfl⟩:=Gr b e c;exact f j d
theorem Js{m:Nat}{R:List Nat}{k:ai}{O:aj}{g:Goroutine}{N:ai->aj->Goroutine->Prop}(h:(pM P A Fin m R).cN k O g N):
 ∃g₂ z,dp P A k O g g₂ z/\dp P A k O g₂ g₂ z/\g₂.status=.running/\(pM P A Fin m R).cN k O g₂ fH:=by
 cases m with
 |zero=>obtain⟨_,g₂,z,c,a,b,d⟩:=h;exact⟨g₂,z,c,a,b,rfl,g₂,z,a,a,b,d⟩
 |succ m=>obtain⟨_,g₂,z,c,a,b,d⟩:=h;exact⟨g₂,z,c,a,b,rfl,g₂,z,a,a,b,d⟩
theorem vQ(a:j<A.n)(h:(s.w j).gJ=false):∃m,(MS.rem P A.n s).length=m+1:=by
 have:j∈MS.rem P A.n s:=rf.2 ⟨a,h⟩;have:=List.length_pos_of_mem this
 simp_all
theorem BI(I:bD A.n s)(a:j<A.n)(h:s.w j≠.gone):s.c.dO=false:=by
 cases e:s.c with
 |gone=>exact absurd ((I.g8 (by rw[e];rfl)).2.2.2 j a) h
 |_=>rfl
theorem Jt(B:A.b+A.n+1<=Z.lk)(d:A.dir=false)(h:bn (bL P A Fin Z B) Z s f q kk OO J M gs w t)(p:j<A.n){K:Node P}(C:s.w j=.run false K)(D:s.ms=.parked)(L:gs[A.b+j]?=some g)
 (W:∀w,Sat (kk (A.b+j)) (OO (A.b+j)) w->stepG P false g w=.comm g₂ #[scase A.cF v z] true .send w #[]) (X:V (kk (A.b+j)) v (A.res j)) (Y:T P (jY P A) fH (kk (A.b+j)) (OO (A.b+j)) (Go.Conc.served g₂ undef)) (sl:Option (Nat × Nat)):
 Goes P A Fin Z B s gs w t sl (A.b+j):=by
 have N:cI P A Z s kk OO J M gs.size w t:=h.ex;have hb:=A.hb;have E:(A.b+j==0)=false:=by simp;omega
 obtain⟨c,tm,F⟩:=N.yn d;rw[BI N.I p (by grind)]at F
 have a7:=(Array.getElem?_eq_some_iff.1 L).1;obtain⟨_,_,_,_,_,_,hd,_⟩:=h.live _ (jD p C);obtain⟨_,_,_,d0,gp,G,_,p5⟩:=h.held 0 (.inl ⟨rfl,D⟩);obtain⟨_,gm,O,rfl,p6,p7,Q⟩|⟨l,h1,h2,_⟩:=p5
 . have a:=stand_get (i:=A.b+j) (show(0:Nat)≠A.b+j by omega) G
   have o:partners (gs.setIfInBounds (A.b+j) ph) A.cF false=[(0,0)]:=by
    rw[partners_one a (λk x hk H=>?_),offersAt_parked_recv,if_pos rfl]
    . rfl
    . rcases getElem?_stand gs (A.b+j) k x H with⟨_,rfl⟩|⟨a8,H⟩
      . exact offersAt_ph ..
      . exact tC B h H (.inr hk)
   have e:=crowd_send_meets (P:=P) (sl:=sl) L (by rw[E];exact W w (h.cA.sat _)) F (by omega) G o
   rw[eH]at e;have r:(s.w j).gJ=false:=by rw[C];rfl
   obtain⟨m,u⟩:=vQ (A:=A) (s:=s) p r;rw[u]at Q;have R:0<gs.size:=(Array.getElem?_eq_some_iff.1 G).1
   obtain⟨s',f',kk',hL,y⟩:=handed B d h p (.inr D) (.inr ⟨K,C⟩) (by rw[C,D];rfl) (gs':=(gs.setIfInBounds 0 (gm.finishComm P #[rcase A.cF O] (.recv true) 0 v true)).setIfInBounds (A.b+j) (g₂.finishComm P #[scase A.cF v z] .send 0 undef false)) (gw:=Go.Conc.served g₂ undef) (gm:=gm.finishComm P #[rcase A.cF O] (.recv true) 0 v true) w.drawn F hd d0 (by simp)
    (by rw[Array.getElem?_setIfInBounds_self_of_lt (by simp_all)];rfl) (by simp_all)
    (λi S U=>by grind) X Y
    (λk' S U=>by rw[u];exact yq Q p6 (h.cA.sat 0) (rf.2 ⟨p,r⟩) k' v S U) g₂.frame.fn gm.frame.fn g₂.frame.place gm.frame.place
   refine⟨_,_,e,s',f',q,kk',OO,J,M,_,_,sl,rfl,hL,?_⟩;rw[show w.at w.drawn=w from rfl]at y
   simpa[lM]using y
 . omega
theorem Ju(G:A.b+A.n+1<=Z.lk)(v:A.dir=false)(u:bn (bL P A Fin Z G) Z s f q kk OO J M gs w t)(hm:s.ms=.recv)(hj:j<A.n)(hw:s.w j=.wait)(hg:gs[0]?=some g)
 (hs:dp P A (kk 0) (OO 0) g g₂ z){N:ai->aj->Goroutine->Prop}(ht:(pM P A Fin (MS.rem P A.n s).length (MS.rem P A.n s)).cN (kk 0) (OO 0) g N) (sl:Option (Nat × Nat)):
 Goes P A Fin Z G s gs w t sl 0:=by
 have hE:cI P A Z s kk OO J M gs.size w t:=u.ex;have hb:=A.hb;obtain⟨c,tm,hF⟩:=hE.yn v;rw[BI hE.I hj (by grind)]at hF
 have ad:=(Array.getElem?_eq_some_iff.1 hg).1;obtain⟨_,_,_,_,_,_,d0,_⟩:=u.live _ (ib hm)
 have h:∀{i:Nat}{x:Goroutine},gs[i]?=some x->i≠0->ep P A s i->∃a,a<A.n/\i=A.b+a/\s.w a=.wait/\∃p B o,x=parked p #[scase A.cF o B] .send/\V (kk i) o (A.res a)/\T P (jY P A) fH (kk i) (OO i) (Go.Conc.served p undef):=λ{i x} F H D=>by
  obtain⟨_,_,_,_,y,r1,r2,r3⟩:=u.held i D;rw[F]at r1;obtain rfl:=Option.some.inj r1
  rcases r3 with⟨h0,_⟩|⟨a,h1,h2,p,B,o,h3,h4,_,h5,_⟩
  . omega
  . refine⟨a,h1,h2,?_,p,B,o,h3,h4,h5⟩
    rcases D with⟨h6,_⟩|⟨l,h6,h7,h8⟩
    . omega
    simp_all
 obtain⟨_,_,_,_,x0,e0,_⟩:=u.held (A.b+j) (.inr ⟨j,hj,rfl,hw⟩);obtain⟨a0,_,_,_,al,ar,av,rfl,_⟩:=h e0 (by omega) (.inr ⟨j,hj,rfl,hw⟩)
 have a7:partners (gs.setIfInBounds 0 ph) A.cF true≠[]:=λe=>by
  have:(A.b+j,0)∈partners (gs.setIfInBounds 0 ph) A.cF true:=mem_partners.2 ⟨_,stand_get (by omega) e0,by rw[offersAt_parked_send,if_pos rfl];simp⟩
  simp_all
 have a8:∀i k,(i,k)∈partners (gs.setIfInBounds 0 ph) A.cF true->k=0/\i≠0/\∃x,gs[i]?=some x/\ep P A s i:=λi k K=>by
  obtain⟨x,F,L⟩:=mem_partners.1 K
  rcases getElem?_stand gs 0 i x F with⟨_,rfl⟩|⟨hi,F⟩
  . rw[offersAt_ph]at L;cases L
  . by_cases D:ep P A s i
    . obtain⟨a,_,_,_,p,B,o,rfl,_⟩:=h F hi D
      rw[offersAt_parked_send,if_pos rfl]at L
      simp_all
    . rw[u.quiet (aY (P:=P) (A:=A) (Fin:=Fin) (Z:=Z) G) F D]at L;cases L
 have O:∀i k,(i,k)∈partners (gs.setIfInBounds 0 ph) A.cF true->k=0/\i≠0/\∃p o B Q,gs[i]?=some (parked p #[scase A.cF o B] Q):=λi k K=>by grind
 obtain⟨i,p,o,B,Q,d,H,E,C⟩:=crowd_recv_meets_some (P:=P) (sl:=sl) hg (show stepG P (0==0) g w=_ from hs w (u.cA.sat 0)) hF a7 O
 rw[eH]at C
 have r:ep P A s i:=Classical.byContradiction λD=>by have:=u.quiet (aY (P:=P) (A:=A) (Fin:=Fin) (Z:=Z) G) E D A.cF true;rw[offersAt_parked_send,if_pos rfl]at this;cases this
 obtain⟨a,a2,rfl,a3,ax,ay,a9,R,S,e3⟩:=h E H r;obtain⟨i1,i2,i3,i4⟩:=Du R
 have i5:o=a9:=by
  have:=congrArg (λx:Array CommCase=>x[0]?) i2
  simp[scase]at this;exact this.1
 subst i3;subst i5;obtain⟨_,_,_,dj,_⟩:=u.held _ r;have U:=(Array.getElem?_eq_some_iff.1 E).1;have W:(s.w a).gJ=false:=by rw[a3];rfl
 obtain⟨m,X⟩:=vQ (A:=A) (s:=s) a2 W;have Y:=ht;rw[X]at Y
 obtain⟨s',f',kk',hL,ab⟩:=handed G v u a2 (.inl hm) (.inl a3) (by rw[a3,hm];rfl) (gs':=(gs.setIfInBounds (A.b+a) (p.finishComm P #[scase A.cF o B] .send 0 undef false)).setIfInBounds 0 (g₂.finishComm P #[rcase A.cF z] (.recv true) 0 o true)) (gw:=Go.Conc.served p undef) (gm:=g₂.finishComm P #[rcase A.cF z] (.recv true) 0 o true) d hF dj d0 (by simp)
  (by rw[Array.getElem?_setIfInBounds_ne (by omega),Array.getElem?_setIfInBounds_self_of_lt U];rfl) (by grind)
  (λi R S=>by rw[Array.getElem?_setIfInBounds_ne (Ne.symm R),Array.getElem?_setIfInBounds_ne (Ne.symm S)]) S (by grind)
  (λk' R S=>by rw[X];exact yq Y hs (u.cA.sat 0) (rf.2 ⟨a2,W⟩) k' o R S) p.frame.fn g₂.frame.fn p.frame.place g₂.frame.place
 refine⟨_,_,C,s',f',q,kk',OO,J,M,_,_,sl,rfl,hL,?_⟩;simpa[lM]using ab
theorem rj(hd:A.dir=false)(a:s.ms=.parked):¬c9 P A s 0:=by
 have:=A.hb;have:=tx hd;rintro(⟨_,h⟩|⟨l,b,c,d⟩|⟨h,_⟩)
 . simp_all
 . omega
 . omega
theorem Jv(K:A.b+A.n+1<=Z.lk)(k:A.dir=false)(C:bn (bL P A Fin Z K) Z s f q kk OO J M gs w t)(L:s.ms=.recv)(E:∀j,j<A.n->s.w j≠.wait)(F:s.c≠.gone)(U:gs[0]?=some g)
 (X:dp P A (kk 0) (OO 0) g g₂ z) (N:dp P A (kk 0) (OO 0) g₂ g₂ z) (Y:g₂.status=.running) (ht:(pM P A Fin (MS.rem P A.n s).length (MS.rem P A.n s)).cN (kk 0) (OO 0) g₂ fH) (sl:Option (Nat × Nat)):
 Goes P A Fin Z K s gs w t sl 0:=by
 have d:cI P A Z s kk OO J M gs.size w t:=C.ex;have hb:=A.hb;obtain⟨c,tm,V⟩:=d.yn k
 have G:s.c.dO=false:=by
  cases e:s.c.dO with
  |true=>exact absurd (qh.1 e) F
  |false=>rfl
 rw[G]at V;have O:=(Array.getElem?_eq_some_iff.1 U).1;obtain⟨_,_,_,_,_,_,d0,_⟩:=C.live _ (ib L)
 have H:∀Q∈(#[rcase A.cF z]:Array CommCase),NoWays w (gs.setIfInBounds 0 ph) Q:=λQ a7=>by
  have:Q=rcase A.cF z:=by simp_all
  subst this;exact ways_recv_none V (nk λi x _ hx=>tD K C hx (λj h1 h2=>E j h1) _)
 have p:=crowd_waits (P:=P) (sl:=sl) U (show stepG P (0==0) g w=_ from X w (C.cA.sat 0)) H
 rw[eH]at p;have R:∀i,¬(i=0)->(gs.setIfInBounds 0 (parked g₂ #[rcase A.cF z] (.recv true)))[i]?=gs[i]?:=λi D=>Array.getElem?_setIfInBounds_ne (Ne.symm D)
 have r:(gs.setIfInBounds 0 (parked g₂ #[rcase A.cF z] (.recv true)))[0]?=some (parked g₂ #[rcase A.cF z] (.recv true)):=Array.getElem?_setIfInBounds_self_of_lt O;have hP:bX Z kk OO J M w (t++#[]):=by rw[oX];exact C.cA
 obtain⟨s',a⟩:∃s',s'=s.ma .parked s.gc:=⟨_,rfl⟩;have m:s'.ms=.parked:=by rw[a];rfl
 have o:s'.w=s.w:=by rw[a];rfl
 have u:s'.c=s.c:=by rw[a];rfl
 have y:=d.I.ms;rw[L]at y
 have hI:bD A.n s':=by rw[a];exact⟨by have:=d.I.g1;rw[L]at this;exact this,d.I.g2,d.I.Jd,d.I.g3,d.I.H6,d.I.g4,d.I.g5,d.I.g6,d.I.g7,d.I.g8,d.I.g9,d.I.ok,d.I.Qz,d.I.sp,d.I.idle,⟨y.1,y.2,F,E⟩,d.I.early,d.I.mu⟩
 have S:cI P A Z s' kk OO J M (gs.setIfInBounds 0 (parked g₂ #[rcase A.cF z] (.recv true))).size w (t++#[]):=by
  refine d.chan hI (zO k (by simp_all)) (by rw[a];rfl) (λh=>by simp_all) (by rw[Array.size_setIfInBounds,a];exact d.size) (by simp_all) (λ_ _=>rfl) (by rw[a];rfl) (by rw[a];rfl) (by rw[a];rfl) (by rw[a];rfl) (λl _=>by rw[o]) (λi b n v h=>⟨i,h⟩) rfl (λi=>?_) (.inl u) (λop h=>by simp at h) (λi D=>.inl ?_) (λi T hn=>d.Bo i T λh=>hn ?_)
  . rw[d.hJ i]
    unfold dF;rw[o,u]
  . rw[a]at D;exact D
  . rw[a];exact h
 have hL:MS.eU A.n s' s:=by
  refine .inl ?_;rw[a];show m8.parked.bT+sumTo A.n (λi=>(s.w i).bT)+s.c.bT s.gc<s.ms.bT+sumTo A.n (λi=>(s.w i).bT)+s.c.bT s.gc
  rw[L];have e1:m8.parked.bT=99:=rfl;have e2:m8.recv.bT=100:=rfl;omega
 have W:MS.rem P A.n s'=MS.rem P A.n s:=vK λl _=>by rw[o]
 have hS:fU A s s' (λi=>i=0):=⟨λl _ hl=>by rw[o],λ_=>u,λh=>absurd rfl h,by rw[a];rfl,by rw[a];rfl⟩
 refine⟨_,_,p,s',f,q,kk,OO,J,M,_,_,_,rfl,hL,?_⟩;refine C.Gq BG hP S (by simp) (λi=>i=0) R (kq K hS (λ_ _=>rfl) (λ_ _=>rfl) (λ_ _ _=>rfl) (λ_ _ _=>rfl) (λ_ _ _ h=>h)) (λi D=>?_)
 subst D;have B:ep P A s' 0:=.inl ⟨rfl,m⟩;refine⟨_,r,λh=>absurd h (rj k m),λh=>absurd h (ri k (.inr m)),λ_=>⟨rj k m,ri k (.inr m),?_,by simp_all,rfl,.inl ⟨rfl,g₂,z,rfl,N,Y,by simp_all⟩⟩,λ_ _ h=>absurd B h⟩
 omega
end
def gQ(c:Nat):Array Event:=#[⟨.obj c,false,true⟩,⟨.obj c,true,true⟩]
theorem lN(i:Nat)(fn:FuncId)(pos:String)(c:Nat):MemOp.ofEvents i fn pos (gQ c)=#[{g:=i,fn:=fn,pos:=pos,act:=.access ⟨.obj c,false,true⟩},{g:=i,fn:=fn,pos:=pos,act:=.close c}]:=by rw[ofEvents_eq];simp[gQ,MemAct.ofEvent]
theorem eC{i:Nat}{fn:FuncId}{pos:String}{c:Nat}{op:MemOp}(h:op∈MemOp.ofEvents i fn pos (gQ c)):op.g=i/\(op.act≠.mark .disable/\op.act≠.mark .enable)/\(∀a,op.act.touch?=some a->a.loc=.obj c/\a.kind=.atomic)/\(∀B,c<B->op.act.low B)/\∀a,op.act≠.mark (.release a):=by
 rw[lN]at h;simp only[List.mem_toArray,List.mem_cons,List.not_mem_nil,or_false]at h;rcases h with rfl|rfl
 . exact⟨rfl,⟨by simp,by simp⟩,λa b=>by simp only[MemAct.touch?,Option.some.injEq]at b;grind,λB d=>d,by simp⟩
 . exact⟨rfl,⟨by simp,by simp⟩,λa b=>(by cases b),λB d=>d,by simp⟩
section
variable{P:Program}{A:bt}{Fin:ai->aj->Goroutine->Prop}{Z:Base}{s s':MS P}{f f':Nat->Node P}{q q':Nat->Nat}{kk kk':Nat->ai}{OO OO':Nat->aj}{J J' M M':Nat->Prop}{gs gs':Array Goroutine}{w w':World}{t u:Trace}{j:Nat}{g g₂:Goroutine}{z v:Value}
theorem dp.again{k:ai}{O:aj}{g g₂:Goroutine}{z a:Value}(h:dp P A k O g g₂ z)(c:g.status=.running)(sh:CommShape):dp P A k O {parked g #[rcase A.cF a] sh with status:=.running} g₂ z:=λw b=>by
 rw[stepG_tries];have:({g with status:=.running}:Goroutine)=g:=by cases g;simp_all
 rw[this];exact h w b
theorem Gs{m:Nat}{R:List Nat}{k:ai}{O:aj}{g:Goroutine}{z:Value}{sh:CommShape}{N:ai->aj->Goroutine->Prop}(h:(pM P A Fin m R).cN k O g N)(e:g.status=.running):
 T P (pM P A Fin m R) fH k O {parked g #[rcase A.cF z] sh with status:=.running}:=by
 refine .cN fH rfl ?_ (λ_ _ _ h=>h.elim);cases m with
 |zero=>obtain⟨_,g₂,y,a,b,c,d⟩:=h;exact⟨rfl,g₂,y,a.again e sh,b,c,d⟩
 |succ m=>obtain⟨_,g₂,y,a,b,c,d⟩:=h;exact⟨rfl,g₂,y,a.again e sh,b,c,d⟩
theorem bX.shut(h:bX Z kk OO J M w t){i c:Nat}{x:Nat}{tm:Bool}(F:∀l,J l->l=i)(G:∀p,¬M p)(u:w.heap[c]?=some (.chan 0 #[] false x x tm))(H:∀l,OO l c=none)(I:∀n b,touchAt t n=some b->b.loc=.obj c->b.kind=.plain->Knows t i n)(B:Z.W0.heap.size<=c)(fn:FuncId)(pos:String):
 bX Z kk OO (λ_=>False) (λp=>p=t.size+1) {w with heap:=w.heap.setIfInBounds c (.chan 0 #[] true x x tm)} (t++MemOp.ofEvents i fn pos (gQ c)):=by
 have q:c<w.heap.size:=(Array.getElem?_eq_some_iff.1 u).1;have k:(MemOp.ofEvents i fn pos (gQ c))[1]?=some {g:=i,fn:=fn,pos:=pos,act:=.close c}:=by rw[lN];rfl
 have f:∀b,(w.heap.setIfInBounds c (.chan 0 #[] true x x tm))[b]?=if b=c then some (.chan 0 #[] true x x tm)else w.heap[b]?:=λb=>by grind
 refine h.r9 (λa b=>a=b) (by simp) ⟨⟨.refl _,rfl⟩,λb hb=>by grind⟩ (λb=>?_) (λop d=>(eC d).2.2.2.1 _ q) (λa b e n y _ _ _ K=>by subst e;exact K.app _) (λj b n v h=>⟨j,rfl,h⟩) (λj b s h=>⟨j,rfl,h⟩) (λj b x h=>⟨j,rfl,h,λ_ h=>h⟩) h.iF
  (λsaid=>noRace_append (h.clean said) (λop d=>(eC d).1) λn a r op d b hb u=>?_) (λop d a r C=>?_) (λm op a d r C=>?_) (λn a r C L=>?_)
 . show Kept kk OO w _ b
   unfold Kept;rw[f]
   by_cases z:b=c
   . subst z
     exact .inr (.inl ⟨⟨_,_,_,_,_,_,u⟩,⟨_,_,_,_,_,_,by rw[f,if_pos rfl]⟩,H⟩)
   grind
 . obtain⟨D,N⟩:=(eC d).2.2.1 b hb
   obtain⟨P,_,_,Q⟩:=u
   simp_all
 . obtain⟨D,N⟩:=(eC d).2.2.1 a r
   rw[D];exact⟨q,λl o R=>by simp_all⟩
 . refine .inr (.inr (.inl ⟨t.size+1,rfl,?_⟩))
   have A:m=0:=by
    rw[lN]at d
    match m,d with
    |0,_=>rfl
    |1,d=>simp at d;subst d;simp[MemAct.touch?]at r
    |m+2,d=>simp at d
   subst A;exact .inr (hb_po (by omega) (cX (m:=0) d) (cX (m:=1) k) (eC (Array.mem_of_getElem? d)).1)
 . rcases L with⟨l,E,O⟩|⟨p,E,_⟩
   . obtain rfl:=F l E
     exact .inr (.inr (.inl ⟨t.size+1,rfl,kL (m:=1) O k rfl⟩))
   simp_all
theorem Jw(hZ:A.b+A.n+1<=Z.lk)(r:A.dir=false)(V:bn (bL P A Fin Z hZ) Z s f q kk OO J M gs w t)(hw:s.c=.iH)(hg:gs[A.cl]?=some g){N:ai->aj->Goroutine->Prop}(ht:(qg P A).cN (kk A.cl) (OO A.cl) g N)(sl:Option (Nat × Nat)):
 Goes P A Fin Z hZ s gs w t sl A.cl:=by
 have d:cI P A Z s kk OO J M gs.size w t:=V.ex;have hb:=A.hb;obtain⟨rfl,E,nq,b6,hs,hq⟩:=ht;have b5:=tx r;obtain⟨x,tm,hF⟩:=d.yn r;have al:s.c.dO=false:=by rw[hw];rfl
 rw[al]at hF;obtain⟨c0,v0,m0,G⟩:=d.I.g8 (by rw[hw];rfl)
 have S:s.sp=A.n/\(s.ms=.recv\/s.ms=.parked):=by
  have:=d.I.ms;cases e:s.ms with
  |recv=>simp_all
  |parked=>simp_all
  |add l=>simp_all
  |bh l p=>simp_all
  |spawn l=>simp_all
  |off=>exact absurd e (d.off.2.2 r)
 have b7:=(Array.getElem?_eq_some_iff.1 hg).1;obtain⟨_,_,_,_,_,_,hd,_⟩:=V.live _ (sA (.inl hw));have ar:(A.cl==0)=false:=by simp;omega
 have b8:A.cF<w.heap.size:=(Array.getElem?_eq_some_iff.1 hF).1;have H:=runT_crowd_go (P:=P) (sl:=sl) (i:=A.cl) hg (by rw[ar];exact hs w x x tm (V.cA.sat _) hF)
 obtain⟨w',av⟩:∃w',w'={w with heap:=w.heap.setIfInBounds A.cF (.chan 0 #[] true x x tm)}:=⟨_,rfl⟩
 have hP:=V.cA.shut (i:=A.cl) (c:=A.cF) (x:=x) (tm:=tm) (λl U=>by
  rcases(d.hJ l).1 U with⟨j,B,C,F⟩|⟨B,_⟩
  . rw[G j B]at F;cases F
  . exact B) (λp hp=>by
  obtain⟨_,_,F⟩:=d.hM p hp
  simp_all) hF (λl=>(d.fe l).1 r) (λn b hb U X=>d.quiet n b hb (by rw[U];exact⟨rfl,r⟩) X _ (Fh (by grind))) (d.dY.1 r) g.frame.fn g.frame.place
 rw[<-av]at H hP
 change runT P (crowd gs w sl) A.cl=(_,MemOp.ofEvents A.cl g.frame.fn g.frame.place (gQ A.cF))at H
 have hu:jK (MemOp.ofEvents A.cl g.frame.fn g.frame.place (gQ A.cF)):=λop h=>(eC h).2.1
 have u:∀b,w'.heap[b]?=if b=A.cF then some (.chan 0 #[] true x x tm)else w.heap[b]?:=λb=>by grind
 have b9:E.status≠.blocked/\E.status≠.waiting:=by rcases hq.status with h|h<;>rw[h]<;>simp
 have ax:∀o,woken P g E w' o=o.again w':=λo=>by
  unfold Go.Conc.woken
  simp_all
 have ad:∀i o,gs[i]?=some o->i≠0->i≠A.cl->woken P g E w' o=o:=λi o ho R hn=>by
  have nl:¬c9 P A s i:=by
   rintro(⟨e,_⟩|⟨l,B,C,F⟩|⟨e,_⟩)
   . exact R e
   . simp_all
   omega
  have nw:¬fa P A s i:=by
   rintro(⟨e,_⟩|⟨l,B,C,F⟩|⟨e,_⟩)
   . exact R e
   . simp_all
   omega
  have nh:¬ep P A s i:=by
   rintro(⟨e,_⟩|⟨l,B,C,F⟩)
   . exact R e
   simp_all
  exact woken_quitsD (V.rest i o ho nl nw nh).2
 have ay:∀i,¬(i=0\/i=A.cl)->((gs.map (woken P g E w')).setIfInBounds A.cl E)[i]?=gs[i]?:=λi D=>by grind
 have Y:((gs.map (woken P g E w')).setIfInBounds A.cl E)[A.cl]?=some E:=Array.getElem?_setIfInBounds_self_of_lt (by grind)
 obtain⟨s',v⟩:∃s':MS P,s'={s with c:=.gone,ms:=.recv}:=⟨_,rfl⟩
 have a7:s'.ms=.recv:=by rw[v]
 have K:s'.w=s.w:=by rw[v]
 have L:s'.c=.gone:=by rw[v]
 have a8:MS.rem P A.n s'=MS.rem P A.n s:=vK λl _=>by rw[K]
 obtain⟨d0,g0,b1,tr,_⟩:Deaf t 0=0/\∃g0,((gs.map (woken P g E w')).setIfInBounds A.cl E)[0]?=some g0/\∃tr:TT P (pM P A Fin (MS.rem P A.n s).length (MS.rem P A.n s)) (kk 0) (OO 0) g0,True:=by
  rw[Array.getElem?_setIfInBounds_ne (by omega),Array.getElem?_map]
  rcases S.2 with hm|hm
  . obtain⟨_,p1,pm,pk,pO,p2,p3,_⟩:=V.live 0 (ib hm)
    have pm:(f 0).m=bR P A Fin s 0:=pm;rw[mG hm]at pm;refine⟨p3,(f 0).g,by rw[p1,Option.map_some,woken_run p2],?_⟩
    rw[<-pm,<-pk,<-pO];exact⟨(f 0).t,trivial⟩
  . obtain⟨_,_,_,p3,gp,p4,_,p5⟩:=V.held 0 (.inl ⟨rfl,hm⟩)
    rcases p5 with⟨_,gm,zm,rfl,p6,p7,p8⟩|⟨l,B,C,_⟩
    . rw[p4]
      refine⟨p3,_,rfl,?_⟩;rw[ax,again_recv_closed (by rw[u,if_pos rfl])]
      obtain⟨tr⟩:=T.tree (vP (P:=P) (A:=A) (Fin:=Fin) _ _) (Gs (z:=zm) (sh:=.recv true) p8 p7);exact⟨tr,trivial⟩
    . omega
 have hI:bD A.n s':=by
  rw[v];refine⟨?_,d.I.g2,λh=>(by grind),d.I.g3,d.I.H6,λi D h=>(by grind),⟨d.I.g5.1,λh=>(by grind)⟩,λh=>(by cases h),d.I.g7,λ_=>⟨c0,v0,m0,G⟩,λk h=>(by cases h),d.I.ok,rfl,d.I.sp,d.I.idle,⟨S.1,by simp⟩,λ_ h=>(by cases h),d.I.mu⟩
  have:=d.I.g1;show s.gc=sumTo A.n (λj=>(s.w j).cnt)+m8.recv.pend
  rcases S.2 with e|e<;>rw[e]at this<;>exact this
 have W:(MemOp.ofEvents A.cl g.frame.fn g.frame.place (gQ A.cF))[1]?=some {g:=A.cl,fn:=g.frame.fn,pos:=g.frame.place,act:=.close A.cF}:=by rw[lN];rfl
 have O:(t++MemOp.ofEvents A.cl g.frame.fn g.frame.place (gQ A.cF)).act? (t.size+1)=some (.close A.cF)/\(t++MemOp.ofEvents A.cl g.frame.fn g.frame.place (gQ A.cF)).heard (t.size+1):=⟨act?_of (cX (m:=1) W),heard_new (m:=1) hu W hd⟩
 have a9:∀i,bG P A s' i->bG P A s i:=λi D=>by
  rcases D with R|⟨j,B,C⟩|⟨B,C⟩
  . exact .inl R
  . exact .inr (.inl ⟨j,by grind,C⟩)
  . exact .inr (.inr ⟨B,by grind⟩)
 have ab:∀i,bG P A s i->bG P A s' i:=λi D=>by
  rcases D with R|⟨j,B,C⟩|⟨B,C⟩
  . exact .inl R
  . exact .inr (.inl ⟨j,by grind,C⟩)
  . exact .inr (.inr ⟨B,by grind⟩)
 have bm:∀op∈MemOp.ofEvents A.cl g.frame.fn g.frame.place (gQ A.cF),∀a,op.act.touch?=some a->a.kind=.atomic:=λop Q a ha=>((eC Q).2.2.1 a ha).2
 have b2:cI P A Z s' kk OO (λ_=>False) (λp=>p=t.size+1) ((gs.map (woken P g E w')).setIfInBounds A.cl E).size w' (t++MemOp.ofEvents A.cl g.frame.fn g.frame.place (gQ A.cF)):=by
  refine⟨hI,?_,by rw[v];exact d.dd,zO r (by grind),λh=>by simp_all,λ_=>⟨x,tm,by rw[u,if_pos rfl,L];rfl⟩,?_,?_,?_,?_,d.fe,d.dM,λi y hy=>?_,λl U b3=>d.xD l U (by grind),λb3=>d.Mf λl U=>by grind,λc hc=>?_,λi=>?_,λp hp=>?_,λ_=>⟨t.size+1,rfl,O⟩,λm a ha hs X i D=>d.jB _ (λop Q a ha _ X=>by grind) m a ha hs X i (a9 i D),λm a ha hs X=>?_,λi D=>d.oc _ i (a9 i D),d.iJ _ (λop Q=>(eC Q).2.2.2.2),λi b4 hn=>d.Bo i b4 λh=>hn (ab i h),d.qN,d.jh,d.dY,d.la,by simp;exact Nat.le_trans d.n0 (Nat.le_add_right _ _)⟩
  . have:=d.size
    rw[hw]at this;rw[L];simp only[Array.size_setIfInBounds,Array.size_map,iG.isNone]at this ⊢
    grind
  . rw[show s'.sh=s.sh by rw[v]];exact d.mu.same (.of_heap (by rw[u,if_neg (Ne.symm A.d1)]))
  . rw[show s'.gc=s.gc by rw[v],show s'.gv=s.gv by rw[v],show s'.gm=s.gm by rw[v]];exact d.gr.same (.of_heap (by rw[u,if_neg (Ne.symm A.d2)]))
  . rw[u,if_neg (Ne.symm A.d1)];exact d.tz
  . rw[u,if_neg (Ne.symm A.d2)];exact d.xC
  . rw[K];exact d.tok i y hy
  . rw[K];exact d.Mg c hc
  . refine⟨λh=>h.elim,?_⟩
    rintro(⟨j,B,C,F⟩|⟨B,C⟩)
    . rw[K,G j B]at F;cases F
    . rw[L]at C;cases C
  . subst hp
    exact⟨O.2,by have:=d.n0;omega,.inr ⟨L,O.1⟩⟩
  . have R:=d.m9 _ (λop Q a ha _ X=>by grind) m a ha hs X
    rw[hw]at R;rw[L];exact R
 have hL:MS.eU A.n s' s:=by
  refine .inl ?_;rw[v];show m8.recv.bT+sumTo A.n (λi=>(s.w i).bT)+iG.gone.bT s.gc<s.ms.bT+sumTo A.n (λi=>(s.w i).bT)+s.c.bT s.gc
  rw[hw];have e2:m8.recv.bT=100:=rfl;have e3:iG.gone.bT s.gc=0:=rfl;have e4:iG.iH.bT s.gc=3:=rfl;have e5:99<=s.ms.bT:=by rcases S.2 with e|e<;>rw[e]<;>simp[m8.bT]
  omega
 have hS:fU A s s' (λi=>i=0\/i=A.cl):=⟨λl _ U=>by rw[K],λh=>absurd (.inr rfl) h,λh=>absurd (.inl rfl) h,by rw[v],by rw[v]⟩
 refine⟨_,_,H,s',bF f 0 ⟨_,_,_,_,tr⟩,upd q A.cl nq,kk,OO,λ_=>False,(λp=>p=t.size+1),_,_,_,rfl,hL,?_⟩
 refine V.Gq hu hP b2 (by simp) (λi=>i=0\/i=A.cl) ay (kq hZ hS (λi D=>aA _ _ (λe=>D (.inl e))) (λi D=>upd_ne q nq (λe=>D (.inr e))) (λ_ _ _=>rfl) (λ_ _ _=>rfl) (λi D U _=>?_)) (λi D=>?_)
 . rcases U with⟨e,_⟩|⟨l,B,C,F⟩|⟨e,_⟩
   . omega
   . grind
   omega
 . rcases D with rfl|rfl
   . refine⟨g0,b1,λ_=>?_,λh=>absurd h (ri r (.inl a7)),λh=>absurd h (lL (by grind)),λh=>absurd (ib a7) h⟩
     rw[az];refine⟨by omega,rfl,?_,rfl,rfl,tr.running,by rw[bP hu];exact d0,.inl rfl,BH⟩
     show pM P A Fin _ _=bR P A Fin s' 0;rw[mG a7,a8]
   . refine⟨E,Y,λh=>absurd h ?_,λh=>absurd h ?_,λh=>absurd h (oW (zO r (by grind))),λ_ _ _=>⟨by omega,by rw[upd_same,bP hu,hd];exact hq⟩⟩
     . rintro(⟨e,_⟩|⟨l,B,C,F⟩|⟨_,F⟩)
       . omega
       . omega
       grind
     . rintro(⟨e,_⟩|⟨l,B,C,F⟩|⟨_,F⟩)
       . omega
       . omega
       grind
end
end Go.bu

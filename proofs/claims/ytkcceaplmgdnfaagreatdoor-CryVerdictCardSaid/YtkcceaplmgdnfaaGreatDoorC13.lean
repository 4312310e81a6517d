import Derived.Conc.TokenTrace
import Derived.Test.YtkcceaplmgdnfaaGreatDoorC12
set_option linter.all false
namespace Go.cG
section
open Go.Conc
open Go.ConcN (sumTo upd sumTo_upd upd_ne upd_same)
section
variable{P:adS}{A:rN P}{Z:Base}{s s':A.S}{f f':Nat->Node P}{q q':adI}{kk kk':adN}{OO OO':adM}{J J' M M':adC}{gs gs':acX}{w w':World}{t u:Trace}
structure Aside(A:rN P)(s s':A.S)(f f':Nat->Node P)(q q':adI)(kk kk':adN)(OO OO':adM)(J J':adC)(S:adC):Prop where
 ef:∀j,¬S j->f' j=f j
 eq:∀j,¬S j->q' j=q j
 ek:∀j,¬S j->j<A.top->kk' j=kk j
 eO:∀j,¬S j->j<A.top->OO' j=OO j
 eJ:∀j,¬S j->A.Live s j->J j->J' j
 live:∀j,¬S j->(A.Live s' j↔A.Live s j)
 walk:∀j,¬S j->(A.Walk s' j↔A.Walk s j)
 held:∀j,¬S j->(A.oI s' j↔A.oI s j)
 mo:∀j,¬S j->A.Live s j->A.mo s' j=A.mo s j
 at':∀j k O x,¬S j->A.Walk s j->A.At s j k O x->A.At s' j k O x
 deaf:∀j,¬S j->A.Walk s j->A.deaf s' j=A.deaf s j
 Ah:∀j,¬S j->A.Walk s j->A.Ah s j->A.Ah s' j
 TD:∀j k O x,¬S j->A.oI s j->A.FC s j k O x->A.FC s' j k O x
 tie:∀j x,¬S j->A.Live s j->A.Pl s j x->A.Pl s' j x
def bD.I0(m:bD A Z s f q kk OO J M gs w t)(K:kL u)(L:cB Z kk' OO' J' M' w' (t++u))(C:A.Ex s' kk' OO' J' M' gs'.size w' (t++u))(D:gs.size<=gs'.size)(S:adC)(E:∀i,¬S i->gs'[i]?=gs[i]?)
 (a:Aside A s s' f f' q q' kk kk' OO OO' J J' S) (v:∀i,S i->∃n,gs'[i]?=some n/\Self P A s' f' q' kk' OO' J' (t++u) i n):bD A Z s' f' q' kk' OO' J' M' gs' w' (t++u):=by
 have y:∀j,Deaf (t++u) j=Deaf t j:=λj=>cj K j
 refine⟨m.lk,L,λj c=>?_,λj c=>?_,λj c=>?_,λj x z F G H=>?_,λj c=>by rw[y];exact m.above j (aaG D c),C⟩
 . by_cases e:S j
   . obtain⟨n,B,l⟩:=v j e
     obtain⟨d,g,k⟩:=l.live c
     simp_all
   . have b:=(a.live j e).1 c
     obtain⟨d,g,pm,k,p,r,o,I⟩:=m.live j b;rw[a.ef j e,a.ek j e d,a.eO j e d,y j,a.mo j e b,E j e];exact⟨d,g,pm,k,p,r,o,I.1.imp id (a.eJ j e b),a.tie j _ e b I.2⟩
 . by_cases e:S j
   . obtain⟨n,B,l⟩:=v j e
     obtain⟨d,g,k,g',p,r⟩:=l.walk c
     grind
   . have b:=(a.walk j e).1 c
     obtain⟨d,g,k,x,N,p,r,o⟩:=m.walk j b;refine⟨λh=>d ((a.live j e).1 h),g,by rw[y j,a.deaf j e b];exact k,x,N,by simp_all,?_,?_⟩
     . rw[a.ek j e g,a.eO j e g];exact a.at' j _ _ _ e b r
     . rw[a.eq j e]
       rcases o with⟨O,Q,R⟩|o
       . exact .inl ⟨a.Ah j e b O,Q,R⟩
       . exact .inr o
 . by_cases e:S j
   . obtain⟨n,B,l⟩:=v j e
     obtain⟨d,g,k,p,r,o⟩:=l.held c
     simp_all
   . have b:=(a.held j e).1 c
     obtain⟨d,g,k,p,x,V,T,U⟩:=m.held j b;refine⟨λh=>d ((a.live j e).1 h),λh=>g ((a.walk j e).1 h),k,by simp_all,x,by simp_all,T,?_⟩;rw[a.ek j e k,a.eO j e k];exact a.TD j _ _ _ e b U
 . by_cases e:S j
   . obtain⟨n,B,l⟩:=v j e
     rw[B]at z;obtain rfl:=aaS z;exact l.rest F G H
   . rw[a.eq j e,y j]
     rw[E j e]at z;exact m.rest j x z (λh=>F ((a.live j e).2 h)) (λh=>G ((a.walk j e).2 h)) (λh=>H ((a.held j e).2 h))
def bD.quiet(B:Ai A)(a:bD A Z s f q kk OO J M gs w t){i:Nat}{x:adF}(d:gs[i]?=some x)(n:¬A.oI s i)(c:Nat)(b:Bool):offersAt x c b=[]:=by
 by_cases g:A.Live s i
 . obtain⟨_,j,_,_,_,k,_⟩:=a.live i g
   rw[d]at j;obtain rfl:=aaS j;exact offersAt_of_not_blocked (by simp_all) _ _
 by_cases l:A.Walk s i
 . obtain⟨_,_,_,y,o,m,k,e⟩:=a.walk i l
   rw[d]at m;obtain rfl:=aaS m;obtain⟨p,r⟩:=B.kU k;rcases e with⟨_,rfl,_⟩|e
   . show offersAt (blk o) c b=[]
     unfold offersAt blk
     simp_all
   . exact offersAt_of_not_blocked (by rw[e.first p];decide) _ _
 . have h:=(a.rest i x d g l n).2
   refine offersAt_of_not_blocked ?_ _ _;rcases h.status with h|h<;>rw[h]<;>decide
end
section
variable{P:adS}{A:bH}{Fin:acP}{Z:Base}{s s':MS P}{f f':Nat->Node P}{q q':adI}{kk kk':adN}{OO OO':adM}{J J' M M':adC}{gs gs':acX}{w w':World}{t u:Trace}{i:Nat}
structure im{P:adS}(A:bH)(s s':MS P)(S:adC):Prop where
 w:∀l,l<A.n -> ¬S (A.b+l)->s'.w l=s.w l
 c:¬S A.cl->s'.c=s.c
 ms:¬S 0->s'.ms=s.ms/\MS.rem P A.n s'=MS.rem P A.n s
 sh:s'.sh.ms=s.sh.ms
 gm:s'.gm=s.gm
variable{S:adC}
def im.live(h:im A s s' S){j:Nat}(hj:¬S j):dE P A s' j↔dE P A s j:=by
 constructor<;>rintro(⟨b,a⟩|⟨l,a,d,e⟩|⟨b,a⟩)
 . subst b;exact .inl ⟨rfl,by rw[<-(h.ms hj).1];exact a⟩
 . subst d;exact .inr (.inl ⟨l,a,rfl,by rw[<-h.w l a hj];exact e⟩)
 . subst b;exact .inr (.inr ⟨rfl,by rw[<-h.c hj];exact a⟩)
 . subst b;exact .inl ⟨rfl,by rw[(h.ms hj).1];exact a⟩
 . subst d;exact .inr (.inl ⟨l,a,rfl,by rw[h.w l a hj];exact e⟩)
 . subst b;exact .inr (.inr ⟨rfl,by rw[h.c hj];exact a⟩)
def im.walk(h:im A s s' S){j:Nat}(hj:¬S j):gK P A s' j↔gK P A s j:=by
 constructor<;>rintro(⟨b,a⟩|⟨l,a,d,e⟩|⟨b,a⟩)
 . subst b;exact .inl ⟨rfl,by rw[<-(h.ms hj).1];exact a⟩
 . subst d;exact .inr (.inl ⟨l,a,rfl,by rw[<-h.w l a hj];exact e⟩)
 . subst b;exact .inr (.inr ⟨rfl,by rw[<-h.c hj];exact a⟩)
 . subst b;exact .inl ⟨rfl,by rw[(h.ms hj).1];exact a⟩
 . subst d;exact .inr (.inl ⟨l,a,rfl,by rw[h.w l a hj];exact e⟩)
 . subst b;exact .inr (.inr ⟨rfl,by rw[h.c hj];exact a⟩)
def im.held(h:im A s s' S){j:Nat}(hj:¬S j):fD P A s' j↔fD P A s j:=by
 constructor<;>rintro(⟨b,a⟩|⟨l,a,c,d⟩)
 . subst b;exact .inl ⟨rfl,by rw[<-(h.ms hj).1];exact a⟩
 . subst c;exact .inr ⟨l,a,rfl,by rw[<-h.w l a hj];exact d⟩
 . subst b;exact .inl ⟨rfl,by rw[(h.ms hj).1];exact a⟩
 . subst c;exact .inr ⟨l,a,rfl,by rw[h.w l a hj];exact d⟩
def lF(B:A.b+A.n+1<=Z.lk)(d:im A s s' S)(C:∀j,¬S j->f' j=f j)(D:∀j,¬S j->q' j=q j)(E:∀j,¬S j->j<A.b+A.n+1->kk' j=kk j)(F:∀j,¬S j->j<A.b+A.n+1->OO' j=OO j)(G:∀j,¬S j->dE P A s j->J j->J' j):
 Aside (bX P A Fin Z B) s s' f f' q q' kk kk' OO OO' J J' S:=by
 have hb:=A.hb;refine⟨C,D,E,F,G,λj a=>d.live a,λj a=>d.walk a,λj a=>d.held a,λj a H=>?_,λj k O y a _ v=>?_,λj a x=>?_,λj a x hd=>?_,λj k O y a _ v=>?_,λj y a _ I=>?_⟩
 . show cq P A Fin s' j=cq P A Fin s j
   unfold cq;by_cases p:j=0
   . subst p
     simp only[aaA,(d.ms a).1,(d.ms a).2]
   rcases H with⟨g,_⟩|⟨l,i,m,_⟩|⟨g,_⟩
   . omega
   . subst m
     have e:A.b+l-A.b=l:=by omega
     have r:¬A.b+l=0:=by omega
     have t:A.b+l<A.b+A.n:=by omega
     simp only[aay r,aaB t,e,d.w l i a]
   . have t:¬j<A.b+A.n:=by omega
     simp only[aay p,aay t,d.c (g ▸ a)]
 . rcases v with⟨g,h⟩|⟨l,i,m,o⟩|⟨g,h⟩
   . subst g;exact .inl ⟨rfl,by rw[(d.ms a).1];exact h⟩
   . subst m;exact .inr (.inl ⟨l,i,rfl,by rw[d.w l i a];exact o⟩)
   . subst g;exact .inr (.inr ⟨rfl,by rw[d.c a];exact h⟩)
 . show dN P A s' j=dN P A s j
   unfold dN;rcases x with⟨g,L⟩|⟨l,i,m,_⟩|⟨g,_⟩
   . subst g
     rw[aaB rfl,aaB rfl,(d.ms a).1]
     grind
   . subst m
     have e:A.b+l-A.b=l:=by omega
     have r:¬A.b+l=0:=by omega
     have t:A.b+l<A.b+A.n:=by omega
     simp only[aay r,aaB t,e,d.w l i a]
   . have K:=d.c (g ▸ a)
     by_cases r:j=0
     . subst r
       simp only[aaA,(d.ms a).1,K]
     simp_all
 . rcases hd with⟨l,sv,Y,i,m,o,u⟩|⟨g,o,u⟩
   . subst m;exact .inl ⟨l,sv,Y,i,rfl,by rw[d.w l i a];exact o,by rw[d.sh];exact u⟩
   . subst g;exact .inr ⟨rfl,by rw[d.c a];exact o,by rw[d.gm];exact u⟩
 . rcases v with⟨g,g₂,z,i,m,o,u⟩|h
   . subst g;exact .inl ⟨rfl,g₂,z,i,m,o,by rw[(d.ms a).2];exact u⟩
   . exact .inr h
 . exact λl b X i m o=>I l b X i m (by subst m;rw[<-o];exact(d.w l i a).symm)
def vO(c:A.b+A.n+1<=Z.lk)(d:bD (bX P A Fin Z c) Z s f q kk OO J M gs w t){x:adF}(e:gs[i]?=some x)(h:s.ms≠.parked\/i≠0):offersAt x A.cF false=[]:=by
 have B:=bf (P:=P) (A:=A) (Fin:=Fin) (Z:=Z) c;have hb:=A.hb;by_cases a:fD P A s i
 . obtain⟨_,_,_,_,y,g,r,m⟩:=d.held i a
   rw[e]at g;obtain rfl:=aaS g;rcases m with⟨u,_⟩|⟨j,k,o,g₂,z,v,p,_⟩
   . rcases a with⟨_,k⟩|⟨l,k,o,_⟩
     . simp_all
     . omega
   . rw[p,offersAt_parked_send']
 . exact d.quiet B e a _ _
def vP(d:A.b+A.n+1<=Z.lk)(e:bD (bX P A Fin Z d) Z s f q kk OO J M gs w t){x:adF}(g:gs[i]?=some x)(h:∀j,j<A.n->i=A.b+j->s.w j≠.wait)(r:Nat):offersAt x r true=[]:=by
 have B:=bf (P:=P) (A:=A) (Fin:=Fin) (Z:=Z) d;have hb:=A.hb;by_cases a:fD P A s i
 . obtain⟨_,_,_,_,y,k,o,m⟩:=e.held i a
   rw[g]at k;obtain rfl:=aaS k;rcases m with⟨p,g₂,z,c,_⟩|⟨j,u,v,_⟩
   . rw[c,offersAt_parked_recv']
   . rcases a with⟨c,_⟩|⟨l,c,C,D⟩
     . omega
     simp_all
 . exact e.quiet B g a _ _
def oY{i:Nat}{c:Nat}{b:Bool}(h:∀(j:Nat) (g:adF),j≠i->gs[j]?=some g->offersAt g c b=[]):partners (gs.setIfInBounds i ph) c b=[]:=
 partners_nil λj g a=>by
  rcases getElem?_stand gs i j g a with⟨_,rfl⟩|⟨d,a⟩
  . exact offersAt_ph ..
  grind
end
section
variable{Z:Base}{kk:adN}{OO:adM}{J J' M M':adC}{w w':World}{t u:Trace}
def cB.hand(h:cB Z kk OO J M w t){src dst:Nat}(k:src≠Z.lk)(l:dst≠Z.lk)(o:∀n,Knows t src n->Knows (t++u) dst n)(q:∀op∈u,op.act.touch?=none)(r:∀op∈u,op.act.low w.heap.size)(z:w'.heap.size=w.heap.size)(A:Calm Z w w')(hb:∀b,Kept kk OO w w' b)
 (f:∀n a,touchAt t n=some a->a.loc.isMemory=true->((∃j,J j/\Knows t j n)\/(∃p,M p/\Before t n p))->Told Z J' M' (t++u) n a):
 cB Z (bR kk dst ((kk dst).join (kk src))) OO J' M' w' (t++u):=by
 refine h.uH (λa b=>a=b\/(a=src/\b=dst)) z A hb r (λa b e n y _ _ _ d=>?_) (λj b n v c=>?_) (λj b s c=>?_) (λj b x B=>⟨j,.inl rfl,B,λs i=>?_⟩) h.jA
  (λsaid=>?_) (λop g a f=>by simp_all) (λm op a g f=>by grind) f
 . rcases e with rfl|⟨rfl,rfl⟩
   . exact d.app u
   . exact(oH l).2 (o n ((oH k).1 d))
 . by_cases e:j=dst
   . subst e
     rw[au]at c;rcases aj.nP c with c|c
     . simp_all
     simp_all
   . rw[az _ _ e]at c;simp_all
 . by_cases e:j=dst
   . subst e
     rw[au]at c;rcases aj.Hl c with c|c
     . simp_all
     simp_all
   . rw[az _ _ e]at c;simp_all
 . by_cases e:j=dst
   . subst e;rw[au];exact(aj.s8 _ _).sh b s i
   . rw[az _ _ e];exact i
 . exact noRace_appendMute (h.clean said) q
end
end
section
open Go.Conc
open Go.ConcN (sumTo upd sumTo_upd upd_ne upd_same)
variable{P:adS}
def MS.kQ(s:MS P)(j:Nat)(x:bn P)(m1:oQ)(sp1:Nat):MS P:={s with w:=λi=>if i=j then x else s.w i,ms:=m1,sp:=sp1}
section
variable{s:MS P}{j n:Nat}{x:bn P}{m1:oQ}{sp1:Nat}
def fE:(s.kQ j x m1 sp1).w j=x:=by simp[MS.kQ]
def jG{i:Nat}(h:i≠j):(s.kQ j x m1 sp1).w i=s.w i:=by simp[MS.kQ,h]
def PV:(λi=>((s.kQ j x m1 sp1).w i).pc)=Mu.set (λi=>(s.w i).pc) j x.pc:=by
 funext i;by_cases h:i=j
 . subst h;rw[fE,Mu.an]
 . rw[jG h,Mu.ai _ _ h]
def DJ(F:bn P->Nat)(hj:j<n):sumTo n (λi=>F ((s.kQ j x m1 sp1).w i))+F (s.w j)=sumTo n (λi=>F (s.w i))+F x:=by
 have e:(λi=>F ((s.kQ j x m1 sp1).w i))=upd (λi=>F (s.w i)) j (F x):=by
  funext i;by_cases h:i=j
  . subst h;rw[fE,upd_same]
  . rw[jG h,upd_ne _ _ h]
 rw[e];have:=sumTo_upd (λi=>F (s.w i)) (F x) id hj
 simp_all
def bO.kQ(I:bO n s)(hj:j<n)(E:x.cnt+m1.pend=(s.w j).cnt+s.ms.pend)(g:(s.w j).last=false)(d:x.last=false)(v:s.w j≠.gone)(m:x.ok=true)(o:x.pc=(s.w j).pc)(hi:x.jD=false)
 (k:(sp1=s.sp/\(s.w j).jD=false)\/(sp1=s.sp+1/\j=s.sp)) (y:x.iP=true->s.c≠.none)
 (q:match (generalizing:=false) m1 with
   |.add l=>sp1+l=n/\s.c=.none
   |.bz l p=>sp1+l=n/\s.c=.none/\1<=l/\(p=.a0\/p=.a2\/p=.a4\/p=.ae)
   |.spawn l=>sp1+l+1=n/\s.c=.none
   |.recv=>sp1=n/\s.c≠.none
   |.parked=>sp1=n/\s.c≠.none/\s.c≠.gone/\∀i,i<n->(s.kQ j x m1 sp1).w i≠.wait
   |.off=>sp1=n/\s.c≠.none):bO n (s.kQ j x m1 sp1):=by
 have t:=DJ (s:=s) (x:=x) (m1:=m1) (sp1:=sp1) bn.cnt hj
 have f:∀{i:Nat},((s.kQ j x m1 sp1).w i).last=(s.w i).last:=λ{i}=>by
  by_cases e:i=j
  . subst e;rw[fE,g,d]
  . rw[jG e]
 have dn:∀{i:Nat}{p:wP},(p=.d5\/p=.d6\/p=.d7)->((s.kQ j x m1 sp1).w i=.dn p↔s.w i=.dn p):=λ{i p} u=>by
  by_cases e:i=j
  . subst e
    rw[fE];constructor<;>intro h
    . rw[h]at d;rcases u with rfl|rfl|rfl<;>cases d
    . rw[h]at g;rcases u with rfl|rfl|rfl<;>cases g
  . rw[jG e]
 refine⟨?_,I.g2,I.FO,λi hi h=>?_,λi l hi g h b=>?_,λi hi h=>?_,⟨I.g5.1,λh=>?_⟩,λh b r=>?_,λh b=>?_,λh=>?_,I.g9,λi a=>?_,I.TB,?_,λi a=>?_,q,λhd h i a=>?_,?_⟩
 . have:=I.g1
   show s.gc=sumTo n (λi=>((s.kQ j x m1 sp1).w i).cnt)+m1.pend;omega
 . exact I.g3 i hi (h.imp (dn (.inl rfl)).1 (dn (.inr (.inl rfl))).1)
 . rw[f]at h b;exact I.HH i l hi g h b
 . exact I.g4 i hi ((dn (.inr (.inr rfl))).1 h)
 . obtain⟨z,A,B,F⟩:=I.g5.2 h
   exact⟨z,A,B,λi hi=>by simp_all⟩
 . obtain⟨i,hi,C⟩:=I.g6 h b r
   grind
 . obtain⟨i,hi,C⟩:=I.g7 h b
   grind
 . exact absurd ((I.g8 h).2.2.2 j hj) v
 . by_cases e:i=j
   . subst e;rw[fE];exact m
   . rw[jG e];exact I.ok i a
 . have:=I.sp
   show sp1<=n;omega
 . show ((s.kQ j x m1 sp1).w i).jD=true↔sp1<=i
   by_cases e:i=j
   . subst e
     rw[fE,hi];rcases k with⟨h,b⟩|⟨h,b⟩
     . have:=I.idle i a
       simp_all
     simp_all
   . rw[jG e]
     rcases k with⟨h,b⟩|⟨h,b⟩
     . rw[h];exact I.idle i a
     . rw[I.idle i a];omega
 . by_cases e:i=j
   . subst e;rw[fE]
     cases D:x.iP with
     |false=>rfl
     |true=>exact absurd h (y D)
   . rw[jG e];exact I.early hd h i a
 . rw[PV,o,jF (λi=>(s.w i).pc)];exact I.mu
def uZ(hj:j<n)(h:x.cx+m1.cx<(s.w j).cx+s.ms.cx):MS.gq n (s.kQ j x m1 sp1) s:=by
 have:=DJ (s:=s) (x:=x) (m1:=m1) (sp1:=sp1) bn.cx hj;refine .inl ?_;show m1.cx+sumTo n (λi=>((s.kQ j x m1 sp1).w i).cx)+s.c.cx s.gc<s.ms.cx+sumTo n (λi=>(s.w i).cx)+s.c.cx s.gc;omega
end
section
variable{A:bH}{Z:Base}{s s':MS P}{kk kk':adN}{OO:adM}{J J' M:adC}{gsz gsz':Nat}{w w':World}{t u:Trace}
def de.chan(h:de P A Z s kk OO J M gsz w t)(hI:bO A.n s')(I:wB P A s')(T:s'.d=s.d)(D:A.dir=true->∀l,l<A.n->(s'.w l).iF=(s.w l).iF/\kk' (A.b+l)=kk (A.b+l)\/(s'.w l).rel=false/\(s.w l).iF=false)(G:gsz'=A.b+s'.sp+(if s'.c.isNone||A.dir then 0 else 1))(U:A.dir=false->∃x tm,w'.heap[A.cF]?=some (.chan 0 #[] s'.c.eG x x tm))(j:∀b,b≠A.cF->w'.heap[b]?=w.heap[b]?)
 (V:s'.sh=s.sh) (W:s'.gc=s.gc) (X:s'.gv=s.gv) (Y:s'.gm=s.gm) (K:∀l,l<A.n->(s'.w l).owns=(s.w l).owns) (a9:∀i b n v,(kk' i).cell b n=some v->∃l,(kk l).cell b n=some v) (L:kk' Z.lk=kk Z.lk)
 (a7:∀i,J' i↔dZ P A s' i) (z:s'.c=s.c\/(s.c=.none/\(s'.c=.eC\/∃q,s'.c=.wt q)/\∀m,Knows t 0 m->Knows (t++u) A.cl m)) (hu:∀op∈u,op.act.touch?=none/\∀a,op.act≠.mark (.release a))
 (E:∀i,bS P A s' i->bS P A s i\/(∀m,Knows t 0 m->Knows (t++u) i m)) (N:∀i,i≠Z.lk -> ¬bS P A s' i->kk' i=aj.bot/\OO i=ak.bot):
 de P A Z s' kk' OO J' M gsz' w' (t++u):=by
 have k:∀{m:Nat}{a:Touch},touchAt (t++u) m=some a->touchAt t m=some a:=λ{m a} r=>by
  rcases dV r with⟨o,_⟩|⟨op,O,o⟩
  . exact o
  simp_all
 have g:∀i b n,(∀l,(kk l).cell b n=none)->(kk' i).cell b n=none:=λi b n hn=>by
  cases e:(kk' i).cell b n with
  |none=>rfl
  |some v=>grind
 have H:s'.c=.gone->s.c=.gone:=λe=>by simp_all
 refine⟨hI,G,T.trans h.dd,I,λhd l B=>⟨λQ=>?_,λhr=>?_⟩,U,by rw[V];exact h.mu.same (.of_heap (j _ (za A.d1))),by rw[W,X,Y];exact h.gr.same (.of_heap (j _ (za A.d2))),by rw[j _ (za A.d1)];exact h.vL,by rw[j _ (za A.d2)];exact h.zB,h.gL,
  λi=>⟨g i _ _ λl=>(h.eD l).1,g i _ _ λl=>(h.eD l).2.1,g i _ _ λl=>(h.eD l).2.2.1,g i _ _ λl=>(h.eD l).2.2.2⟩,λi y hy=>?_,λl B a8=>h.zC l B (by simp_all),λa8=>?_,λc z=>?_,
  a7,λp hp=>?_,λz=>h.mR u (H z),λm a r R S i hi=>?_,λm a r R S=>?_,λi hi m a hm r F hz=>?_,h.jE u (λop O=>(hu op O).2),N,h.te,h.jZ,h.fq,h.la,by simp;exact aaG h.n0 (abu _ _)⟩
 . have Q:(s.w l).iF=false:=(D hd l B).elim (λe=>e.1 ▸ Q) (·.2)
   exact⟨λi=>g i _ _ ((h.zi hd l B).1 Q).1,λm a ad r=>((h.zi hd l B).1 Q).2 m a ad (k r)⟩
 . rcases D hd l B with⟨e1,e2⟩|⟨e,_⟩
   . rw[e2];exact(h.zi hd l B).2 (by rw[bn.rel,<-e1,<-K l B];exact hr)
   simp_all
 . obtain⟨l,f,h3,h4,h5,h6⟩:=h.tok i y hy
   exact⟨l,f,h3,h4,by grind,h6⟩
 . rw[L];exact h.OY λl B=>by simp_all
 . obtain⟨h3,h4⟩:=h.OZ c z
   simp_all
 . obtain⟨o,h2,h3⟩:=h.vN u p hp
   grind
 . rcases E i hi with o|o
   . exact(h.quiet m a (k r) R S i o).app u
   . exact o m (h.quiet m a (k r) R S 0 (.inl rfl))
 . have h0:=h.said m a (k r) R S
   rcases z with z|⟨z,C,o⟩
   . rw[z];exact h0.app u
   . rw[z]at h0
     rcases C with C|⟨_,C⟩<;>rw[C]<;>exact o m h0
 . have ab:m<t.size:=aaU hm h.n0
   rcases E i hi with o|o
   . exact(h.old i o m a hm (k r) F hz).app u
   . exact o m (h.old 0 (.inl rfl) m a hm (k r) F hz)
end
end
open Go.Conc
open Go.ConcN (sumTo upd sumTo_upd upd_ne upd_same)
section
variable{P:adS}{A:bH}{Fin:acP}{Z:Base}{s s':MS P}{f f':Nat->Node P}{q q':adI}{kk kk':adN}{OO OO':adM}{J J' M M':adC}{gs gs':acX}{w w':World}{t u:Trace}{j:Nat}{g g₂:adF}{z v:Value}
def tD{l:Nat}:l∈MS.rem P A.n s↔l<A.n/\(s.w l).iP=false:=by
 unfold MS.rem
 grind
def PW{m1:oQ}{sp1:Nat}(hj:j<A.n)(h:(s.w j).iP=false):MS.rem P A.n (s.kQ j .zg m1 sp1)=(MS.rem P A.n s).erase j/\(MS.rem P A.n s).length=(MS.rem P A.n (s.kQ j .zg m1 sp1)).length+1:=by
 have e:MS.rem P A.n (s.kQ j .zg m1 sp1)=(MS.rem P A.n s).erase j:=by
  unfold MS.rem;rw[List.Nodup.erase_eq_filter (List.Nodup.sublist List.filter_sublist List.nodup_range),List.filter_filter];refine abK λi _=>?_
  by_cases a:i=j
  . subst a;rw[fE];simp[bn.iP]
  . rw[jG a];simp[a]
 refine⟨e,?_⟩;have b:j∈MS.rem P A.n s:=tD.2 ⟨hj,h⟩
 grind
def yc(hj:j<A.n)(e:s.w j=.wait):¬dE P A s (A.b+j):=by
 have:=A.hb;rintro(⟨e,_⟩|⟨l,a,c,d⟩|⟨e,_⟩)
 . omega
 . simp_all
 . omega
def oZ(hj:j<A.n)(e:s.w j=.wait\/s.w j=.zg):¬gK P A s (A.b+j):=by
 have:=A.hb;rintro(⟨e,_⟩|⟨l,a,c,d⟩|⟨e,_⟩)
 . omega
 . grind
 . omega
def yd(hj:j<A.n)(e:s.w j=.zg):cq P A Fin s (A.b+j)=lh P A:=by
 have:=A.hb;unfold cq
 grind
def fQ(g:Nat)(fn:FuncId)(pos:String):MemOp.ofEvents g fn pos #[]=#[]:=by rw[ofEvents_eq];simp
def q8(t:Trace):t++(#[]:Trace)=t:=by simp
def DK:kL #[]:=λop h=>by simp at h
def PX(E:A.b+A.n+1<=Z.lk)(k:A.dir=false)(C:bD (bX P A Fin Z E) Z s f q kk OO J M gs w t)(hj:j<A.n){W:Node P}(o:s.w j=.run false W)(X:s.ms≠.parked)(S:gs[A.b+j]?=some g)
 (Y:∀w,Sat (kk (A.b+j)) (OO (A.b+j)) w->stepG P false g w=.comm g₂ #[scase A.cF v z] true .send w #[]) (hO:OO (A.b+j) A.fb=none) (hv:V (kk (A.b+j)) v (A.res j)) (ht:T P (lh P A) gV (kk (A.b+j)) (OO (A.b+j)) (Go.Conc.served g₂ undef)) (sl:acS):
 Goes P A Fin Z E s gs w t sl (A.b+j):=by
 have m:de P A Z s kk OO J M gs.size w t:=C.ex;have hb:=A.hb;have F:(A.b+j==0)=false:=by simp;omega
 obtain⟨c,tm,U⟩:=m.Ao k
 have G:s.c.eG=false:=by
  cases e:s.c with
  |gone=>have:=(m.I.g8 (by rw[e];rfl)).2.2.2 j hj;simp_all
  |_=>rfl
 rw[G]at U;have H:=(zs.1 S).1;obtain⟨_,_,_,_,_,_,hd,_⟩:=C.live _ (kz hj o)
 have K:∀L∈(#[scase A.cF v z]:Array CommCase),NoWays w (gs.setIfInBounds (A.b+j) ph) L:=λL a7=>by
  have:L=scase A.cF v z:=by simp_all
  subst this;exact ways_send_none U (by simp) (oY λi x _ hx=>vO E C hx (.inl X))
 have p:=crowd_waits (P:=P) (sl:=sl) S (by rw[F];exact Y w (C.cN.sat _)) K
 rw[fQ]at p;have N:∀i,¬(i=A.b+j)->(gs.setIfInBounds (A.b+j) (parked g₂ #[scase A.cF v z] .send))[i]?=gs[i]?:=λi D=>aaz (za D)
 have r:(gs.setIfInBounds (A.b+j) (parked g₂ #[scase A.cF v z] .send))[A.b+j]?=some (parked g₂ #[scase A.cF v z] .send):=LF H;have hP:cB Z kk OO J M w (t++#[]):=by rw[q8];exact C.cN
 obtain⟨s',a⟩:∃s',s'=s.kQ j .wait s.ms s.sp:=⟨_,rfl⟩;have d:s'.w j=.wait:=by rw[a,fE]
 have O:∀{l:Nat},l≠j->s'.w l=s.w l:=λh=>by rw[a,jG h]
 have hI:bO A.n s':=by
  rw[a];refine m.I.kQ hj (by rw[o];rfl) (by rw[o];rfl) rfl (by grind) rfl (by rw[o];rfl) rfl (.inl ⟨rfl,by rw[o];rfl⟩) (λh=>by cases h) ?_
  have:=m.I.ms
  grind
 have u:∀l,l<A.n->(s'.w l).iP=(s.w l).iP:=λl _=>by
  by_cases e:l=j
  . subst e;rw[d,o];rfl
  grind
 have y:∀l,(s'.w l).busy=(s.w l).busy:=λl=>by
  by_cases e:l=j
  . subst e;rw[d,o];rfl
  grind
 have Q:de P A Z s' kk OO J M (gs.setIfInBounds (A.b+j) (parked g₂ #[scase A.cF v z] .send)).size w (t++#[]):=by
  refine m.chan hI (B3 k (by rw[a];exact m.off.2.2 k)) (by rw[a];rfl) (λh=>by simp_all) (by rw[abm,a];exact m.size) (by rw[a];exact m.Ao) (λ_ _=>rfl) (by rw[a];rfl) (by rw[a];rfl) (by rw[a];rfl) (by rw[a];rfl) (λl _=>?_) (λi b n v h=>⟨i,h⟩) rfl (λi=>?_) (.inl (by rw[a];rfl)) (λop h=>by simp at h) (λi D=>.inl ?_) (λi R hn=>m.Dp i R λh=>hn ?_)
  . by_cases e:l=j
    . subst e;rw[d,o];rfl
    grind
  . rw[m.hJ i]
    unfold dZ;simp only[y,show s'.c=s.c by rw[a];rfl]
  . rw[a]at D;exact D
  . rw[a];exact h
 have hL:MS.gq A.n s' s:=by rw[a];exact uZ hj (by rw[o];simp[bn.cx])
 have hS:im A s s' (λi=>i=A.b+j):=⟨λl _ hl=>O (by omega),λ_=>by rw[a];rfl,λ_=>⟨by rw[a];rfl,xZ u⟩,by rw[a];rfl,by rw[a];rfl⟩
 refine⟨_,_,p,s',f,q,kk,OO,J,M,_,_,_,rfl,hL,?_⟩;refine C.I0 DK hP Q (by simp) (λi=>i=A.b+j) N (lF E hS (λ_ _=>rfl) (λ_ _=>rfl) (λ_ _ _=>rfl) (λ_ _ _=>rfl) (λ_ _ _ h=>h)) (λi D=>?_)
 subst D;have B:fD P A s' (A.b+j):=.inr ⟨j,hj,rfl,d⟩;refine⟨_,r,λh=>absurd h (yc hj d),λh=>absurd h (oZ hj (.inl d)),λ_=>⟨yc hj d,oZ hj (.inl d),?_,by simp_all,rfl,.inr ⟨j,hj,rfl,g₂,z,v,rfl,hv,hO,ht,k⟩⟩,λ_ _ h=>absurd B h⟩
 omega
def mX(a b c s r cap:Nat)(f1 d:FuncId)(e f:String):Trace:=#[{g:=a,fn:=f1,pos:=e,act:=.send c s},{g:=b,fn:=d,pos:=f,act:=.recv c r cap},{g:=a,fn:=f1,pos:=e,act:=.sendDone c s},{g:=b,fn:=d,pos:=f,act:=.recvDone c r}]
def kB{a b c s r cap:Nat}{f1 d:FuncId}{e f:String}{op:MemOp}(h:op∈mX a b c s r cap f1 d e f):op.act.touch?=none/\(op.act≠.mark .disable/\op.act≠.mark .enable)/\(∀B,c<B->op.act.low B)/\∀a,op.act≠.mark (.release a):=by
 simp only[mX,List.mem_toArray,aaQ,abR,or_false]at h;rcases h with rfl|rfl|rfl|rfl<;>exact⟨rfl,⟨by simp,by simp⟩,λB g=>g,by simp⟩
def tE{w:World}{c cap s r:Nat}{buf:adq}{cl tm:Bool}{d:Nat}(a:ChanAt w c){b:Nat}:
 ((w.at d).setChan c cap buf cl s r tm).heap[b]?=if b=c then some (.chan cap buf cl s r tm)else w.heap[b]?:=by
 obtain⟨_,_,_,_,_,_,h⟩:=a;have e:=(zs.1 h).1;simp only[World.setChan,World.at]
 grind
def ye(m:Nat)(R:adH):(rS P A Fin m R).solo=false:=by cases m<;>rfl
def nY(e:s.ms=.recv):cq P A Fin s 0=rS P A Fin (MS.rem P A.n s).length (MS.rem P A.n s):=by
 unfold cq
 simp_all
def jh(e:s.ms=.recv):dE P A s 0:=.inl ⟨rfl,by simp_all⟩
def tF(hd:A.dir=false)(e:s.ms=.recv\/s.ms=.parked):¬gK P A s 0:=by
 have:=A.hb;have:=vK hd;rintro(⟨_,h⟩|⟨l,a,b,c⟩|⟨h,_⟩)
 . grind
 . omega
 . omega
def DL{x:Node P}:PA P A s 0 x:=λj h X a b _=>by have:=A.hb;omega
def HS{x:Node P}(e:s.w j=.zg):PA P A s (A.b+j) x:=λl h X a c d=>by simp_all
def handed(Y:A.b+A.n+1<=Z.lk)(u:A.dir=false)(H:bD (bX P A Fin Z Y) Z s f q kk OO J M gs w t)(hj:j<A.n)(K:s.ms=.recv\/s.ms=.parked)(L:s.w j=.wait\/∃X0,s.w j=.run false X0)(b9:(s.w j).cx+s.ms.cx=119){c:Nat}{tm:Bool}{gw gm:adF}{v:Value}(d:Nat)
 (hF:w.heap[A.cF]?=some (.chan 0 #[] false c c tm)) (dj:Deaf t (A.b+j)=0) (d0:Deaf t 0=0)
 (a7:gs'.size=gs.size) (hw:gs'[A.b+j]?=some gw) (hm:gs'[0]?=some gm) (ho:∀i,i≠0->i≠A.b+j->gs'[i]?=gs[i]?)
 (hv:V (kk (A.b+j)) v (A.res j)) (a8:T P (lh P A) gV (kk (A.b+j)) (OO (A.b+j)) gw)
 (a9:∀k',(kk 0).Le k'->V k' v (A.res j)->T P (rS P A Fin ((MS.rem P A.n s).length-1) ((MS.rem P A.n s).erase j)) gV k' (OO 0) gm) (f1 N:FuncId) (O Q:String):
 ∃s' f' kk',MS.gq A.n s' s/\bD (bX P A Fin Z Y) Z s' f' q kk' OO J M gs' ((w.at d).setChan A.cF 0 #[] false (c+1) (c+1) tm) (t++mX (A.b+j) 0 A.cF c c 0 f1 N O Q):=by
 have C:de P A Z s kk OO J M gs.size w t:=H.ex;have hb:=A.hb;have B:ChanAt w A.cF:=⟨_,_,_,_,_,_,hF⟩;have ab:A.cF<w.heap.size:=(zs.1 hF).1;have X:kL (mX (A.b+j) 0 A.cF c c 0 f1 N O Q):=λop h=>(kB h).2.1
 have ad:(kk (A.b+j)).Le ((kk 0).join (kk (A.b+j))):=aj.xH (H.cN.sat 0) (H.cN.sat _);have al:=a9 _ (aj.s8 _ _) (hv.mono ad);obtain⟨R⟩:=T.tree (ye (P:=P) (A:=A) (Fin:=Fin) _ _) al;obtain⟨S⟩:=T.tree (P:=P) (m:=lh P A) rfl a8;have bm:=K
 have U:s.sp=A.n/\s.c≠.none:=by
  have:=C.I.ms
  grind
 have av:s.c.eG=false:=by
  cases e:s.c with
  |gone=>have:=(C.I.g8 (by rw[e];rfl)).2.2.2 j hj;simp_all
  |_=>rfl
 have hP:cB Z (bR kk 0 ((kk 0).join (kk (A.b+j)))) OO J M ((w.at d).setChan A.cF 0 #[] false (c+1) (c+1) tm) (t++mX (A.b+j) 0 A.cF c c 0 f1 N O Q):=by
  refine H.cN.hand (src:=A.b+j) (dst:=0) (by omega) (by omega) (λn hn=>?_) (λop h=>(kB h).1) (λop h=>(kB h).2.2.1 _ ab) (by simp[World.setChan,World.at]) ⟨⟨.refl _,rfl⟩,λb hb=>by have:=C.fq.1 u;simp only[World.setChan,World.at];grind⟩ (λb=>?_) (λn a ha hm h=>h.elim (λ⟨j,h1,h2⟩=>.inr (.inl ⟨j,h1,h2.app _⟩)) (λ⟨p,h1,h2⟩=>.inr (.inr (.inl ⟨p,h1,h2.app _⟩))))
  . exact xJ (t:=t) X (m1:=0) (m2:=3) (c:=A.cF) (k:=c) (x:={g:=A.b+j,fn:=f1,pos:=O,act:=.send A.cF c}) (y:={g:=0,fn:=N,pos:=Q,act:=.recvDone A.cF c}) rfl rfl rfl rfl dj d0 hn
  . unfold Kept
    rw[tE B]
    by_cases E:b=A.cF
    . subst E
      exact .inr (.inl ⟨B,⟨_,_,_,_,_,_,by rw[tE B,aaB rfl]⟩,λi=>(C.gL i).1 u⟩)
    grind
 have ax:(s.w j).iP=false:=by rcases L with h|⟨_,h⟩<;>rw[h]<;>rfl
 obtain⟨s',o⟩:∃s',s'=s.kQ j .zg .recv s.sp:=⟨_,rfl⟩;obtain⟨D,ay⟩:=PW (A:=A) (s:=s) (m1:=.recv) (sp1:=s.sp) hj ax;rw[<-o]at D ay;have r:s'.w j=.zg:=by rw[o,fE]
 have aC:∀{l:Nat},l≠j->s'.w l=s.w l:=λh=>by rw[o,jG h]
 have F:s'.c=s.c:=by rw[o];rfl
 have G:s'.ms=.recv:=by rw[o];rfl
 have aE:(s.w j).busy=true/\(s.w j).cnt=1/\(s.w j).last=false/\(s.w j).pc=.out/\(s.w j).jD=false/\s.w j≠.gone/\(s.w j).owns=false:=by rcases L with h|⟨_,h⟩<;>rw[h]<;>simp[bn.busy,bn.cnt,bn.last,bn.pc,bn.jD,bn.owns]
 obtain⟨b1,b2,b3,b4,b5,b6,b7⟩:=aE
 have hI:bO A.n s':=by rw[o];refine C.I.kQ hj (by rw[b2];rcases K with e|e<;>rw[e]<;>rfl) b3 rfl b6 rfl (by rw[b4];rfl) rfl (.inl ⟨rfl,b5⟩) (λ_=>U.2) U
 have aL:∀l,(s'.w l).busy=(s.w l).busy:=λl=>by
  by_cases e:l=j
  . subst e;rw[r,b1];rfl
  grind
 have aO:de P A Z s' (bR kk 0 ((kk 0).join (kk (A.b+j)))) OO J M gs'.size ((w.at d).setChan A.cF 0 #[] false (c+1) (c+1) tm) (t++mX (A.b+j) 0 A.cF c c 0 f1 N O Q):=by
  refine C.chan hI (B3 u (by simp_all)) (by rw[o];rfl) (λh=>by simp_all) (by rw[a7,o];exact C.size) (λ_=>⟨c+1,tm,by rw[tE B,aaB rfl,F,av]⟩) (λb E=>by rw[tE B,aay E]) (by rw[o];rfl) (by rw[o];rfl) (by rw[o];rfl) (by rw[o];rfl) (λl _=>?_) (λi b n v h=>?_) (az _ _ (by omega)) (λi=>?_) (.inl F) (λop h=>⟨(kB h).1,(kB h).2.2.2⟩) (λi z=>.inl ?_) (λi b0 hn=>?_)
  . by_cases e:l=j
    . subst e;rw[r,b7];rfl
    grind
  . by_cases e:i=0
    . subst e
      rw[au]at h;exact(aj.nP h).elim (λh=>⟨0,h⟩) (λh=>⟨_,h⟩)
    . rw[az _ _ e]at h;grind
  . rw[C.hJ i]
    unfold dZ
    simp_all
  . rw[o]at z;exact z
  . have W:¬bS P A s i:=λh=>hn (by rw[o];exact h)
    rw[az _ _ (λe=>W (.inl e))]
    exact C.Dp i b0 W
 have hL:MS.gq A.n s' s:=by rw[o];refine uZ hj ?_;have e1:(bn.zg (P:=P)).cx=18:=rfl;have e2:oQ.recv.cx=100:=rfl;omega
 have hS:im A s s' (λi=>i=0\/i=A.b+j):=⟨λl _ hl=>aC (λe=>hl (.inr (by omega))),λ_=>F,λh=>absurd (.inl rfl) h,by rw[o];rfl,by rw[o];rfl⟩
 refine⟨s',bR (bR f 0 ⟨_,_,_,_,R⟩) (A.b+j) ⟨_,_,_,_,S⟩,bR kk 0 ((kk 0).join (kk (A.b+j))),hL,?_⟩;refine H.I0 X hP aO (by omega) (λi=>i=0\/i=A.b+j) (λi z=>ho i (λe=>z (.inl e)) (λe=>z (.inr e))) (lF Y hS (λi z=>by rw[az _ _ (λe=>z (.inr e)),az _ _ (λe=>z (.inl e))]) (λ_ _=>rfl) (λi z _=>az _ _ (λe=>z (.inl e))) (λ_ _ _=>rfl) (λ_ _ _ h=>h)) (λi z=>?_)
 rcases z with rfl|rfl
 . refine⟨gm,hm,λ_=>?_,λh=>absurd h (tF u (.inl G)),λh=>absurd h (mW (by simp_all)),λh=>absurd (jh G) h⟩
   have b8:(0:Nat)≠A.b+j:=by omega
   rw[az _ _ b8,au,au];refine⟨by show 0<A.b+A.n+1;omega,rfl,?_,rfl,rfl,R.running,by rw[cj X];exact d0,.inl rfl,DL⟩
   show rS P A Fin _ _=cq P A Fin s' 0;rw[nY G,D]
   simp_all
 . refine⟨gw,hw,λ_=>?_,λh=>absurd h (oZ hj (.inr r)),λh=>absurd h (uX hj r),λh=>absurd (tC hj r) h⟩
   rw[au,az _ _ (by omega)]
   refine⟨by show A.b+j<A.b+A.n+1;omega,rfl,?_,rfl,rfl,S.running,by rw[cj X];exact dj,.inr ((C.hJ _).2 (.inl ⟨j,hj,rfl,b1⟩)),HS r⟩
   show lh P A=cq P A Fin s' (A.b+j);rw[yd hj r]
end
section
variable{P:adS}{A:bH}{Fin:acP}{Z:Base}{s s':MS P}{f f':Nat->Node P}{q q':adI}{kk kk':adN}{OO OO':adM}{J J' M M':adC}{gs gs':acX}{w w':World}{t u:Trace}{j:Nat}{g g₂:adF}{z v:Value}
def I1{k:aj}{O:ak}{g g₂ a:adF}{z y:Value}(h:dM P A k O g g₂ z)(h':dM P A k O g a y)(b:Sat k O w):a=g₂/\y=z:=by
 have e:=(h w b).symm.trans (h' w b);simp only[GStep.comm.injEq,rcase]at e
 simp_all
def FZ{g g':adF}{cs a:Array CommCase}{sh b:CommShape}(h:parked g cs sh=parked g' a b):(∀v,Go.Conc.served g v=Go.Conc.served g' v)/\cs=a/\sh=b/\g.frame=g'.frame:=by
 refine⟨λv=>?_,?_,?_,?_⟩
 . show Go.Conc.served (parked g cs sh) v=Go.Conc.served (parked g' a b) v;rw[h]
 . have:=congrArg (λx:adF=>x.offers) h
   simp only[parked,kn,zH]at this;exact this.1
 . have:=congrArg (λx:adF=>x.offers) h
   simp only[parked,kn,zH]at this;exact this.2
 . show(parked g cs sh).frame=(parked g' a b).frame;rw[h]
def Ar{k:aj}{O:ak}{g g₂:adF}{z:Value}{m:Nat}{R:adH}{N:acP}(h:(rS P A Fin (m+1) R).dh k O g N)(b:dM P A k O g g₂ z)(c:Sat k O w){j:Nat}(hj:j∈R):
 ∀k' v,k.Le k'->V k' v (A.res j)->T P (rS P A Fin m (R.erase j)) gV k' O (g₂.finishComm P #[rcase A.cF z] (.recv true) 0 v true):=by
 obtain⟨_,a,y,d,f,i,e⟩:=h;obtain⟨rfl,rfl⟩:=I1 b d c;exact e j hj
def L9{m:Nat}{R:adH}{k:aj}{O:ak}{g:adF}{N:acP}(h:(rS P A Fin m R).dh k O g N):
 ∃g₂ z,dM P A k O g g₂ z/\dM P A k O g₂ g₂ z/\g₂.status=.running/\(rS P A Fin m R).dh k O g₂ gV:=by
 cases m with
 |zero=>obtain⟨_,g₂,z,c,a,b,d⟩:=h;exact⟨g₂,z,c,a,b,rfl,g₂,z,a,a,b,d⟩
 |succ m=>obtain⟨_,g₂,z,c,a,b,d⟩:=h;exact⟨g₂,z,c,a,b,rfl,g₂,z,a,a,b,d⟩
def yf(hj:j<A.n)(h:(s.w j).iP=false):∃m,(MS.rem P A.n s).length=m+1:=by
 have:j∈MS.rem P A.n s:=tD.2 ⟨hj,h⟩;have:=List.length_pos_of_mem this
 simp_all
def DN(I:bO A.n s)(hj:j<A.n)(h:s.w j≠.gone):s.c.eG=false:=by
 cases e:s.c with
 |gone=>exact absurd ((I.g8 (by rw[e];rfl)).2.2.2 j hj) h
 |_=>rfl
def Ma(y:A.b+A.n+1<=Z.lk)(d:A.dir=false)(h:bD (bX P A Fin Z y) Z s f q kk OO J M gs w t)(hj:j<A.n){H:Node P}(B:s.w j=.run false H)(C:s.ms=.parked)(K:gs[A.b+j]?=some g)
 (U:∀w,Sat (kk (A.b+j)) (OO (A.b+j)) w->stepG P false g w=.comm g₂ #[scase A.cF v z] true .send w #[]) (W:V (kk (A.b+j)) v (A.res j)) (X:T P (lh P A) gV (kk (A.b+j)) (OO (A.b+j)) (Go.Conc.served g₂ undef)) (sl:acS):
 Goes P A Fin Z y s gs w t sl (A.b+j):=by
 have L:de P A Z s kk OO J M gs.size w t:=h.ex;have hb:=A.hb;have D:(A.b+j==0)=false:=by simp;omega
 obtain⟨c,tm,E⟩:=L.Ao d;rw[DN L.I hj (by grind)]at E
 have Y:=(zs.1 K).1;obtain⟨_,_,_,_,_,_,hd,_⟩:=h.live _ (kz hj B);obtain⟨_,_,_,d0,gp,F,_,p5⟩:=h.held 0 (.inl ⟨rfl,C⟩);obtain⟨_,gm,N,rfl,p6,p7,O⟩|⟨l,h1,h2,_⟩:=p5
 . have a:=stand_get (i:=A.b+j) (show(0:Nat)≠A.b+j by omega) F
   have o:partners (gs.setIfInBounds (A.b+j) ph) A.cF false=[(0,0)]:=by
    rw[partners_one a (λk x hk G=>?_),offersAt_parked_recv,aaB rfl]
    . rfl
    . rcases getElem?_stand gs (A.b+j) k x G with⟨_,rfl⟩|⟨a7,G⟩
      . exact offersAt_ph ..
      . exact vO y h G (.inr hk)
   have e:=crowd_send_meets (P:=P) (sl:=sl) K (by rw[D];exact U w (h.cN.sat _)) E (by omega) F o
   rw[fQ]at e;have p:(s.w j).iP=false:=by rw[B];rfl
   obtain⟨m,r⟩:=yf (A:=A) (s:=s) hj p;rw[r]at O;have Q:0<gs.size:=(zs.1 F).1
   obtain⟨s',f',kk',hL,u⟩:=handed y d h hj (.inr C) (.inr ⟨H,B⟩) (by rw[B,C];rfl) (gs':=(gs.setIfInBounds 0 (gm.finishComm P #[rcase A.cF N] (.recv true) 0 v true)).setIfInBounds (A.b+j) (g₂.finishComm P #[scase A.cF v z] .send 0 undef false)) (gw:=Go.Conc.served g₂ undef) (gm:=gm.finishComm P #[rcase A.cF N] (.recv true) 0 v true) w.drawn E hd d0 (by simp)
    (by rw[LF (by simp_all)];rfl) (by simp_all)
    (λi R S=>by grind) W X
    (λk' R S=>by rw[r];exact Ar O p6 (h.cN.sat 0) (tD.2 ⟨hj,p⟩) k' v R S) g₂.frame.fn gm.frame.fn g₂.frame.place gm.frame.place
   refine⟨_,_,e,s',f',q,kk',OO,J,M,_,_,sl,rfl,hL,?_⟩;rw[show w.at w.drawn=w from rfl]at u
   simpa[mX]using u
 . omega
def Mb(G:A.b+A.n+1<=Z.lk)(v:A.dir=false)(u:bD (bX P A Fin Z G) Z s f q kk OO J M gs w t)(hm:s.ms=.recv)(hj:j<A.n)(hw:s.w j=.wait)(hg:gs[0]?=some g)
 (hs:dM P A (kk 0) (OO 0) g g₂ z){N:acP}(ht:(rS P A Fin (MS.rem P A.n s).length (MS.rem P A.n s)).dh (kk 0) (OO 0) g N) (sl:acS):
 Goes P A Fin Z G s gs w t sl 0:=by
 have hE:de P A Z s kk OO J M gs.size w t:=u.ex;have hb:=A.hb;obtain⟨c,tm,hF⟩:=hE.Ao v;rw[DN hE.I hj (by grind)]at hF
 have ad:=(zs.1 hg).1;obtain⟨_,_,_,_,_,_,d0,_⟩:=u.live _ (jh hm)
 have h:∀{i:Nat}{x:adF},gs[i]?=some x->i≠0->fD P A s i->∃a,a<A.n/\i=A.b+a/\s.w a=.wait/\∃p B o,x=parked p #[scase A.cF o B] .send/\V (kk i) o (A.res a)/\T P (lh P A) gV (kk i) (OO i) (Go.Conc.served p undef):=λ{i x} F H D=>by
  obtain⟨_,_,_,_,y,r1,r2,r3⟩:=u.held i D;rw[F]at r1;obtain rfl:=aaS r1
  rcases r3 with⟨h0,_⟩|⟨a,h1,h2,p,B,o,h3,h4,_,h5,_⟩
  . omega
  . refine⟨a,h1,h2,?_,p,B,o,h3,h4,h5⟩
    rcases D with⟨h6,_⟩|⟨l,h6,h7,h8⟩
    . omega
    simp_all
 obtain⟨_,_,_,_,x0,e0,_⟩:=u.held (A.b+j) (.inr ⟨j,hj,rfl,hw⟩);obtain⟨a0,_,_,_,al,av,ax,rfl,_⟩:=h e0 (by omega) (.inr ⟨j,hj,rfl,hw⟩)
 have a7:partners (gs.setIfInBounds 0 ph) A.cF true≠[]:=λe=>by
  have:(A.b+j,0)∈partners (gs.setIfInBounds 0 ph) A.cF true:=mem_partners.2 ⟨_,stand_get (by omega) e0,by rw[offersAt_parked_send,aaB rfl];simp⟩
  simp_all
 have a8:∀i k,(i,k)∈partners (gs.setIfInBounds 0 ph) A.cF true->k=0/\i≠0/\∃x,gs[i]?=some x/\fD P A s i:=λi k K=>by
  obtain⟨x,F,L⟩:=mem_partners.1 K
  rcases getElem?_stand gs 0 i x F with⟨_,rfl⟩|⟨hi,F⟩
  . rw[offersAt_ph]at L;cases L
  . by_cases D:fD P A s i
    . obtain⟨a,_,_,_,p,B,o,rfl,_⟩:=h F hi D
      rw[offersAt_parked_send,aaB rfl]at L
      simp_all
    . rw[u.quiet (bf (P:=P) (A:=A) (Fin:=Fin) (Z:=Z) G) F D]at L;cases L
 have O:∀i k,(i,k)∈partners (gs.setIfInBounds 0 ph) A.cF true->k=0/\i≠0/\∃p o B Q,gs[i]?=some (parked p #[scase A.cF o B] Q):=λi k K=>by grind
 obtain⟨i,p,o,B,Q,d,H,E,C⟩:=crowd_recv_meets_some (P:=P) (sl:=sl) hg (show stepG P (0==0) g w=_ from hs w (u.cN.sat 0)) hF a7 O
 rw[fQ]at C
 have r:fD P A s i:=abk λD=>by have:=u.quiet (bf (P:=P) (A:=A) (Fin:=Fin) (Z:=Z) G) E D A.cF true;rw[offersAt_parked_send,aaB rfl]at this;cases this
 obtain⟨a,a2,rfl,a3,ay,aC,a9,R,S,e3⟩:=h E H r;obtain⟨i1,i2,i3,i4⟩:=FZ R
 have i5:o=a9:=by
  have:=congrArg (λx:Array CommCase=>x[0]?) i2
  simp[scase]at this;exact this.1
 subst i3;subst i5;obtain⟨_,_,_,dj,_⟩:=u.held _ r;have U:=(zs.1 E).1;have W:(s.w a).iP=false:=by rw[a3];rfl
 obtain⟨m,X⟩:=yf (A:=A) (s:=s) a2 W;have Y:=ht;rw[X]at Y
 obtain⟨s',f',kk',hL,ab⟩:=handed G v u a2 (.inl hm) (.inl a3) (by rw[a3,hm];rfl) (gs':=(gs.setIfInBounds (A.b+a) (p.finishComm P #[scase A.cF o B] .send 0 undef false)).setIfInBounds 0 (g₂.finishComm P #[rcase A.cF z] (.recv true) 0 o true)) (gw:=Go.Conc.served p undef) (gm:=g₂.finishComm P #[rcase A.cF z] (.recv true) 0 o true) d hF dj d0 (by simp)
  (by rw[aaz (by omega),LF U];rfl) (by grind)
  (λi R S=>by rw[aaz (za R),aaz (za S)]) S (by grind)
  (λk' R S=>by rw[X];exact Ar Y hs (u.cN.sat 0) (tD.2 ⟨a2,W⟩) k' o R S) p.frame.fn g₂.frame.fn p.frame.place g₂.frame.place
 refine⟨_,_,C,s',f',q,kk',OO,J,M,_,_,sl,rfl,hL,?_⟩;simpa[mX]using ab
def tH(hd:A.dir=false)(a:s.ms=.parked):¬dE P A s 0:=by
 have:=A.hb;have:=vK hd;rintro(⟨_,h⟩|⟨l,b,c,d⟩|⟨h,_⟩)
 . simp_all
 . omega
 . omega
def Mc(K:A.b+A.n+1<=Z.lk)(k:A.dir=false)(C:bD (bX P A Fin Z K) Z s f q kk OO J M gs w t)(L:s.ms=.recv)(E:∀j,j<A.n->s.w j≠.wait)(F:s.c≠.gone)(U:gs[0]?=some g)
 (X:dM P A (kk 0) (OO 0) g g₂ z) (N:dM P A (kk 0) (OO 0) g₂ g₂ z) (Y:g₂.status=.running) (ht:(rS P A Fin (MS.rem P A.n s).length (MS.rem P A.n s)).dh (kk 0) (OO 0) g₂ gV) (sl:acS):
 Goes P A Fin Z K s gs w t sl 0:=by
 have d:de P A Z s kk OO J M gs.size w t:=C.ex;have hb:=A.hb;obtain⟨c,tm,V⟩:=d.Ao k
 have G:s.c.eG=false:=by
  cases e:s.c.eG with
  |true=>exact absurd (sx.1 e) F
  |false=>rfl
 rw[G]at V;have O:=(zs.1 U).1;obtain⟨_,_,_,_,_,_,d0,_⟩:=C.live _ (jh L)
 have H:∀Q∈(#[rcase A.cF z]:Array CommCase),NoWays w (gs.setIfInBounds 0 ph) Q:=λQ a7=>by
  have:Q=rcase A.cF z:=by simp_all
  subst this;exact ways_recv_none V (oY λi x _ hx=>vP K C hx (λj h1 h2=>E j h1) _)
 have p:=crowd_waits (P:=P) (sl:=sl) U (show stepG P (0==0) g w=_ from X w (C.cN.sat 0)) H
 rw[fQ]at p;have R:∀i,¬(i=0)->(gs.setIfInBounds 0 (parked g₂ #[rcase A.cF z] (.recv true)))[i]?=gs[i]?:=λi D=>aaz (za D)
 have r:(gs.setIfInBounds 0 (parked g₂ #[rcase A.cF z] (.recv true)))[0]?=some (parked g₂ #[rcase A.cF z] (.recv true)):=LF O;have hP:cB Z kk OO J M w (t++#[]):=by rw[q8];exact C.cN
 obtain⟨s',a⟩:∃s',s'=s.nA .parked s.gc:=⟨_,rfl⟩;have m:s'.ms=.parked:=by rw[a];rfl
 have o:s'.w=s.w:=by rw[a];rfl
 have u:s'.c=s.c:=by rw[a];rfl
 have y:=d.I.ms;rw[L]at y
 have hI:bO A.n s':=by rw[a];exact⟨by have:=d.I.g1;rw[L]at this;exact this,d.I.g2,d.I.FO,d.I.g3,d.I.HH,d.I.g4,d.I.g5,d.I.g6,d.I.g7,d.I.g8,d.I.g9,d.I.ok,d.I.TB,d.I.sp,d.I.idle,⟨y.1,y.2,F,E⟩,d.I.early,d.I.mu⟩
 have S:de P A Z s' kk OO J M (gs.setIfInBounds 0 (parked g₂ #[rcase A.cF z] (.recv true))).size w (t++#[]):=by
  refine d.chan hI (B3 k (by simp_all)) (by rw[a];rfl) (λh=>by simp_all) (by rw[abm,a];exact d.size) (by simp_all) (λ_ _=>rfl) (by rw[a];rfl) (by rw[a];rfl) (by rw[a];rfl) (by rw[a];rfl) (λl _=>by rw[o]) (λi b n v h=>⟨i,h⟩) rfl (λi=>?_) (.inl u) (λop h=>by simp at h) (λi D=>.inl ?_) (λi T hn=>d.Dp i T λh=>hn ?_)
  . rw[d.hJ i]
    unfold dZ;rw[o,u]
  . rw[a]at D;exact D
  . rw[a];exact h
 have hL:MS.gq A.n s' s:=by
  refine .inl ?_;rw[a];show oQ.parked.cx+sumTo A.n (λi=>(s.w i).cx)+s.c.cx s.gc<s.ms.cx+sumTo A.n (λi=>(s.w i).cx)+s.c.cx s.gc
  rw[L];have e1:oQ.parked.cx=99:=rfl;have e2:oQ.recv.cx=100:=rfl;omega
 have W:MS.rem P A.n s'=MS.rem P A.n s:=xZ λl _=>by rw[o]
 have hS:im A s s' (λi=>i=0):=⟨λl _ hl=>by rw[o],λ_=>u,λh=>absurd rfl h,by rw[a];rfl,by rw[a];rfl⟩
 refine⟨_,_,p,s',f,q,kk,OO,J,M,_,_,_,rfl,hL,?_⟩;refine C.I0 DK hP S (by simp) (λi=>i=0) R (lF K hS (λ_ _=>rfl) (λ_ _=>rfl) (λ_ _ _=>rfl) (λ_ _ _=>rfl) (λ_ _ _ h=>h)) (λi D=>?_)
 subst D;have B:fD P A s' 0:=.inl ⟨rfl,m⟩;refine⟨_,r,λh=>absurd h (tH k m),λh=>absurd h (tF k (.inr m)),λ_=>⟨tH k m,tF k (.inr m),?_,by simp_all,rfl,.inl ⟨rfl,g₂,z,rfl,N,Y,by simp_all⟩⟩,λ_ _ h=>absurd B h⟩
 omega
end
def iV(c:Nat):ads:=#[⟨.obj c,false,true⟩,⟨.obj c,true,true⟩]
def mY(i:Nat)(fn:FuncId)(pos:String)(c:Nat):MemOp.ofEvents i fn pos (iV c)=#[{g:=i,fn:=fn,pos:=pos,act:=.access ⟨.obj c,false,true⟩},{g:=i,fn:=fn,pos:=pos,act:=.close c}]:=by rw[ofEvents_eq];simp[iV,MemAct.ofEvent]
def fI{i:Nat}{fn:FuncId}{pos:String}{c:Nat}{op:MemOp}(h:op∈MemOp.ofEvents i fn pos (iV c)):op.g=i/\(op.act≠.mark .disable/\op.act≠.mark .enable)/\(∀a,op.act.touch?=some a->a.loc=.obj c/\a.kind=.atomic)/\(∀B,c<B->op.act.low B)/\∀a,op.act≠.mark (.release a):=by
 rw[mY]at h;simp only[List.mem_toArray,aaQ,abR,or_false]at h;rcases h with rfl|rfl
 . exact⟨rfl,⟨by simp,by simp⟩,λa b=>by simp only[MemAct.touch?,kn]at b;grind,λB d=>d,by simp⟩
 . exact⟨rfl,⟨by simp,by simp⟩,λa b=>(by cases b),λB d=>d,by simp⟩
section
variable{P:adS}{A:bH}{Fin:acP}{Z:Base}{s s':MS P}{f f':Nat->Node P}{q q':adI}{kk kk':adN}{OO OO':adM}{J J' M M':adC}{gs gs':acX}{w w':World}{t u:Trace}{j:Nat}{g g₂:adF}{z v:Value}
def dM.again{k:aj}{O:ak}{g g₂:adF}{z a:Value}(h:dM P A k O g g₂ z)(c:g.status=.running)(sh:CommShape):dM P A k O {parked g #[rcase A.cF a] sh with status:=.running} g₂ z:=λw b=>by
 rw[stepG_tries];have:({g with status:=.running}:adF)=g:=by cases g;simp_all
 rw[this];exact h w b
def I2{m:Nat}{R:adH}{k:aj}{O:ak}{g:adF}{z:Value}{sh:CommShape}{N:acP}(h:(rS P A Fin m R).dh k O g N)(e:g.status=.running):
 T P (rS P A Fin m R) gV k O {parked g #[rcase A.cF z] sh with status:=.running}:=by
 refine .dh gV rfl ?_ (λ_ _ _ h=>h.elim);cases m with
 |zero=>obtain⟨_,g₂,y,a,b,c,d⟩:=h;exact⟨rfl,g₂,y,a.again e sh,b,c,d⟩
 |succ m=>obtain⟨_,g₂,y,a,b,c,d⟩:=h;exact⟨rfl,g₂,y,a.again e sh,b,c,d⟩
def cB.shut(h:cB Z kk OO J M w t){i c:Nat}{x:Nat}{tm:Bool}(F:∀l,J l->l=i)(G:∀p,¬M p)(u:w.heap[c]?=some (.chan 0 #[] false x x tm))(H:∀l,OO l c=none)(I:∀n b,touchAt t n=some b->b.loc=.obj c->b.kind=.plain->Knows t i n)(B:Z.W0.heap.size<=c)(fn:FuncId)(pos:String):
 cB Z kk OO (λ_=>False) (λp=>p=t.size+1) {w with heap:=w.heap.setIfInBounds c (.chan 0 #[] true x x tm)} (t++MemOp.ofEvents i fn pos (iV c)):=by
 have q:c<w.heap.size:=(zs.1 u).1;have k:(MemOp.ofEvents i fn pos (iV c))[1]?=some {g:=i,fn:=fn,pos:=pos,act:=.close c}:=by rw[mY];rfl
 have f:∀b,(w.heap.setIfInBounds c (.chan 0 #[] true x x tm))[b]?=if b=c then some (.chan 0 #[] true x x tm)else w.heap[b]?:=λb=>by grind
 refine h.uH (λa b=>a=b) (by simp) ⟨⟨.refl _,rfl⟩,λb hb=>by grind⟩ (λb=>?_) (λop d=>(fI d).2.2.2.1 _ q) (λa b e n y _ _ _ K=>by subst e;exact K.app _) (λj b n v h=>⟨j,rfl,h⟩) (λj b s h=>⟨j,rfl,h⟩) (λj b x h=>⟨j,rfl,h,λ_ h=>h⟩) h.jA
  (λsaid=>noRace_append (h.clean said) (λop d=>(fI d).1) λn a r op d b hb u=>?_) (λop d a r C=>?_) (λm op a d r C=>?_) (λn a r C L=>?_)
 . show Kept kk OO w _ b
   unfold Kept;rw[f]
   by_cases z:b=c
   . subst z
     exact .inr (.inl ⟨⟨_,_,_,_,_,_,u⟩,⟨_,_,_,_,_,_,by rw[f,aaB rfl]⟩,H⟩)
   grind
 . obtain⟨D,N⟩:=(fI d).2.2.1 b hb
   obtain⟨P,_,_,Q⟩:=u
   simp_all
 . obtain⟨D,N⟩:=(fI d).2.2.1 a r
   rw[D];exact⟨q,λl o R=>by simp_all⟩
 . refine .inr (.inr (.inl ⟨t.size+1,rfl,?_⟩))
   have A:m=0:=by
    rw[mY]at d
    match m,d with
    |0,_=>rfl
    |1,d=>simp at d;subst d;simp[MemAct.touch?]at r
    |m+2,d=>simp at d
   subst A;exact .inr (hb_po (by omega) (dz (m:=0) d) (dz (m:=1) k) (fI (abd d)).1)
 . rcases L with⟨l,E,O⟩|⟨p,E,_⟩
   . obtain rfl:=F l E
     exact .inr (.inr (.inl ⟨t.size+1,rfl,lU (m:=1) O k rfl⟩))
   simp_all
def Me(hZ:A.b+A.n+1<=Z.lk)(r:A.dir=false)(U:bD (bX P A Fin Z hZ) Z s f q kk OO J M gs w t)(hw:s.c=.jC)(hg:gs[A.cl]?=some g){N:acP}(ht:(su P A).dh (kk A.cl) (OO A.cl) g N)(sl:acS):
 Goes P A Fin Z hZ s gs w t sl A.cl:=by
 have d:de P A Z s kk OO J M gs.size w t:=U.ex;have hb:=A.hb;obtain⟨rfl,g',nq,b1,hs,hq⟩:=ht;have b0:=vK r;obtain⟨x,tm,hF⟩:=d.Ao r;have ad:s.c.eG=false:=by rw[hw];rfl
 rw[ad]at hF;obtain⟨c0,v0,m0,F⟩:=d.I.g8 (by rw[hw];rfl)
 have R:s.sp=A.n/\(s.ms=.recv\/s.ms=.parked):=by
  have:=d.I.ms;cases e:s.ms with
  |recv=>simp_all
  |parked=>simp_all
  |add l=>simp_all
  |bz l p=>simp_all
  |spawn l=>simp_all
  |off=>exact absurd e (d.off.2.2 r)
 have b2:=(zs.1 hg).1;obtain⟨_,_,_,_,_,_,hd,_⟩:=U.live _ (uV (.inl hw));have al:(A.cl==0)=false:=by simp;omega
 have b3:A.cF<w.heap.size:=(zs.1 hF).1;have G:=runT_crowd_go (P:=P) (sl:=sl) (i:=A.cl) hg (by rw[al];exact hs w x x tm (U.cN.sat _) hF)
 obtain⟨w',av⟩:∃w',w'={w with heap:=w.heap.setIfInBounds A.cF (.chan 0 #[] true x x tm)}:=⟨_,rfl⟩
 have hP:=U.cN.shut (i:=A.cl) (c:=A.cF) (x:=x) (tm:=tm) (λl S=>by
  rcases(d.hJ l).1 S with⟨j,B,C,E⟩|⟨B,_⟩
  . rw[F j B]at E;cases E
  . exact B) (λp hp=>by
  obtain⟨_,_,E⟩:=d.hM p hp
  simp_all) hF (λl=>(d.gL l).1 r) (λn b hb S W=>d.quiet n b hb (by rw[S];exact⟨rfl,r⟩) W _ (HM (by grind))) (d.fq.1 r) g.frame.fn g.frame.place
 rw[<-av]at G hP
 change runT P (crowd gs w sl) A.cl=(_,MemOp.ofEvents A.cl g.frame.fn g.frame.place (iV A.cF))at G
 have hu:kL (MemOp.ofEvents A.cl g.frame.fn g.frame.place (iV A.cF)):=λop h=>(fI h).2.1
 have u:∀b,w'.heap[b]?=if b=A.cF then some (.chan 0 #[] true x x tm)else w.heap[b]?:=λb=>by grind
 have b4:g'.status≠.blocked/\g'.status≠.waiting:=by rcases hq.status with h|h<;>rw[h]<;>simp
 have ax:∀o,woken P g g' w' o=o.again w':=λo=>by
  unfold Go.Conc.woken
  simp_all
 have ab:∀i o,gs[i]?=some o->i≠0->i≠A.cl->woken P g g' w' o=o:=λi o ho Q hn=>by
  have nl:¬dE P A s i:=by
   rintro(⟨e,_⟩|⟨l,B,C,E⟩|⟨e,_⟩)
   . exact Q e
   . simp_all
   omega
  have nw:¬gK P A s i:=by
   rintro(⟨e,_⟩|⟨l,B,C,E⟩|⟨e,_⟩)
   . exact Q e
   . simp_all
   omega
  have nh:¬fD P A s i:=by
   rintro(⟨e,_⟩|⟨l,B,C,E⟩)
   . exact Q e
   simp_all
  exact woken_quitsD (U.rest i o ho nl nw nh).2
 have ay:∀i,¬(i=0\/i=A.cl)->((gs.map (woken P g g' w')).setIfInBounds A.cl g')[i]?=gs[i]?:=λi D=>by grind
 have X:((gs.map (woken P g g' w')).setIfInBounds A.cl g')[A.cl]?=some g':=LF (by grind)
 obtain⟨s',v⟩:∃s':MS P,s'={s with c:=.gone,ms:=.recv}:=⟨_,rfl⟩
 have Y:s'.ms=.recv:=by rw[v]
 have H:s'.w=s.w:=by rw[v]
 have K:s'.c=.gone:=by rw[v]
 have a7:MS.rem P A.n s'=MS.rem P A.n s:=xZ λl _=>by rw[H]
 obtain⟨d0,g0,aC,tr,_⟩:Deaf t 0=0/\∃g0,((gs.map (woken P g g' w')).setIfInBounds A.cl g')[0]?=some g0/\∃tr:TT P (rS P A Fin (MS.rem P A.n s).length (MS.rem P A.n s)) (kk 0) (OO 0) g0,True:=by
  rw[aaz (by omega),abG]
  rcases R.2 with hm|hm
  . obtain⟨_,p1,pm,pk,pO,p2,p3,_⟩:=U.live 0 (jh hm)
    have pm:(f 0).m=cq P A Fin s 0:=pm;rw[nY hm]at pm;refine⟨p3,(f 0).g,by rw[p1,aaX,woken_run p2],?_⟩
    rw[<-pm,<-pk,<-pO];exact⟨(f 0).t,trivial⟩
  . obtain⟨_,_,_,p3,gp,p4,_,p5⟩:=U.held 0 (.inl ⟨rfl,hm⟩)
    rcases p5 with⟨_,gm,zm,rfl,p6,p7,p8⟩|⟨l,B,C,_⟩
    . rw[p4]
      refine⟨p3,_,rfl,?_⟩;rw[ax,again_recv_closed (by rw[u,aaB rfl])]
      obtain⟨tr⟩:=T.tree (ye (P:=P) (A:=A) (Fin:=Fin) _ _) (I2 (z:=zm) (sh:=.recv true) p8 p7);exact⟨tr,trivial⟩
    . omega
 have hI:bO A.n s':=by
  rw[v];refine⟨?_,d.I.g2,λh=>(by grind),d.I.g3,d.I.HH,λi D h=>(by grind),⟨d.I.g5.1,λh=>(by grind)⟩,λh=>(by cases h),d.I.g7,λ_=>⟨c0,v0,m0,F⟩,λk h=>(by cases h),d.I.ok,rfl,d.I.sp,d.I.idle,⟨R.1,by simp⟩,λ_ h=>(by cases h),d.I.mu⟩
  have:=d.I.g1;show s.gc=sumTo A.n (λj=>(s.w j).cnt)+oQ.recv.pend
  rcases R.2 with e|e<;>rw[e]at this<;>exact this
 have V:(MemOp.ofEvents A.cl g.frame.fn g.frame.place (iV A.cF))[1]?=some {g:=A.cl,fn:=g.frame.fn,pos:=g.frame.place,act:=.close A.cF}:=by rw[mY];rfl
 have L:(t++MemOp.ofEvents A.cl g.frame.fn g.frame.place (iV A.cF)).act? (t.size+1)=some (.close A.cF)/\(t++MemOp.ofEvents A.cl g.frame.fn g.frame.place (iV A.cF)).heard (t.size+1):=⟨act?_of (dz (m:=1) V),heard_new (m:=1) hu V hd⟩
 have a8:∀i,bS P A s' i->bS P A s i:=λi D=>by
  rcases D with Q|⟨j,B,C⟩|⟨B,C⟩
  . exact .inl Q
  . exact .inr (.inl ⟨j,by grind,C⟩)
  . exact .inr (.inr ⟨B,by grind⟩)
 have a9:∀i,bS P A s i->bS P A s' i:=λi D=>by
  rcases D with Q|⟨j,B,C⟩|⟨B,C⟩
  . exact .inl Q
  . exact .inr (.inl ⟨j,by grind,C⟩)
  . exact .inr (.inr ⟨B,by grind⟩)
 have b5:∀op∈MemOp.ofEvents A.cl g.frame.fn g.frame.place (iV A.cF),∀a,op.act.touch?=some a->a.kind=.atomic:=λop O a ha=>((fI O).2.2.1 a ha).2
 have aE:de P A Z s' kk OO (λ_=>False) (λp=>p=t.size+1) ((gs.map (woken P g g' w')).setIfInBounds A.cl g').size w' (t++MemOp.ofEvents A.cl g.frame.fn g.frame.place (iV A.cF)):=by
  refine⟨hI,?_,by rw[v];exact d.dd,B3 r (by grind),λh=>by simp_all,λ_=>⟨x,tm,by rw[u,aaB rfl,K];rfl⟩,?_,?_,?_,?_,d.gL,d.eD,λi y hy=>?_,λl S aL=>d.zC l S (by grind),λaL=>d.OY λl S=>by grind,λc hc=>?_,λi=>?_,λp hp=>?_,λ_=>⟨t.size+1,rfl,L⟩,λm a ha hs W i D=>d.kr _ (λop O a ha _ W=>by grind) m a ha hs W i (a8 i D),λm a ha hs W=>?_,λi D=>d.qk _ i (a8 i D),d.jE _ (λop O=>(fI O).2.2.2.2),λi aO hn=>d.Dp i aO λh=>hn (a9 i h),d.te,d.jZ,d.fq,d.la,by simp;exact aaG d.n0 (abu _ _)⟩
  . have:=d.size
    rw[hw]at this;rw[K];simp only[abm,Array.size_map,jB.isNone]at this ⊢
    grind
  . rw[show s'.sh=s.sh by rw[v]];exact d.mu.same (.of_heap (by rw[u,aay (za A.d1)]))
  . rw[show s'.gc=s.gc by rw[v],show s'.gv=s.gv by rw[v],show s'.gm=s.gm by rw[v]];exact d.gr.same (.of_heap (by rw[u,aay (za A.d2)]))
  . rw[u,aay (za A.d1)];exact d.vL
  . rw[u,aay (za A.d2)];exact d.zB
  . rw[H];exact d.tok i y hy
  . rw[H];exact d.OZ c hc
  . refine⟨λh=>h.elim,?_⟩
    rintro(⟨j,B,C,E⟩|⟨B,C⟩)
    . rw[H,F j B]at E;cases E
    . rw[K]at C;cases C
  . subst hp
    exact⟨L.2,by have:=d.n0;omega,.inr ⟨K,L.1⟩⟩
  . have Q:=d.oR _ (λop O a ha _ W=>by grind) m a ha hs W
    rw[hw]at Q;rw[K];exact Q
 have hL:MS.gq A.n s' s:=by
  refine .inl ?_;rw[v];show oQ.recv.cx+sumTo A.n (λi=>(s.w i).cx)+jB.gone.cx s.gc<s.ms.cx+sumTo A.n (λi=>(s.w i).cx)+s.c.cx s.gc
  rw[hw];have e2:oQ.recv.cx=100:=rfl;have e3:jB.gone.cx s.gc=0:=rfl;have e4:jB.jC.cx s.gc=3:=rfl;have e5:99<=s.ms.cx:=by rcases R.2 with e|e<;>rw[e]<;>simp[oQ.cx]
  omega
 have hS:im A s s' (λi=>i=0\/i=A.cl):=⟨λl _ S=>by rw[H],λh=>absurd (.inr rfl) h,λh=>absurd (.inl rfl) h,by rw[v],by rw[v]⟩
 refine⟨_,_,G,s',bR f 0 ⟨_,_,_,_,tr⟩,upd q A.cl nq,kk,OO,λ_=>False,(λp=>p=t.size+1),_,_,_,rfl,hL,?_⟩
 refine U.I0 hu hP aE (by simp) (λi=>i=0\/i=A.cl) ay (lF hZ hS (λi D=>az _ _ (λe=>D (.inl e))) (λi D=>upd_ne q nq (λe=>D (.inr e))) (λ_ _ _=>rfl) (λ_ _ _=>rfl) (λi D S _=>?_)) (λi D=>?_)
 . rcases S with⟨e,_⟩|⟨l,B,C,E⟩|⟨e,_⟩
   . omega
   . grind
   omega
 . rcases D with rfl|rfl
   . refine⟨g0,aC,λ_=>?_,λh=>absurd h (tF r (.inl Y)),λh=>absurd h (mW (by grind)),λh=>absurd (jh Y) h⟩
     rw[au];refine⟨by omega,rfl,?_,rfl,rfl,tr.running,by rw[cj hu];exact d0,.inl rfl,DL⟩
     show rS P A Fin _ _=cq P A Fin s' 0;rw[nY Y,a7]
   . refine⟨g',X,λh=>absurd h ?_,λh=>absurd h ?_,λh=>absurd h (qZ (B3 r (by grind))),λ_ _ _=>⟨by omega,by rw[upd_same,cj hu,hd];exact hq⟩⟩
     . rintro(⟨e,_⟩|⟨l,B,C,E⟩|⟨_,E⟩)
       . omega
       . omega
       grind
     . rintro(⟨e,_⟩|⟨l,B,C,E⟩|⟨_,E⟩)
       . omega
       . omega
       grind
end
section
variable{P:adS}{A:bH}{Fin:acP}{Z:Base}{s s':MS P}{f f':Nat->Node P}{q q':adI}{kk kk':adN}{OO OO':adM}{J J' M M':adC}{gs gs':acX}{w w':World}{t u:Trace}{j:Nat}{g g₂:adF}{z v:Value}
def tJ{w:World}{b i:Nat}{c:adq}{e:TypeId}{v:Value}(h:w.heap[b]?=some (.cells c e (0,0)))(a:w.cell? ⟨b,i,none⟩=some v):c[i]?=some v:=by simpa[World.cell?,h]using a
def DO{w:World}{b:Nat}{c:adq}{e:TypeId}(h:w.heap[b]?=some (.cells c e (0,0))):w.shape? b=some (e,c.size):=by simp[World.shape?,h]
def Mf(h:∀i,∃O,Sat (kk i) O w):∃K:aj,(∀b n v,K.cell b n=some v->∃i,(kk i).cell b n=some v)/\(∀b s,K.sh b=some s->∃i,(kk i).sh b=some s)/\∀i,(kk i).Le K:=by
 classical
 refine⟨⟨λb n=>if e:∃v,∃i,(kk i).cell b n=some v then some e.choose else none,λb=>if e:∃s,∃i,(kk i).sh b=some s then some e.choose else none⟩,λb n v a=>?_,λb s c=>?_,λi=>⟨λb n v a=>?_,λb s c=>?_⟩⟩
 . simp only at a
   split at a
   . grind
   . cases a
 . simp only at c
   split at c
   . grind
   . cases c
 . have e:∃v,∃i,(kk i).cell b n=some v:=⟨v,i,a⟩
   show dite _ _ _=_;rw[dif_pos e];obtain⟨l,d⟩:=e.choose_spec;obtain⟨_,f⟩:=h i;obtain⟨_,g⟩:=h l;have:=g.cell b n _ d;rw[f.cell b n v a]at this
   simp_all
 . have e:∃s,∃i,(kk i).sh b=some s:=⟨s,i,c⟩
   show dite _ _ _=_;rw[dif_pos e];obtain⟨l,d⟩:=e.choose_spec;obtain⟨_,f⟩:=h i;obtain⟨_,g⟩:=h l;have:=g.sh b _ d;rw[f.sh b s c]at this
   simp_all
def HT(hZ:A.b+A.n+1<=Z.lk)(z:bD (bX P A Fin Z hZ) Z s f q kk OO J M gs w t)(B:∀j,j<A.n->s.w j=.gone)(b5:s.c=.gone\/A.cl=0)(hu:kL u)(a8:∀op∈u,op.act.touch?=none)(R:∀op∈u,op.act.low w.heap.size)(d0:Deaf t 0=0)
 (S:∀i,J i->i=0) (a9:∀p n,M p->Before t n p->Knows (t++u) 0 n) (ab:gs'[0]?=some g) (al:∀i,i≠0->gs'[i]?=gs[i]?) (b6:gs'.size=gs.size) (H:∃e,(kk 0).sh A.fb=some e):
 ∃K x a,(∀i,(kk i).Le K)/\kK K x a/\A.GI a/\dO P Z.W0 K (((OO 0).set A.mb x).set A.fb (.part (bE A.fo))) g gs' w (t++u):=by
 have G:de P A Z s kk OO J M gs.size w t:=z.ex;have hb:=A.hb;have C:(0:Nat)≠Z.lk:=by omega
 obtain⟨es,H⟩:=H;obtain⟨K,b7,b8,D⟩:=Mf λi=>⟨_,z.cN.sat i⟩
 have E:∀n a,touchAt t n=some a->a.loc.isMemory=true -> ¬Z.Shun a.loc->Knows (t++u) 0 n:=λn a O hm hz=>by
  rcases z.cN.acc n a O hm with h|⟨j,hj,h⟩|⟨p,hp,h⟩|⟨h,_⟩
  . exact h.app u
  . rw[S j hj]at h;exact h.app u
  . grind
  simp_all
 obtain⟨x,a,hx,av,ax⟩:=G.OY λj hj=>by rw[B j hj];rfl
 have T:∀i,OO i A.fb=none:=λi=>by
  cases e:OO i A.fb with
  |none=>rfl
  |some y=>obtain⟨j,_,r,_,k,_⟩:=G.tok i y e;rw[B j r]at k;cases k
 have ay:cB Z (bR kk 0 K) (bR (bR OO 0 ((OO 0).set A.mb x)) Z.lk ak.bot) (λ_=>False) (λ_=>False) w (t++u):=by
  have L:∀j b y,bR (bR OO 0 ((OO 0).set A.mb x)) Z.lk ak.bot j b=some y->(j≠Z.lk/\OO j b=some y/\¬(j=0/\b=A.mb))\/(j=0/\b=A.mb/\y=x):=λj b y d=>by
   by_cases e:j=Z.lk
   . subst e;rw[au]at d;cases d
   . rw [az _ _ e]at d
     by_cases U:j=0
     . subst U
       rw[au]at d
       by_cases eb:b=A.mb
       . subst eb
         simp only[ak.set,aaA,kn]at d
         simp_all
       . simp only[ak.set,aay eb]at d
         simp_all
     . rw[az _ _ U]at d
       simp_all
  refine z.cN.uH (λa b=>a=b\/b=0) rfl ⟨⟨.refl _,rfl⟩,λ_ _=>rfl⟩ (λb=>.inl rfl) R (λi j e n y d V hz aC=>?_) (λj b n v F=>?_) (λj b s F=>?_) (λj b y d=>?_) (λi j b y aE d=>?_)
   (λsaid=>noRace_appendMute (z.cN.clean said) a8) (λop W a O=>by simp_all) (λm op a W O=>by grind) (λn a O V h=>?_)
  . rcases e with rfl|rfl
    . exact aC.app u
    . exact(oH C).2 (E n y d V hz)
  . by_cases e:j=0
    . subst e
      rw[au]at F
      simp_all
    . rw[az _ _ e]at F;simp_all
  . by_cases e:j=0
    . subst e
      rw[au]at F
      simp_all
    . rw[az _ _ e]at F;simp_all
  . rcases L j b y d with⟨r,k,h3⟩|⟨rfl,rfl,rfl⟩
    . refine⟨j,.inl rfl,k,λs hs=>?_⟩
      by_cases e:j=0
      . subst e;rw[au];exact(D 0).sh b s hs
      . rw[az _ _ e];exact hs
    . exact⟨Z.lk,.inr rfl,hx,λs hs=>by rw[au];exact(D _).sh _ s hs⟩
  . cases q:bR (bR OO 0 ((OO 0).set A.mb x)) Z.lk ak.bot j b with
    |none=>rfl
    | some y'=>
      rcases L i b y d with⟨r,k,h3⟩|⟨rfl,rfl,rfl⟩
      . rcases L j b y' q with⟨k1,k2,k3⟩|⟨rfl,rfl,rfl⟩
        . have:=z.cN.jA i j b y aE k
          simp_all
        . have:=z.cN.jA i Z.lk _ y r k
          simp_all
      . rcases L j A.mb y' q with⟨k1,k2,k3⟩|⟨rfl,_,_⟩
        . have:=z.cN.jA j Z.lk _ y' k1 k2
          simp_all
        omega
  . rcases h with⟨j,r,k⟩|⟨p,r,k⟩
    . rw[S j r]at k;exact .inl (k.app u)
    . exact .inl (a9 p n r k)
 obtain⟨aL,aO⟩:=G.I.mu.rest λi hi=>by rw[B i hi];rfl
 obtain⟨X,ce,o⟩:=G.vL
 have Y:es=(ce,X.size):=by
  have:=(z.cN.sat 0).sh _ _ H;rw[DO o]at this
  simp_all
 have b9:X[A.fo]?=some (.int .i32 0):=by have:=G.mu.cw;rw[aL]at this;exact tJ o this
 have bm:X[A.fo+1]?=some (.int .u32 0):=by have:=G.mu.cs;rw[aO]at this;exact tJ o this
 have a7:∀n v,bE A.fo n=some v->(n=A.fo\/n=A.fo+1)/\X[n]?=some v:=λn v F=>by
  unfold bE at F
  grind
 have b0:∀n,bE A.fo n≠none->(n=A.fo\/n=A.fo+1):=λn hn=>by
  cases e:bE A.fo n with
  |none=>simp_all
  |some v=>simp_all
 have N:∀i n,(n=A.fo\/n=A.fo+1)->(bR kk 0 K i).cell A.fb n=none:=λi n hn=>by
  have hk:∀l,(kk l).cell A.fb n=none:=λl=>by rcases hn with h|h<;>rw[h]<;>first|exact(G.eD l).1|exact(G.eD l).2.1
  cases e:(bR kk 0 K i).cell A.fb n with
  |none=>rfl
  | some v=>
    by_cases ei:i=0
    . subst ei
      rw[au]at e
      grind
    . rw[az _ _ ei,hk]at e;cases e
 have b1:∀Q:Addr,Q.block=A.fb->bE A.fo Q.off≠none -> ¬Z.Shun (.cell Q):=λQ r k=>G.jZ Q ⟨r,(b0 _ k).imp id .inl⟩
 have b2:=ay.Ui C (b:=A.fb) (f:=bE A.fo) (λi=>?_) (λn v F i=>N i n (a7 n v F).1) b1 ⟨X,ce,o,?_,λn v F=>(a7 n v F).2⟩ (λm a Q O hl bw hf=>?_) G.fq.2.1
 . have b3:∀i,0<i -> ¬dE P A s i/\¬gK P A s i/\¬fD P A s i:=λi hi=>by
    refine⟨?_,?_,?_⟩
    . rintro(⟨h,_⟩|⟨a,a1,a2,a3⟩|⟨h,a3⟩)
      . omega
      . grind
      grind
    . rintro(⟨h,_⟩|⟨a,a1,a2,a3⟩|⟨h,a3⟩)
      . omega
      . grind
      grind
    . rintro(⟨h,_⟩|⟨a,a1,a2,a3⟩)
      . omega
      grind
   have hS:=b2.finish (P:=P) (gs:=gs') (g:=g) (q:=q) ab ⟨λi y hi d=>by
    rw[al i (by omega)]at d
    rw[cj hu];obtain⟨n1,n2,n3⟩:=b3 i hi;exact(z.rest i y d n1 n2 n3).2,λj hj=>by rw[cj hu];exact z.above j (by omega)⟩ (by rw[cj hu];exact d0)
   rw[au,au,az _ _ C,au]at hS;exact⟨K,x,a,D,av.mono (D _),ax,hS⟩
 . by_cases e:i=Z.lk
   . subst e;rw[au];rfl
   . rw[az _ _ e]
     by_cases U:i=0
     . subst U;rw[au];simp only[ak.set,aay A.d5];exact T 0
     . rw[az _ _ U];exact T i
 . rw[au,<-Y];exact(D 0).sh _ _ H
 . have b4:touchAt t m=some a:=by
    rcases dV O with⟨r,_⟩|⟨op,W,r⟩
    . exact r
    grind
   exact E m a b4 (by rw[hl];rfl) (by grind)
def Sa(F:A.b+A.n+1<=Z.lk)(r:A.dir=false)(v:bD (bX P A Fin Z F) Z s f q kk OO J M gs w t)(hm:s.ms=.recv)(D:s.c=.gone)(V:gs[0]?=some g){N:acP}(W:(rS P A Fin (MS.rem P A.n s).length (MS.rem P A.n s)).dh (kk 0) (OO 0) g N)(sl:acS):
 ∃ops X,runT P (crowd gs w sl) 0=(.next X,ops)/\∃gs' w' G k' O' g',X=crowd gs' w' G/\dO P Z.W0 k' O' g' gs' w' (t++ops)/\Fin k' O' g':=by
 have E:de P A Z s kk OO J M gs.size w t:=v.ex;obtain⟨c0,v0,m0,d⟩:=E.I.g8 (by rw[D];rfl);obtain⟨xs,tm,H⟩:=E.Ao r;rw[show s.c.eG=true by rw[D];rfl]at H
 have B:MS.rem P A.n s=[]:=by
  cases hr:MS.rem P A.n s with
  |nil=>rfl
  | cons a l=>
    have:a∈MS.rem P A.n s:=by grind
    obtain⟨L,Y⟩:=tD.1 this;rw[d a L]at Y;cases Y
 rw[B]at W;obtain⟨_,g₂,z,L,_,e3,O,e4⟩:=W;have Q:=(zs.1 V).1;obtain⟨_,_,_,_,_,_,d0,_⟩:=v.live _ (jh hm);have C:=crowd_recv_closed (P:=P) (sl:=sl) V (show stepG P (0==0) g w=_ from L w (v.cN.sat 0)) H (oY λi x _ hx=>vP F v hx (λj h1 h2 h3=>by simp_all) _);rw[fQ]at C;obtain⟨u,a7⟩:∃u:Trace,u=#[{g:=0,fn:=g₂.frame.fn,pos:=g₂.frame.place,act:=.recvClosed A.cF}]:=⟨_,rfl⟩;have k:runT P (crowd gs w sl) 0=(.next (crowd (gs.setIfInBounds 0 (g₂.finishComm P #[rcase A.cF z] (.recv true) 0 z false)) w sl),u):=by simp_all
 have R:A.cF<w.heap.size:=(zs.1 H).1;have e:∀op∈u,op={g:=0,fn:=g₂.frame.fn,pos:=g₂.frame.place,act:=.recvClosed A.cF}:=λop h=>by simp_all
 have hu:kL u:=λop h=>by simp_all
 have S:u[0]?=some {g:=0,fn:=g₂.frame.fn,pos:=g₂.frame.place,act:=.recvClosed A.cF}:=by grind
 obtain⟨K,x,a,h1,h2,h3,hS⟩:=HT (gs':=gs.setIfInBounds 0 (g₂.finishComm P #[rcase A.cF z] (.recv true) 0 z false)) F v d (.inl D) hu (λop h=>by rw[e op h];rfl) (λop h=>by rw[e op h];exact R) d0 (λi T=>by
  rcases(E.hJ i).1 T with⟨a,U,a2,o⟩|⟨_,o⟩
  . rw[d a U]at o;cases o
  . rw[D]at o;cases o) (λp n hp hk=>by
  obtain⟨U,_,o⟩:=E.hM p hp;rcases o with⟨_,a4⟩|⟨_,a4⟩
  . simp_all
  . exact BH (t:=t) hu (m:=0) (y:={g:=0,fn:=g₂.frame.fn,pos:=g₂.frame.place,act:=.recvClosed A.cF}) S a4 U rfl d0 hk) (LF Q) (λi T=>aaz (za T)) (by simp) O
 exact⟨u,_,k,_,w,sl,_,_,_,rfl,hS,e4 _ x a (h1 0) h2 h3⟩
end
def tK(n:Nat)(f1 a:FuncId)(b c:String):Trace:=#[{g:=0,fn:=f1,pos:=b,act:=.go n},{g:=n,fn:=a,pos:=c,act:=.start}]
def gi{n:Nat}{f1 b:FuncId}{c d:String}{op:MemOp}(h:op∈tK n f1 b c d):op.act.touch?=none/\(op.act≠.mark .disable/\op.act≠.mark .enable)/\(∀B,op.act.low B)/\∀a,op.act≠.mark (.release a):=by
 simp only[tK,List.mem_toArray,aaQ,abR,or_false]at h;rcases h with rfl|rfl<;>exact⟨rfl,⟨by simp,by simp⟩,λB=>trivial,by simp⟩
def bot_join(k:aj):aj.bot.join k=k:=rfl
section
variable{P:adS}{A:bH}{Fin:acP}{Z:Base}{s s':MS P}{f f':Nat->Node P}{q q':adI}{kk kk':adN}{OO OO':adM}{J J' M M':adC}{gs gs':acX}{w w':World}{t u:Trace}{j m:Nat}{g g' g₂ child:adF}{z v:Value}
def yg{gs:acX}{g' child:adF}(a:0<gs.size):(∀i,i≠0->i≠gs.size->((gs.setIfInBounds 0 g').push child)[i]?=gs[i]?)/\((gs.setIfInBounds 0 g').push child)[0]?=some g'/\((gs.setIfInBounds 0 g').push child)[gs.size]?=some child:=by grind
def As{gs:acX}(b:gs[0]?=some g)(c:stepG P true g w=.spawn g' child w #[])(sl:acS):
 runT P (crowd gs w sl) 0=(.next (crowd ((gs.setIfInBounds 0 g').push child) w sl),tK gs.size g.frame.fn child.frame.fn g.frame.place g.frame.place):=by
 have a:=runT_crowd_spawn (P:=P) (sl:=sl) (i:=0) b (show stepG P (0==0) g w=_ from c);rw[fQ]at a;exact a
def DQ(m:Nat):(pH P A Fin m).solo=false:=by
 cases m with
 |zero=>unfold pH;grind
 |succ m=>rfl
def qt(e:s.ms=.add m):dE P A s 0:=.inl ⟨rfl,by simp_all⟩
def yh(e:s.ms=.spawn m):dE P A s 0:=.inl ⟨rfl,by simp_all⟩
def Au(a:s.c=.none)(e:s.ms=.add m):¬gK P A s 0:=by
 have:=A.hb;rintro(⟨_,h⟩|⟨l,b,d,f⟩|⟨_,h⟩)
 . simp_all
 . omega
 simp_all
def DR(e:s.ms=.add m):cq P A Fin s 0=pH P A Fin m:=by
 unfold cq
 simp_all
def I3(hZ:A.b+A.n+1<=Z.lk)(K:bD (bX P A Fin Z hZ) Z s f q kk OO J M gs w t)(Y:s.ms=.spawn m)(hg:gs[0]?=some g){N:acP}(ht:(FN P A Fin m).dh (kk 0) (OO 0) g N)(sl:acS):
 Goes P A Fin Z hZ s gs w t sl 0:=by
 have F:de P A Z s kk OO J M gs.size w t:=K.ex;have hb:=A.hb;obtain⟨rfl,g',child,hs,L,a7⟩:=ht;have O:=F.I.ms;rw[Y]at O;obtain⟨aL,D⟩:=O;have o:gs.size=A.b+s.sp:=by have:=F.size;rw[D]at this;simpa[jB.isNone]using this
 have u:s.sp<A.n:=by omega
 have hj:A.n-(m+1)=s.sp:=by omega
 rw[hj]at L;obtain⟨Q⟩:=T.tree (P:=P) (m:=iE P A s.sp) rfl L;obtain⟨R⟩:=T.tree (DQ (P:=P) (A:=A) (Fin:=Fin) m) a7;have a8:=(zs.1 hg).1;obtain⟨_,_,_,_,_,_,d0,_⟩:=K.live _ (yh Y);have dn:Deaf t gs.size=0:=K.above _ (aaE _);have S:=As (sl:=sl) hg (hs w (K.cN.sat 0));have hu:kL (tK gs.size g.frame.fn child.frame.fn g.frame.place g.frame.place):=λop h=>(gi h).2.1
 have a9:∀n,Knows t 0 n->Knows (t++tK gs.size g.frame.fn child.frame.fn g.frame.place g.frame.place) gs.size n:=λn hn=>vI (t:=t) (c:=0) hu (m1:=0) (m2:=1) (x:={g:=0,fn:=g.frame.fn,pos:=g.frame.place,act:=.go gs.size}) (y:={g:=gs.size,fn:=child.frame.fn,pos:=g.frame.place,act:=.start}) rfl rfl rfl rfl d0 dn hn
 have k:s.w s.sp=.idle:=by have:=(F.I.idle s.sp u).2 (aaE _);cases e:s.w s.sp<;>rw[e]at this<;>first|rfl|cases this
 have ab:¬bS P A s gs.size:=by
  rintro(h|⟨l,z,B⟩|⟨z,B⟩)
  . omega
  . omega
  omega
 obtain⟨fk,fO⟩:=F.Dp gs.size (by omega) ab
 obtain⟨X,hX⟩:∃X:Node P,X=⟨iE P A s.sp,kk 0,ak.bot,child,Q⟩:=⟨_,rfl⟩;obtain⟨s',d⟩:∃s',s'=s.kQ s.sp (.run false X) (.add m) (s.sp+1):=⟨_,rfl⟩;have r:s'.w s.sp=.run false X:=by rw[d,fE]
 have U:∀{l:Nat},l≠s.sp->s'.w l=s.w l:=λh=>by rw[d,jG h]
 have C:s'.c=s.c:=by rw[d];rfl
 have H:s'.ms=.add m:=by rw[d];rfl
 have V:s'.sp=s.sp+1:=by rw[d];rfl
 have hI:bO A.n s':=by rw[d];refine F.I.kQ u (by rw[k,Y];rfl) (by rw[k];rfl) rfl (by simp_all) rfl (by rw[k];rfl) rfl (.inr ⟨rfl,rfl⟩) (λh=>by cases h) ⟨by omega,D⟩
 have W:∀l,J l->dZ P A s' l:=λl hl=>by
  rcases(F.hJ l).1 hl with⟨a,z,B,h3⟩|⟨z,B⟩
  . refine .inl ⟨a,z,B,?_⟩
    by_cases e:a=s.sp
    . subst e;rw[r];rfl
    simp_all
  . exact .inr ⟨z,by simp_all⟩
 have hP:=K.cN.hand (J':=dZ P A s') (M':=M) (w':=w) (src:=0) (dst:=gs.size) (by omega) (by omega) a9 (λop h=>(gi h).1) (λop h=>(gi h).2.2.1 _) rfl ⟨⟨.refl _,rfl⟩,λ_ _=>rfl⟩ (λb=>.inl rfl) (λn a ha aO h=>h.elim (λ⟨j,z,B⟩=>.inr (.inl ⟨j,W j z,B.app _⟩)) (λ⟨p,z,B⟩=>.inr (.inr (.inl ⟨p,z,B.app _⟩))))
 rw[fk,bot_join]at hP;obtain⟨ad,al,av⟩:=yg (g':=g') (child:=child) a8
 have ax:de P A Z s' (bR kk gs.size (kk 0)) OO (dZ P A s') M ((gs.setIfInBounds 0 g').push child).size w (t++tK gs.size g.frame.fn child.frame.fn g.frame.place g.frame.place):=by
  refine F.chan hI ⟨λ_ h=>absurd (C.trans D) h,λ_=>by simp_all,λ_=>by simp_all⟩ (by rw[d];rfl) (λ_ l _=>?_) (by rw[Array.size_push,abm,V,C,D];simp[jB.isNone];omega) (by rw[C];exact F.Ao) (λ_ _=>rfl) (by rw[d];rfl) (by rw[d];rfl) (by rw[d];rfl) (by rw[d];rfl) (λl _=>?_) (λi b n v h=>?_) (az _ _ (by omega)) (λi=>aaR) (.inl C) (λop h=>⟨(gi h).1,(gi h).2.2.2⟩) (λi E=>?_) (λi ay hn=>?_)
  . by_cases e:l=s.sp
    . subst e;rw[r,k];exact .inr ⟨rfl,rfl⟩
    . rw[U e];exact .inl ⟨rfl,az _ _ (by omega)⟩
  . by_cases e:l=s.sp
    . subst e;rw[r,k];rfl
    grind
  . by_cases e:i=gs.size
    . subst e;rw[au]at h;grind
    . rw[az _ _ e]at h;grind
  . rcases E with h0|⟨l,z,B⟩|⟨z,B⟩
    . exact .inl (.inl h0)
    . rw[V]at z
      by_cases e:l=s.sp
      . simp_all
      . exact .inl (.inr (.inl ⟨l,by omega,B⟩))
    simp_all
  . have aC:¬bS P A s i:=λh=>hn (by
     rcases h with h0|⟨l,z,B⟩|⟨z,B⟩
     . exact .inl h0
     . exact .inr (.inl ⟨l,by omega,B⟩)
     simp_all)
    have G:i≠gs.size:=λe=>hn (.inr (.inl ⟨s.sp,by omega,by omega⟩))
    rw[az _ _ G];exact F.Dp i ay aC
 have hL:MS.gq A.n s' s:=by rw[d];refine uZ u ?_;rw[k,Y];have e1:(bn.run (P:=P) false X).cx=20:=rfl;have e2:(oQ.add m).cx=40*m+200:=rfl;have e3:(oQ.spawn m).cx=40*m+225:=rfl;omega
 have hS:im A s s' (λi=>i=0\/i=gs.size):=⟨λl _ hl=>U (λe=>hl (.inr (by omega))),λ_=>C,λh=>absurd (.inl rfl) h,by rw[d];rfl,by rw[d];rfl⟩
 refine⟨_,_,S,s',bR (bR f 0 ⟨_,_,_,_,R⟩) gs.size X,q,bR kk gs.size (kk 0),OO,dZ P A s',M,_,_,_,rfl,hL,?_⟩;refine K.I0 hu hP ax (by simp) (λi=>i=0\/i=gs.size) (λi E=>ad i (λe=>E (.inl e)) (λe=>E (.inr e))) (lF hZ hS (λi E=>by rw[az _ _ (λe=>E (.inr e)),az _ _ (λe=>E (.inl e))]) (λ_ _=>rfl) (λi E _=>az _ _ (λe=>E (.inr e))) (λ_ _ _=>rfl) (λl _ _ h=>W l h)) (λi E=>?_)
 rcases E with rfl|rfl
 . refine⟨g',al,λ_=>?_,λh=>absurd h (Au (C.trans D) H),λh=>absurd h (mW (by simp_all)),λh=>absurd (qt H) h⟩
   have G:(0:Nat)≠gs.size:=by omega
   rw[az _ _ G,au,az _ _ G];refine⟨by omega,rfl,?_,rfl,rfl,R.running,by rw[cj hu];exact d0,.inl rfl,DL⟩
   show pH P A Fin m=cq P A Fin s' 0;rw[DR H]
 . have aE:dE P A s' gs.size:=by rw[o];exact kz u r
   refine⟨child,av,λ_=>?_,λh=>absurd h (by rw[o];exact uT u r),λh=>absurd h (by rw[o];exact j7 u r),λh=>absurd aE h⟩
   rw[au,au,hX];refine⟨by show gs.size<A.b+A.n+1;omega,rfl,?_,rfl,fO.symm,Q.running,by rw[cj hu];exact dn,.inr (.inl ⟨s.sp,u,o,by rw[r];rfl⟩),λl h X' z B h3=>?_⟩
   . show iE P A s.sp=cq P A Fin s' gs.size
     rw[o,nX u r]
   . obtain rfl:l=s.sp:=by omega
     rw[r]at h3;cases h3;rw[hX];exact vM.refl _
def I4(hZ:A.b+A.n+1<=Z.lk)(r:A.dir=false)(O:bD (bX P A Fin Z hZ) Z s f q kk OO J M gs w t)(R:s.ms=.add 0)(hg:gs[0]?=some g){N:acP}(ht:(pH P A Fin 0).dh (kk 0) (OO 0) g N)(sl:acS):
 Goes P A Fin Z hZ s gs w t sl 0:=by
 have u:de P A Z s kk OO J M gs.size w t:=O.ex;have hb:=A.hb;have D:=vK r;unfold pH at ht;rw[aay (by simp_all)]at ht
 obtain⟨rfl,g',child,hs,a8,a9⟩:=ht;have S:=u.I.ms;rw[R]at S;obtain⟨G,B⟩:=S;have G:s.sp=A.n:=by omega
 have d:gs.size=A.b+A.n:=by have:=u.size;rw[B,G]at this;simpa[jB.isNone]using this
 obtain⟨U⟩:=T.tree (P:=P) (m:=xV P A) rfl a8;obtain⟨V⟩:=T.tree (ye (P:=P) (A:=A) (Fin:=Fin) _ _) a9;have ab:=(zs.1 hg).1;obtain⟨_,_,_,_,_,_,d0,_⟩:=O.live _ (qt R);have dn:Deaf t gs.size=0:=O.above _ (aaE _);have W:=As (sl:=sl) hg (hs w (O.cN.sat 0));have hu:kL (tK gs.size g.frame.fn child.frame.fn g.frame.place g.frame.place):=λop h=>(gi h).2.1
 have ad:∀n,Knows t 0 n->Knows (t++tK gs.size g.frame.fn child.frame.fn g.frame.place g.frame.place) gs.size n:=λn hn=>vI (t:=t) (c:=0) hu (m1:=0) (m2:=1) (x:={g:=0,fn:=g.frame.fn,pos:=g.frame.place,act:=.go gs.size}) (y:={g:=gs.size,fn:=child.frame.fn,pos:=g.frame.place,act:=.start}) rfl rfl rfl rfl d0 dn hn
 have al:¬bS P A s gs.size:=by
  rintro(h|⟨l,F,z⟩|⟨F,z⟩)
  . omega
  . omega
  simp_all
 obtain⟨fk,fO⟩:=u.Dp gs.size (by omega) al
 obtain⟨s',o⟩:∃s':MS P,s'={s with ms:=.recv,c:=.eC}:=⟨_,rfl⟩
 have K:s'.w=s.w:=by rw[o]
 have C:s'.c=.eC:=by rw[o]
 have L:s'.ms=.recv:=by rw[o]
 have av:s'.sp=s.sp:=by rw[o]
 obtain⟨v0,m0,Q⟩:=u.I.calm (by rw[B];rfl)
 have hI:bO A.n s':=by
  rw[o];refine⟨?_,u.I.g2,λh=>(by simp_all),u.I.g3,u.I.HH,λi E h=>?_,⟨u.I.g5.1,λh=>(by simp_all)⟩,λh=>(by cases h),u.I.g7,λh=>(by cases h),λk h=>(by cases h),u.I.ok,rfl,u.I.sp,u.I.idle,⟨G,by simp⟩,λ_ h=>(by cases h),u.I.mu⟩
  . have:=u.I.g1
    rw[R]at this;exact this
  . have h:s.w i=.dn .d7:=h
    have:=Q i E;rw[h]at this;cases this
 have X:∀l,J l->dZ P A s' l:=λl Q=>by
  rcases(u.hJ l).1 Q with⟨a,F,z,h3⟩|⟨F,z⟩
  . exact .inl ⟨a,F,z,by simp_all⟩
  . rw[B]at z;cases z
 have hP:=O.cN.hand (J':=dZ P A s') (M':=M) (w':=w) (src:=0) (dst:=gs.size) (by omega) (by omega) ad (λop h=>(gi h).1) (λop h=>(gi h).2.2.1 _) rfl ⟨⟨.refl _,rfl⟩,λ_ _=>rfl⟩ (λb=>.inl rfl) (λn a ha b1 h=>h.elim (λ⟨j,F,z⟩=>.inr (.inl ⟨j,X j F,z.app _⟩)) (λ⟨p,F,z⟩=>.inr (.inr (.inl ⟨p,F,z.app _⟩))))
 rw[fk,bot_join]at hP;obtain⟨ax,ay,aC⟩:=yg (g':=g') (child:=child) ab;have Y:=u.Ao;rw[B]at Y
 have aE:de P A Z s' (bR kk gs.size (kk 0)) OO (dZ P A s') M ((gs.setIfInBounds 0 g').push child).size w (t++tK gs.size g.frame.fn child.frame.fn g.frame.place g.frame.place):=by
  refine u.chan hI (B3 r (by simp_all)) (by rw[o]) (λh=>by simp_all) (by rw[Array.size_push,abm,av,C,d,G,r];rfl) (by rw[C];exact Y) (λ_ _=>rfl) (by rw[o]) (by rw[o]) (by rw[o]) (by rw[o]) (λl _=>by rw[K]) (λi b n v h=>?_) (az _ _ (by omega)) (λi=>aaR) (.inr ⟨B,.inl C,λm R=>by simp_all⟩) (λop h=>⟨(gi h).1,(gi h).2.2.2⟩) (λi E=>?_) (λi aL hn=>?_)
  . by_cases e:i=gs.size
    . subst e;rw[au]at h;grind
    . rw[az _ _ e]at h;grind
  . rcases E with h0|⟨l,F,z⟩|⟨F,z⟩
    . exact .inl (.inl h0)
    . exact .inl (.inr (.inl ⟨l,by omega,z⟩))
    simp_all
  . have aO:¬bS P A s i:=λh=>hn (by
     rcases h with h0|⟨l,F,z⟩|⟨F,z⟩
     . exact .inl h0
     . exact .inr (.inl ⟨l,by omega,z⟩)
     simp_all)
    have H:i≠gs.size:=λe=>hn (.inr (.inr ⟨by omega,by simp_all⟩))
    rw[az _ _ H];exact u.Dp i aL aO
 have hL:MS.gq A.n s' s:=by
  refine .inl ?_;rw[o];show oQ.recv.cx+sumTo A.n (λi=>(s.w i).cx)+jB.eC.cx s.gc<s.ms.cx+sumTo A.n (λi=>(s.w i).cx)+s.c.cx s.gc
  rw[B,R];have e2:oQ.recv.cx=100:=rfl;have e3:jB.eC.cx s.gc=14:=rfl;have e4:jB.none.cx s.gc=0:=rfl;have e5:(oQ.add 0).cx=200:=rfl;omega
 have a7:MS.rem P A.n s'=List.range A.n:=by unfold MS.rem;rw[K];exact List.filter_eq_self.2 λl Q=>by rw[u.I.early (u.dd.trans r) B l (aax.1 Q)];rfl
 have hS:im A s s' (λi=>i=0\/i=gs.size):=⟨λl _ Q=>by rw[K],λh=>absurd (.inr (by omega)) h,λh=>absurd (.inl rfl) h,by rw[o],by rw[o]⟩
 refine⟨_,_,W,s',bR (bR f 0 ⟨_,_,_,_,V⟩) gs.size ⟨_,_,_,_,U⟩,q,bR kk gs.size (kk 0),OO,dZ P A s',M,_,_,_,rfl,hL,?_⟩;refine O.I0 hu hP aE (by simp) (λi=>i=0\/i=gs.size) (λi E=>ax i (λe=>E (.inl e)) (λe=>E (.inr e))) (lF hZ hS (λi E=>by rw[az _ _ (λe=>E (.inr e)),az _ _ (λe=>E (.inl e))]) (λ_ _=>rfl) (λi E _=>az _ _ (λe=>E (.inr e))) (λ_ _ _=>rfl) (λl _ _ h=>X l h)) (λi E=>?_)
 rcases E with rfl|rfl
 . refine⟨g',ay,λ_=>?_,λh=>absurd h (tF r (.inl L)),λh=>absurd h (mW (by simp_all)),λh=>absurd (jh L) h⟩
   have H:(0:Nat)≠gs.size:=by omega
   rw[az _ _ H,au,az _ _ H];refine⟨by omega,rfl,?_,rfl,rfl,V.running,by rw[cj hu];exact d0,.inl rfl,DL⟩
   show rS P A Fin _ _=cq P A Fin s' 0;rw[nY L,a7,acj]
 . have b0:dE P A s' gs.size:=by rw[d,<-D];exact uV (.inr C)
   refine⟨child,aC,λ_=>?_,λh=>absurd h (by rw[d,<-D];exact HN r (.inr C)),λh=>absurd h (by rw[d,<-D];exact qZ (B3 r (by simp_all))),λh=>absurd b0 h⟩
   rw[au,au];refine⟨by show gs.size<A.b+A.n+1;omega,rfl,?_,rfl,fO.symm,U.running,by rw[cj hu];exact dn,.inr (.inr ⟨d.trans D.symm,by rw[C];rfl⟩),by rw[d,<-D];exact Q9⟩
   show xV P A=cq P A Fin s' gs.size;rw[d,<-D,HP r C]
def cB.U9(h:cB Z kk OO J M w t)(b:∀i,J i->J' i):cB Z kk OO J' M w t:=⟨h.sat,h.jA,h.nQ,h.BG,h.clean,h.seen,λn a c d=>(h.acc n a c d).imp_right λx=>x.imp_left λ⟨j,e,f⟩=>⟨j,b j e,f⟩,h.n0,h.xI,h.lT,h.pD,h.zt,h.mine⟩
def Mg(C:gT P A.ng)(X:iN P A.ng)(F:A.b+A.n+1<=Z.lk)(o:A.dir=true)(V:bD (bX P A Fin Z F) Z s f q kk OO J M gs w t)(G:s.ms=.add 0)(hg:gs[0]?=some g){N:acP}(ht:(pH P A Fin 0).dh (kk 0) (OO 0) g N)(sl:acS):
 Goes P A Fin Z F s gs w t sl 0:=by
 have e:de P A Z s kk OO J M gs.size w t:=V.ex;have B:=bf (P:=P) (A:=A) (Fin:=Fin) (Z:=Z) F;have hb:=A.hb;have W:=LP o;unfold pH at ht;rw[aaB o]at ht;obtain⟨rfl,c0,rest,a7,hF⟩:=ht;have H:=e.I.ms;rw[G]at H;obtain⟨K,p⟩:=H;have K:s.sp=A.n:=by omega
 obtain⟨_,_,_,_,_,_,d0,_⟩:=V.live _ (qt G);obtain⟨g2,⟨n,u⟩,E⟩:=qh (P:=P) (n:=A.ng) (b:=A.gb) (kind:=.normal) (cs:=c0::rest) (Wd:=ln A) X C;cases n with
 |zero=>exact absurd rfl (DG C u E)
 | succ n=>
   obtain⟨g1,⟨aC,a8⟩,a9⟩:=u;have x:=runT_crowd_go (P:=P) (sl:=sl) (i:=0) hg (by rw[a7];exact a8 true w (B.wd e))
   rw[fQ]at x;obtain⟨s',d⟩:∃s':MS P,s'={s with ms:=.off,c:=.wt .w0}:=⟨_,rfl⟩
   have r:s'.w=s.w:=by rw[d]
   have j:s'.c=.wt .w0:=by rw[d]
   have ab:s'.ms=.off:=by rw[d]
   have L:s'.sp=s.sp:=by rw[d]
   have Y:wB P A s':=⟨λ_ _=>ab,λ_=>by simp_all,λh=>by simp_all⟩
   obtain⟨v0,m0,Q⟩:=e.I.calm (by rw[p];rfl)
   have hI:bO A.n s':=by
    rw[d];refine⟨?_,e.I.g2,λh=>(by simp_all),e.I.g3,e.I.HH,λi R h=>?_,⟨e.I.g5.1,λh=>(by simp_all)⟩,λh=>(by cases h),e.I.g7,λh=>(by cases h),λk h=>(by cases h),e.I.ok,rfl,e.I.sp,e.I.idle,⟨K,by simp⟩,λ_ h=>(by cases h),e.I.mu⟩
    . have:=e.I.g1
      rw[G]at this;exact this
    . have h:s.w i=.dn .d7:=h
      have:=Q i R;rw[h]at this;cases this
   have S:∀l,J l->dZ P A s' l:=λl Q=>by
    rcases(e.hJ l).1 Q with⟨a,D,z,h3⟩|⟨D,z⟩
    . exact .inl ⟨a,D,z,by simp_all⟩
    . rw[p]at z;cases z
   have hP:cB Z kk OO (dZ P A s') M w (t++#[]):=by rw[q8];exact V.cN.U9 S
   have ad:de P A Z s' kk OO (dZ P A s') M gs.size w (t++#[]):=by
    refine e.chan hI Y (by rw[d]) (λ_ l _=>.inl ⟨by rw[r],rfl⟩) (by rw[L,j,o,e.size,p];rfl) (λh=>by simp_all) (λ_ _=>rfl) (by rw[d]) (by rw[d]) (by rw[d]) (by rw[d]) (λl _=>by rw[r]) (λi b n v h=>⟨i,h⟩) rfl (λi=>aaR) (.inr ⟨p,.inr ⟨_,j⟩,λm G=>by simp_all⟩) (λop h=>by simp at h) (λi R=>.inl ?_) (λi al hn=>e.Dp i al λh=>hn ?_)
    . rcases R with h0|⟨l,D,z⟩|⟨D,_⟩
      . exact .inl h0
      . exact .inr (.inl ⟨l,by omega,z⟩)
      . exact .inl (D.trans W)
    . rcases h with h0|⟨l,D,z⟩|⟨D,_⟩
      . exact .inl h0
      . exact .inr (.inl ⟨l,by omega,z⟩)
      simp_all
   have hL:MS.gq A.n s' s:=by
    refine .inl ?_;rw[d];show oQ.off.cx+sumTo A.n (λi=>(s.w i).cx)+(jB.wt .w0).cx s.gc<s.ms.cx+sumTo A.n (λi=>(s.w i).cx)+s.c.cx s.gc
    rw[p,G];have e2:oQ.off.cx=0:=rfl;have e3:(jB.wt .w0).cx s.gc=13:=rfl;have e4:jB.none.cx s.gc=0:=rfl;have e5:(oQ.add 0).cx=200:=rfl;omega
   have hS:fy A s s' 0:=⟨λl _ _=>by rw[r],λh=>absurd W.symm h,λh=>absurd rfl h,L,by rw[d],.inl λ_ _=>by rw[r]⟩
   have T:¬dE P A s' 0:=by have:=B4 Y j;simp_all
   have av:¬fD P A s' 0:=by have:=qZ Y;simp_all
   have ax:gK P A s' 0:=by have:=uU (P:=P) (A:=A) j;simp_all
   have U:=tB Y j;rw[W]at U
   have ay:Beside (bX P A Fin Z F) s s' f f q (upd q 0 n) kk kk OO OO J (dZ P A s') w 0 g g1:=ma F hS (λ_ _=>rfl) (λi R=>upd_ne q n R) (λ_ _ _=>rfl) (λ_ _ _=>rfl) (λi _ h=>S i h) (.inl ⟨by simp_all,by simp_all⟩) (λ{i k O y} E=>B.kU (s:=s) (i:=i) (k:=k) (O:=O) (g:=y) E)
   refine⟨_,_,x,s',f,upd q 0 n,kk,OO,dZ P A s',M,_,_,_,rfl,hL,?_⟩;refine bD.step B V hg (λop h=>by simp at h) hP ad (λl y Q E=>B.th e Q _ _ E) ay ⟨λh=>absurd h T,λ_=>⟨T,?_,?_,g2,?_,?_⟩,λh=>absurd h av,λ_ h _=>absurd ax h⟩
   . omega
   . rw[q8,d0]
     show 0=dN P A s' 0;rw[U];rfl
   . refine .inr (.inr ⟨W.symm,?_⟩)
     rw[j];exact⟨c0,rest,E,by simp_all⟩
   . exact .inr (by rw[upd_same];exact a9)
def Mh(C:gT P A.ng)(X:iN P A.ng)(hsl:∀(n:Nat) (k:aj) (O:ak) (g gB:adF),jr P (λ_=>True) n g gB->Fin k O gB->Fin k O g)(R:A.b+A.n+1<=Z.lk)(d:A.dir=true)(G:bD (bX P A Fin Z R) Z s f q kk OO J M gs w t)(S:s.c=.wt .wa)(hg:gs[0]?=some g)(T:TC P A Fin (.wt .wa) (kk 0) (OO 0) g)(sl:acS):
 ∃ops m',runT P (crowd gs w sl) 0=(.next m',ops)/\∃gs' w' U k' O' g',m'=crowd gs' w' U/\dO P Z.W0 k' O' g' gs' w' (t++ops)/\Fin k' O' g':=by
 have D:de P A Z s kk OO J M gs.size w t:=G.ex;have hb:=A.hb;have e0:=LP d;obtain⟨c0,rest,hM,hT⟩:=T;rw[aaB d]at hT;obtain⟨V,hF⟩:=hT;obtain⟨H,W,hr,⟨k,F⟩⟩:=UM (Wd:=λ_=>True) (main:=true) (w:=w) C X hM (by decide)
 have v:=runT_crowd_go (P:=P) (sl:=sl) (i:=0) hg W;obtain⟨u,E⟩:∃u:Trace,u=MemOp.ofEvents 0 g.frame.fn g.frame.place #[⟨.mark (.acquire ⟨A.gb,0,none⟩),false,true⟩]:=⟨_,rfl⟩;have z:∀op∈u,op=⟨0,g.frame.fn,g.frame.place,.mark (.acquire ⟨A.gb,0,none⟩)⟩:=λop h=>by rw[E,ofEvents_eq]at h;simpa[MemAct.ofEvent]using h
 have Y:u[0]?=some ⟨0,g.frame.fn,g.frame.place,.mark (.acquire ⟨A.gb,0,none⟩)⟩:=by rw[E,ofEvents_eq];simp[MemAct.ofEvent]
 rw[<-E]at v;obtain⟨_,_,_,m⟩:=D.I.g8 (by rw[S];rfl)
 have a7:=(zs.1 hg).1
 have d0:Deaf t 0=0:=by
  obtain⟨_,_,a8,_⟩:=G.walk _ (uU S);have r:(bX P A Fin Z R).deaf s A.cl=0:=by show dN P A s A.cl=0;rw[tB D.off S];rfl
  simp_all
 have hu:kL u:=λop h=>by grind
 have hG:A.gb<w.heap.size:=by obtain⟨c,e,r⟩:=D.zB;grind
 have L:∀i o,gs[i]?=some o->i≠0->woken P g H w o=o:=λi o ho h0=>by
  have nl:¬dE P A s i:=by
   rintro(⟨e,_⟩|⟨l,r,N,Q⟩|⟨e,_⟩)
   . exact h0 e
   . simp_all
   omega
  have nw:¬gK P A s i:=by
   rintro(⟨e,_⟩|⟨l,r,N,Q⟩|⟨e,_⟩)
   . exact h0 e
   . simp_all
   omega
  have nh:¬fD P A s i:=by
   rintro(⟨e,_⟩|⟨l,r,N,Q⟩)
   . exact h0 e
   simp_all
  exact woken_quitsD (G.rest i o ho nl nw nh).2
 obtain⟨K,x,a,r,N,Q,hS⟩:=HT (gs':=(gs.map (woken P g H w)).setIfInBounds 0 H) (g:=H) R G m (.inr e0) hu (λop h=>by rw[z op h];rfl) (λop h=>by rw[z op h];exact hG) d0 (λi hi=>by
  rcases(D.hJ i).1 hi with⟨a,a1,a2,B⟩|⟨B,_⟩
  . rw[m a a1]at B;cases B
  omega) (λp n hp hk=>by
  obtain⟨a1,a2,B⟩:=D.hM p hp
  rcases B with⟨B,_⟩|⟨B,_⟩
  . exact nu (y:=⟨0,g.frame.fn,g.frame.place,.mark (.acquire ⟨A.gb,0,none⟩)⟩) hu Y rfl d0 B a1 (λk hk e=>by
     rcases qX e with⟨r,_⟩|⟨op,a9,r⟩
     . exact D.norel k _ (by omega) r
     grind) hk
  simp_all) (LF (by simp_all)) (λi hi=>by
  grind) (by simp) V
 exact⟨u,_,v,_,w,sl,_,_,_,rfl,hS,hsl _ _ _ _ _ F (hF K x a (r 0) (λj hj=>(r (A.b+j)).1 _ _ _ ((D.zi d j hj).2 (by rw[m j hj];rfl))) N Q)⟩
def Mi(C:gF P A.nm)(X:gJ P A.nm)(F:mI P A.nm)(v:A.b+A.n+1<=Z.lk)(a:A.dir=true)(H:bD (bX P A Fin Z v) Z s f q kk OO J M gs w t)(hj:j<A.n){Y:wA P}(p:s.w j=.un .ue Y)(hg:gs[A.b+j]?=some g)(K:HI P A j (.un .ue Y) (kk (A.b+j)) (OO (A.b+j)) g)(sl:acS):
 Goes P A Fin Z v s gs w t sl (A.b+j):=by
 have d:de P A Z s kk OO J M gs.size w t:=H.ex;have B:=bf (P:=P) (A:=A) (Fin:=Fin) (Z:=Z) v;have hb:=A.hb;have L:(A.b+j==0)=false:=by simp;omega
 obtain⟨kind,c,rest,hk,hM,hm,ab,Q⟩:=K;have hN:=Q (by simp)
 rw[show Ff P A Y.N=T P (lh P A) gV by simp[Ff,a]]at hN
 obtain⟨R,S,hr,g2,z,D⟩:=BO (Wd:=λ_=>True) (main:=false) (w:=w) C X hM
 obtain⟨k,U⟩:=z.trans (l8 F D hk);obtain⟨tr⟩:=T.tree (P:=P) (m:=lh P A) rfl hN;obtain⟨T,_⟩:=TT.pre U tr;obtain⟨x,r⟩:∃x:bn P,x=.zg:=⟨_,rfl⟩;have o:(s.aW j x s.sh).w j=.zg:=by rw[aX,r]
 have V:EvM A.fb A.fo #[⟨.mark .enable,false,true⟩]:=λe he=>by simp_all
 have E:=runT_crowd_go (P:=P) (sl:=sl) (i:=A.b+j) hg (by rw[L];exact S)
 have G:bS P A s (A.b+j):=iQ d.I hj (by rw[p];rfl)
 obtain⟨y1,y2,y3⟩:=d.LY V G g.frame.fn g.frame.place;have u:∀op∈MemOp.ofEvents (A.b+j) g.frame.fn g.frame.place #[⟨.mark .enable,false,true⟩],op.g=A.b+j:=λop W=>by obtain⟨e,_,rfl⟩:=zR W;rfl
 have hJ:J (A.b+j):=(d.hJ _).2 (wR hj (by rw[p];rfl))
 have hP:=H.cN.sync (i:=A.b+j) (.inr hJ) u rfl ⟨⟨.refl _,rfl⟩,λ_ _=>rfl⟩ (λb=>.inl rfl) y2 y1
 have hI:bO A.n (s.aW j x s.sh):=d.I.wT hj (by rw[p];rfl) (by rw[r];rfl) (.inr (d.dd.trans a)) (by rw[r];rfl) (by rw[r,p];rfl)
 have hL:MS.gq A.n (s.aW j x s.sh) s:=tz hj (by rw[r,p];simp[bn.cx])
 have a7:=d.xY (x:=x) (sh:=s.sh) (w':=w) hj (by rw[r,p];rfl) (by rw[r,p];rfl) (λ_=>by rw[r,p];rfl) hI d.mu (λ_ _=>rfl) d.vL y3
 have hS:fy A s (s.aW j x s.sh) (A.b+j):=xY hj (.inr ⟨λhl=>by
  obtain⟨o1,o2,o3,o4,_⟩:=d.off.2.1 a
  rcases hl with⟨_,h⟩|⟨l,_,h1,_⟩|⟨_,h⟩
  . grind
  . omega
  simp_all,(d.off.2.1 a).2.1⟩)
 have a8:Beside (bX P A Fin Z v) s (s.aW j x s.sh) f (bR f (A.b+j) ⟨lh P A,kk (A.b+j),OO (A.b+j),R,T⟩) q q kk kk OO OO J J w (A.b+j) g R:=ma v hS (λi hi=>az _ _ hi) (λi hi=>rfl) (λ_ _ _=>rfl) (λ_ _ _=>rfl) (λ_ _ h=>h) (.inl ⟨id,id⟩) (λ{i k O y} D=>B.kU (s:=s) (i:=i) (k:=k) (O:=O) (g:=y) D)
 refine⟨_,_,E,s.aW j x s.sh,bR f (A.b+j) ⟨lh P A,kk (A.b+j),OO (A.b+j),R,T⟩,q,kk,OO,J,M,_,_,_,rfl,hL,?_⟩;refine bD.step B H hg u hP a7 (λl y hl D=>B.th d hl _ _ D) a8 ⟨λ_=>?_,λh=>absurd h (oZ hj (.inr o)),λh=>absurd h (uX hj o),λh=>absurd (tC hj o) h⟩
 rw[au];refine⟨by show A.b+j<A.b+A.n+1;omega,rfl,?_,rfl,rfl,hr,?_,.inr hJ,HS o⟩
 . show lh P A=cq P A Fin (s.aW j x s.sh) (A.b+j)
   rw[yd hj o]
 . obtain⟨_,_,a9,_⟩:=H.walk _ (ja (P:=P) (A:=A) (s:=s) hj (by rw[p];rfl))
   rw[Deaf_own,a9];show deafBehind (dN P A s (A.b+j)) _=0;rw[eM hj,p];rfl
end
section
variable{P:adS}{A:bH}{Fin:acP}{Z:Base}{s s':MS P}{f f':Nat->Node P}{q q':adI}{kk kk':adN}{OO OO':adM}{J J' M M':adC}{gs gs':acX}{w w':World}{t u:Trace}{j m:Nat}{g g' g₂ child:adF}{z v:Value}
def B6(L:A.b+A.n+1<=Z.lk)(z:bD (bX P A Fin Z L) Z s f q kk OO J M gs w t):∃(i:Nat) (g:adF),gs[i]?=some g/\g.status=.running:=by
 have o:de P A Z s kk OO J M gs.size w t:=z.ex;have B:=bf (P:=P) (A:=A) (Fin:=Fin) (Z:=Z) L;refine abk λC=>?_
 have a:∀i,¬dE P A s i:=λi k=>by
  obtain⟨_,N,_,_,_,O,_⟩:=z.live i k
  grind
 have Ah:∀i,gK P A s i->R2 P A s i:=λi D=>by
  obtain⟨_,_,_,x,x',N,O,R⟩:=z.walk i D
  rcases R with⟨h,_⟩|h
  . exact h
  . exact absurd ⟨i,x,N,h.first (B.kU O).1⟩ C
 have hb:=A.hb
 obtain⟨S,T,U,V,E⟩:s.sp=A.n/\s.c≠.none/\s.c≠.gone/\(∀j,j<A.n->s.w j≠.wait)/\s.ms.pend=0:=by
  have d:=o.I.ms;cases e:s.ms with
  |parked=>rw[e]at d;exact⟨d.1,d.2.1,d.2.2.1,d.2.2.2,rfl⟩
  |add l=>exact absurd (qt e) (a 0)
  |spawn l=>exact absurd (yh e) (a 0)
  |recv=>exact absurd (jh e) (a 0)
  | bz l p=>
    rw[e]at d
    rcases Ah 0 (FY e)with⟨l,_,_,r,F,_⟩|⟨_,h,_⟩
    . omega
    simp_all
  | off=>
    rw[e]at d
    have hd:A.dir=true:=by
     cases q:A.dir with
     |true=>rfl
     |false=>exact absurd e (o.off.2.2 q)
    refine⟨d.1,d.2,(o.off.2.1 hd).2.2.2.2,λj W D=>?_,rfl⟩
    obtain⟨_,_,_,_,_,_,_,h|⟨_,_,_,_,_,_,_,_,_,_,h⟩⟩:=z.held (A.b+j) (.inr ⟨j,W,rfl,D⟩)
    . omega
    simp_all
 have Q:s.c=.wt .w4/\s.gm=0:=by
  cases e:s.c with
  |none=>simp_all
  |gone=>simp_all
  |eC=>exact absurd (uV (.inr e)) (a _)
  |jC=>exact absurd (uV (.inl e)) (a _)
  | wt p=>
    rcases Ah _ (uU e)with⟨l,_,_,r,F,_⟩|⟨_,h,h'⟩
    . omega
    simp_all
 have m:∀l,l<A.n->gK P A s (A.b+l)->∃sv Y,s.w l=.lk (.gN sv) Y/\s.sh.ms=0:=λl k h=>by
  rcases Ah _ h with⟨l',sv,Y,r,F,h3,h4⟩|⟨r,_⟩
  . simp_all
  . omega
 have u:∀l,l<A.n->s.w l=.gone\/∃sv Y,s.w l=.lk (.gN sv) Y/\s.sh.ms=0:=λl k=>by
  have v:=o.I.idle l k;cases e:s.w l with
  |idle=>rw[e]at v;have:=v.1 rfl;omega
  |run h X=>exact absurd (kz k e) (a _)
  |lk p Y=>have:=m l k (.inr (.inl ⟨l,k,rfl,by simp_all⟩));simp_all
  |un p Y=>have:=m l k (.inr (.inl ⟨l,k,rfl,by simp_all⟩));simp_all
  |wait=>simp_all
  |zg=>exact absurd (tC k e) (a _)
  |dn p=>have:=m l k (mU k e);simp_all
  |gone=>simp_all
 have y:∀l,l<A.n->s.w l=.gone:=λl k=>by
  rcases u l k with h|⟨sv,Y,h,h0⟩
  . exact h
  . have r:=o.I.mu.alive (λi G=>by
     rcases u i G with h|⟨sv,Y,h,_⟩
     . exact .inl (by rw[h];rfl)
     . exact .inr ⟨sv,by rw[h];rfl⟩) h0 l k
    rw[h]at r;cases r
 have H:s.gc=0:=by
  have r:=o.I.g1;rw[E]at r
  have F:sumTo A.n (λj=>(s.w j).cnt)=0:=by
   have:∀n,n<=A.n->sumTo n (λj=>(s.w j).cnt)=0:=λn=>by
    induction n with
    |zero=>intro _;rfl
    | succ n ih=>
      intro hn;have e1:=ih (by omega)
      simp only[sumTo,e1,y n (by omega)]
      rfl
   simp_all
  omega
 have K:s.c.waits=true:=by rw[Q.1];rfl
 by_cases hv:s.gv=1
 . obtain⟨i,G,h⟩:=o.I.g7 hv H
   simp_all
 . have:=o.I.g2
   obtain⟨i,G,h⟩:=o.I.g6 K (by omega) Q.2
   simp_all
variable(C:gT P A.ng)(X:iN P A.ng)(CM:gF P A.nm)(XM:gJ P A.nm)(F:mI P A.nm)
include C X CM XM F in
def I5(r:A.b+A.n+1<=Z.lk)(sl:acS)(i:Nat){k:aj}{O:ak}{g:adF}{N:acP}(L:g.status=.running)(h:(cq P A Fin s i).dh k O g N)(c:∀k' O' g',N k' O' g'->TT P (cq P A Fin s i) k' O' g')
 (u:bD (bX P A Fin Z r) Z s f q kk OO J M gs w t) (U:dE P A s i) (Q:f i=⟨cq P A Fin s i,k,O,g,.dh N L h c⟩):
 ∃ ops y,runT P (crowd gs w sl) i=(.next y,ops)/\
  ((∃s' f' q' kk' OO' J' M' gs' w' o,y=crowd gs' w' o/\MS.gq A.n s' s/\bD (bX P A Fin Z r) Z s' f' q' kk' OO' J' M' gs' w' (t++ops))\/
   (∃gs' w' o k' O' g',y=crowd gs' w' o/\dO P Z.W0 k' O' g' gs' w' (t++ops)/\Fin k' O' g')):=by
 have R:de P A Z s kk OO J M gs.size w t:=u.ex
 have goes:Goes P A Fin Z r s gs w t sl i->∃ops y,runT P (crowd gs w sl) i=(.next y,ops)/\
  ((∃s' f' q' kk' OO' J' M' gs' w' o,y=crowd gs' w' o/\MS.gq A.n s' s/\bD (bX P A Fin Z r) Z s' f' q' kk' OO' J' M' gs' w' (t++ops))\/
   (∃gs' w' o k' O' g',y=crowd gs' w' o/\dO P Z.W0 k' O' g' gs' w' (t++ops)/\Fin k' O' g')):=λ⟨ops,y,S,T⟩=>⟨ops,y,S,.inl T⟩
 obtain⟨_,d,_,B,D,_,_,_,_⟩:=u.live i U;rw[Q]at d B D;have d:gs[i]?=some g:=d;have B:k=kk i:=B;have D:O=OO i:=D;subst B D
 rcases U with⟨rfl,E⟩|⟨j,x,rfl,H⟩|⟨rfl,G⟩
 . cases e:s.ms with
   | add l=>
     rw[DR e]at h;cases l with
     | zero=>
       by_cases hd:A.dir=true
       . exact goes (Mg C X r hd u e d h sl)
       . exact goes (I4 r (Bool.eq_false_iff.2 hd) u e d h sl)
     |succ l=>exact goes (L8 C X r u e rfl rfl d h sl)
   |bz l p=>rw[e]at E;exact E.elim
   | spawn l=>
     have m:cq P A Fin s 0=FN P A Fin l:=by unfold cq;rw[aaB rfl,e]
     rw[m]at h;exact goes (I3 r u e d h sl)
   |parked=>rw[e]at E;exact E.elim
   |off=>rw[e]at E;exact E.elim
   | recv=>
     have a:A.dir=false:=by
      cases q:A.dir with
      |false=>rfl
      |true=>exact absurd e (R.off.2.1 q).1
     rw[nY e]at h;obtain⟨g₂,z,V,r2,r3,r4⟩:=L9 h
     by_cases K:∃j,j<A.n/\s.w j=.wait
     . obtain⟨j,x,H⟩:=K
       exact goes (Mb r a u e x H d V h sl)
     . by_cases G:s.c=.gone
       . obtain⟨ops,y,S,gs',w',o,k',O',g',T,e3⟩:=Sa r a u e G d h sl
         exact⟨ops,y,S,.inr ⟨gs',w',o,k',O',g',T,e3⟩⟩
       . exact goes (Mc r a u e (λj x H=>K ⟨j,x,H⟩) G d V r2 r3 r4 sl)
 . cases e:s.w j with
   | run b X0=>
     have m:=nX (Fin:=Fin) x e;have I:=h;rw[m]at I
     rcases I with I|I|⟨a,rfl,W,g₂,z,v,hs,hv,ht⟩
     . exact goes (IT CM XM F r u x e (Y:=⟨cq P A Fin s (A.b+j),_,_,g,N,L,h,c⟩) Q I sl)
     . exact goes (Dz CM XM F r u x e (Y:=⟨cq P A Fin s (A.b+j),_,_,g,N,L,h,c⟩) Q I sl)
     . have hb:b=false:=by
        cases b with
        |false=>rfl
        |true=>exact absurd W (R.zC j x (by rw[e];rfl))
       subst hb
       by_cases E:s.ms=.parked
       . exact goes (Ma r a u x e E d hs hv ht sl)
       . exact goes (PX r a u x e E d hs W hv ht sl)
   |zg=>have m:=yd (Fin:=Fin) x e;rw[m]at h;exact goes (IZ C X r u x e d h sl)
   |_=>rw[e]at H;exact H.elim
 . have a:A.dir=false:=by
    cases q:A.dir with
    |false=>rfl
    | true=>
      obtain⟨_,_,o3,o4,_⟩:=R.off.2.1 q;cases e:s.c with
      |eC=>exact absurd e o3
      |jC=>exact absurd e o4
      |_=>rw[e]at G;exact G.elim
   cases e:s.c with
   |eC=>rw[HP a e]at h;exact goes (IY C X r u e rfl rfl d h a sl)
   | jC=>
     rw[HO a (by rw[e];simp)]at h
     exact goes (Me r a u e d h sl)
   |_=>rw[e]at G;exact G.elim
def Ends(P:adS)(Fin:acP)(Z:Base)(gs:acX)(w:World)(t:Trace)(sl:acS)(i:Nat):Prop:=∃ops b,runT P (crowd gs w sl) i=(.next b,ops)/\∃gs' w' a c d g',b=crowd gs' w' a/\dO P Z.W0 c d g' gs' w' (t++ops)/\Fin c d g'
variable(hsl:∀(n:Nat) (k:aj) (O:ak) (g gB:adF),jr P (λ_=>True) n g gB->Fin k O gB->Fin k O g)
include C X CM XM F hsl in
def I6(a:A.b+A.n+1<=Z.lk)(sl:acS)(i:Nat){g:adF}(d:bD (bX P A Fin Z a) Z s f q kk OO J M gs w t)(z:gK P A s i)(k:gs[i]?=some g)(m:UQ P A Fin s i (kk i) (OO i) g):
 Goes P A Fin Z a s gs w t sl i\/FV P A s gs w sl i g\/Ends P Fin Z gs w t sl i:=by
 have D:de P A Z s kk OO J M gs.size w t:=d.ex;have hb:=A.hb;rcases z with⟨rfl,E⟩|⟨j,o,rfl,z⟩|⟨rfl,B⟩
 . cases e:s.ms with
   | bz l p=>
     rcases m with⟨_,h⟩|⟨l,r,G,_⟩|⟨r,h⟩
     . rw[e]at h;exact .inl (DI C X a d e k h sl)
     . omega
     . have:=D.I.ms
       rw[e]at this;rw[this.2.1]at h;exact h.elim
   |_=>rw[e]at E;exact E.elim
 . rcases m with⟨r,_⟩|⟨l,r,G,h⟩|⟨r,_⟩
   . omega
   . obtain rfl:l=j:=by omega
     cases e:s.w l with
     | lk p Y=>
       rw[e]at h;by_cases u:p=.la
       . subst u;exact .inl (PI CM XM F a d o e k h sl)
       . exact(PF CM XM a d o e k h u sl).imp_right .inl
     | un p Y=>
       rw[e]at h;by_cases v:p=.ur
       . subst v;exact .inl (PJ CM XM a d o e k h sl)
       . by_cases x:p=.ue
         . subst x
           by_cases hd:A.dir=true
           . exact .inl (Mi CM XM F a hd d o e k h sl)
           . exact .inl (PH CM XM F a d o e k h (Bool.eq_false_iff.2 hd) sl)
         . exact .inl (PG CM XM a d o e k h v x sl)
     |dn p=>rw[e]at h;exact .inl (PR C X a d o e k h sl)
     |_=>rw[e]at z;exact z.elim
   . omega
 . rcases m with⟨r,h⟩|⟨l,r,G,h⟩|⟨_,h⟩
   . have:s.c≠.none:=λq=>by rw[q]at B;exact B
     rw[D.off.1 (B2 r) this]at h;exact h.elim
   . omega
   . cases e:s.c with
     | wt p=>
       rw[e]at h;by_cases y:p=.wa
       . subst y
         by_cases hd:A.dir=true
         . have H:=LP hd
           rw[H]at k h ⊢;exact .inr (.inr (Mh C X hsl a hd d e k h sl))
         . exact .inl (PU C X a d e k h (Bool.eq_false_iff.2 hd) sl)
       . exact(PT C X a d e y k h sl).imp_right .inl
     |_=>rw[e]at B;exact B.elim
include C X CM XM F hsl in
def Mj(d:A.b+A.n+1<=Z.lk)(a:bD (bX P A Fin Z d) Z s f q kk OO J M gs w t)(sl:acS):
 ∃N gs' w' j r k' O' g',runNT P N (crowd gs w sl) t=(.next (crowd gs' w' j),r)/\dO P Z.W0 k' O' g' gs' w' r/\Fin k' O' g':=
 Lp (bf (P:=P) (A:=A) (Fin:=Fin) (Z:=Z) d) Fin (λa=>B6 d a) (by intro s f q kk OO J M gs w t sl i k O g N u h c a v x;exact I5 C X CM XM F d sl i u h c a v x)
  (by
    intro s f q kk OO J M gs w t sl i g a y z l _;rcases I6 C X CM XM F hsl d sl i a y z l with⟨ops,m,o,p⟩|⟨hd,e⟩|⟨ops,m,o,p⟩
    . exact⟨ops,m,o,.inl p⟩
    . exact⟨_,_,e,.inr (.inr ⟨hd,rfl,rfl⟩)⟩
    . exact⟨ops,m,o,.inr (.inl p)⟩) s _ f _ q kk OO J M gs w sl t rfl rfl a
end

import Derived.Conc.TokenTrace
import Derived.Test.YtabmephejpgigaaGreatDoorC11
set_option linter.all false
namespace Go.cr
section
open Go.Conc
open Go.ConcN (sumTo upd sumTo_upd upd_ne upd_same)
section
variable{P:abm}{A:qx P}{Z:Base}{s s':A.S}{f f':Nat->Node P}{q q':abg}{kk kk':abl}{OO OO':abk}{J J' M M':aba}{gs gs':aaJ}{w w':World}{t u:Trace}
structure Aside(A:qx P)(s s':A.S)(f f':Nat->Node P)(q q':abg)(kk kk':abl)(OO OO':abk)(J J':aba)(S:aba):Prop where
 ef:∀j,¬S j->f' j=f j
 eq:∀j,¬S j->q' j=q j
 ek:∀j,¬S j->j<A.top->kk' j=kk j
 eO:∀j,¬S j->j<A.top->OO' j=OO j
 eJ:∀j,¬S j->A.Live s j->J j->J' j
 live:∀j,¬S j->(A.Live s' j↔A.Live s j)
 walk:∀j,¬S j->(A.Walk s' j↔A.Walk s j)
 held:∀j,¬S j->(A.nE s' j↔A.nE s j)
 mo:∀j,¬S j->A.Live s j->A.mo s' j=A.mo s j
 at':∀j k O x,¬S j->A.Walk s j->A.At s j k O x->A.At s' j k O x
 deaf:∀j,¬S j->A.Walk s j->A.deaf s' j=A.deaf s j
 yO:∀j,¬S j->A.Walk s j->A.yO s j->A.yO s' j
 Ro:∀j k O x,¬S j->A.nE s j->A.DV s j k O x->A.DV s' j k O x
 tie:∀j x,¬S j->A.Live s j->A.Nj s j x->A.Nj s' j x
def bC.Ha(m:bC A Z s f q kk OO J M gs w t)(K:jZ u)(L:cq Z kk' OO' J' M' w' (t++u))(C:A.Ex s' kk' OO' J' M' gs'.size w' (t++u))(D:gs.size<=gs'.size)(S:aba)(E:∀i,¬S i->gs'[i]?=gs[i]?)
 (a:Aside A s s' f f' q q' kk kk' OO OO' J J' S) (v:∀i,S i->∃n,gs'[i]?=some n/\Self P A s' f' q' kk' OO' J' (t++u) i n):bC A Z s' f' q' kk' OO' J' M' gs' w' (t++u):=by
 have y:∀j,Deaf (t++u) j=Deaf t j:=λj=>bX K j
 refine⟨m.lk,L,λj c=>?_,λj c=>?_,λj c=>?_,λj x z F G H=>?_,λj c=>by rw[y];exact m.above j (YO D c),C⟩
 . by_cases e:S j
   . obtain⟨n,B,l⟩:=v j e
     obtain⟨d,g,k⟩:=l.live c
     simp_all
   have b:=(a.live j e).1 c;obtain⟨d,g,pm,k,p,r,o,I⟩:=m.live j b;rw[a.ef j e,a.ek j e d,a.eO j e d,y j,a.mo j e b,E j e];exact⟨d,g,pm,k,p,r,o,I.1.imp id (a.eJ j e b),a.tie j _ e b I.2⟩
 . by_cases e:S j
   . obtain⟨n,B,l⟩:=v j e
     obtain⟨d,g,k,g',p,r⟩:=l.walk c
     grind
   have b:=(a.walk j e).1 c;obtain⟨d,g,k,x,N,p,r,o⟩:=m.walk j b;refine⟨λh=>d ((a.live j e).1 h),g,by rw[y j,a.deaf j e b];exact k,x,N,by simp_all,?_,?_⟩
   . rw[a.ek j e g,a.eO j e g];exact a.at' j _ _ _ e b r
   rw[a.eq j e];rcases o with⟨O,Q,R⟩|o
   . exact .inl ⟨a.yO j e b O,Q,R⟩
   exact .inr o
 . by_cases e:S j
   . obtain⟨n,B,l⟩:=v j e
     obtain⟨d,g,k,p,r,o⟩:=l.held c
     simp_all
   have b:=(a.held j e).1 c;obtain⟨d,g,k,p,x,V,T,U⟩:=m.held j b;refine⟨λh=>d ((a.live j e).1 h),λh=>g ((a.walk j e).1 h),k,by simp_all,x,by simp_all,T,?_⟩;rw[a.ek j e k,a.eO j e k];exact a.Ro j _ _ _ e b U
 by_cases e:S j
 . obtain⟨n,B,l⟩:=v j e
   rw[B]at z;obtain rfl:=YX z;exact l.rest F G H
 rw[a.eq j e,y j];rw[E j e]at z;exact m.rest j x z (λh=>F ((a.live j e).2 h)) (λh=>G ((a.walk j e).2 h)) (λh=>H ((a.held j e).2 h))
def bC.quiet(B:yP A)(a:bC A Z s f q kk OO J M gs w t){i:Nat}{x:abd}(d:gs[i]?=some x)(n:¬A.nE s i)(c:Nat)(b:Bool):offersAt x c b=[]:=by
 by_cases g:A.Live s i
 . obtain⟨_,j,_,_,_,k,_⟩:=a.live i g
   rw[d]at j;obtain rfl:=YX j;exact offersAt_of_not_blocked (by simp_all) _ _
 by_cases l:A.Walk s i
 . obtain⟨_,_,_,y,o,m,k,e⟩:=a.walk i l
   rw[d]at m;obtain rfl:=YX m;obtain⟨p,r⟩:=B.kq k;rcases e with⟨_,rfl,_⟩|e
   . show offersAt (blk o) c b=[]
     unfold offersAt blk
     simp_all
   exact offersAt_of_not_blocked (by rw[e.first p];decide) _ _
 have h:=(a.rest i x d g l n).2;refine offersAt_of_not_blocked ?_ _ _;rcases h.status with h|h<;>rw[h]<;>decide
end
section
variable{P:abm}{A:bJ}{Fin:aaG}{Z:Base}{s s':MS P}{f f':Nat->Node P}{q q':abg}{kk kk':abl}{OO OO':abk}{J J' M M':aba}{gs gs':aaJ}{w w':World}{t u:Trace}{i:Nat}
structure gF{P:abm}(A:bJ)(s s':MS P)(S:aba):Prop where
 w:∀l,l<A.n -> ¬S (A.b+l)->s'.w l=s.w l
 c:¬S A.cl->s'.c=s.c
 ms:¬S 0->s'.ms=s.ms/\MS.rem P A.n s'=MS.rem P A.n s
 sh:s'.sh.ms=s.sh.ms
 gm:s'.gm=s.gm
variable{S:aba}
def gF.live(h:gF A s s' S){j:Nat}(hj:¬S j):dq P A s' j↔dq P A s j:=by
 constructor<;>rintro(⟨b,a⟩|⟨l,a,d,e⟩|⟨b,a⟩)
 . subst b;exact .inl ⟨rfl,by rw[<-(h.ms hj).1];exact a⟩
 . subst d;exact .inr (.inl ⟨l,a,rfl,by rw[<-h.w l a hj];exact e⟩)
 . subst b;exact .inr (.inr ⟨rfl,by rw[<-h.c hj];exact a⟩)
 . subst b;exact .inl ⟨rfl,by rw[(h.ms hj).1];exact a⟩
 . subst d;exact .inr (.inl ⟨l,a,rfl,by rw[h.w l a hj];exact e⟩)
 subst b;exact .inr (.inr ⟨rfl,by rw[h.c hj];exact a⟩)
def gF.walk(h:gF A s s' S){j:Nat}(hj:¬S j):fS P A s' j↔fS P A s j:=by
 constructor<;>rintro(⟨b,a⟩|⟨l,a,d,e⟩|⟨b,a⟩)
 . subst b;exact .inl ⟨rfl,by rw[<-(h.ms hj).1];exact a⟩
 . subst d;exact .inr (.inl ⟨l,a,rfl,by rw[<-h.w l a hj];exact e⟩)
 . subst b;exact .inr (.inr ⟨rfl,by rw[<-h.c hj];exact a⟩)
 . subst b;exact .inl ⟨rfl,by rw[(h.ms hj).1];exact a⟩
 . subst d;exact .inr (.inl ⟨l,a,rfl,by rw[h.w l a hj];exact e⟩)
 subst b;exact .inr (.inr ⟨rfl,by rw[h.c hj];exact a⟩)
def gF.held(h:gF A s s' S){j:Nat}(hj:¬S j):eL P A s' j↔eL P A s j:=by
 constructor<;>rintro(⟨b,a⟩|⟨l,a,c,d⟩)
 . subst b;exact .inl ⟨rfl,by rw[<-(h.ms hj).1];exact a⟩
 . subst c;exact .inr ⟨l,a,rfl,by rw[<-h.w l a hj];exact d⟩
 . subst b;exact .inl ⟨rfl,by rw[(h.ms hj).1];exact a⟩
 subst c;exact .inr ⟨l,a,rfl,by rw[h.w l a hj];exact d⟩
def kQ(B:A.b+A.n+1<=Z.lk)(d:gF A s s' S)(C:∀j,¬S j->f' j=f j)(D:∀j,¬S j->q' j=q j)(E:∀j,¬S j->j<A.b+A.n+1->kk' j=kk j)(F:∀j,¬S j->j<A.b+A.n+1->OO' j=OO j)(G:∀j,¬S j->dq P A s j->J j->J' j):
 Aside (bV P A Fin Z B) s s' f f' q q' kk kk' OO OO' J J' S:=by
 have hb:=A.hb;refine⟨C,D,E,F,G,λj a=>d.live a,λj a=>d.walk a,λj a=>d.held a,λj a H=>?_,λj k O y a _ v=>?_,λj a x=>?_,λj a x hd=>?_,λj k O y a _ v=>?_,λj y a _ I=>?_⟩
 . show cx P A Fin s' j=cx P A Fin s j
   unfold cx;by_cases p:j=0
   . subst p
     simp only[YD,(d.ms a).1,(d.ms a).2]
   rcases H with⟨g,_⟩|⟨l,i,m,_⟩|⟨g,_⟩
   . omega
   . subst m
     have e:A.b+l-A.b=l:=by omega
     have r:¬A.b+l=0:=by omega
     have t:A.b+l<A.b+A.n:=by omega
     simp only[YA r,YG t,e,d.w l i a]
   have t:¬j<A.b+A.n:=by omega
   simp only[YA p,YA t,d.c (g ▸ a)]
 . rcases v with⟨g,h⟩|⟨l,i,m,o⟩|⟨g,h⟩
   . subst g;exact .inl ⟨rfl,by rw[(d.ms a).1];exact h⟩
   . subst m;exact .inr (.inl ⟨l,i,rfl,by rw[d.w l i a];exact o⟩)
   subst g;exact .inr (.inr ⟨rfl,by rw[d.c a];exact h⟩)
 . show dC P A s' j=dC P A s j
   unfold dC;rcases x with⟨g,L⟩|⟨l,i,m,_⟩|⟨g,_⟩
   . subst g
     rw[YG rfl,YG rfl,(d.ms a).1]
     grind
   . subst m
     have e:A.b+l-A.b=l:=by omega
     have r:¬A.b+l=0:=by omega
     have t:A.b+l<A.b+A.n:=by omega
     simp only[YA r,YG t,e,d.w l i a]
   have K:=d.c (g ▸ a);by_cases r:j=0
   . subst r
     simp only[YD,(d.ms a).1,K]
   simp_all
 . rcases hd with⟨l,sv,Y,i,m,o,u⟩|⟨g,o,u⟩
   . subst m;exact .inl ⟨l,sv,Y,i,rfl,by rw[d.w l i a];exact o,by rw[d.sh];exact u⟩
   subst g;exact .inr ⟨rfl,by rw[d.c a];exact o,by rw[d.gm];exact u⟩
 . rcases v with⟨g,g₂,z,i,m,o,u⟩|h
   . subst g;exact .inl ⟨rfl,g₂,z,i,m,o,by rw[(d.ms a).2];exact u⟩
   exact .inr h
 exact λl b X i m o=>I l b X i m (by subst m;rw[<-o];exact(d.w l i a).symm)
def uD(c:A.b+A.n+1<=Z.lk)(d:bC (bV P A Fin Z c) Z s f q kk OO J M gs w t){x:abd}(e:gs[i]?=some x)(h:s.ms≠.parked\/i≠0):offersAt x A.cF false=[]:=by
 have B:=bf (P:=P) (A:=A) (Fin:=Fin) (Z:=Z) c;have hb:=A.hb;by_cases a:eL P A s i
 . obtain⟨_,_,_,_,y,g,r,m⟩:=d.held i a
   rw[e]at g;obtain rfl:=YX g;rcases m with⟨u,_⟩|⟨j,k,o,g₂,z,v,p,_⟩
   . rcases a with⟨_,k⟩|⟨l,k,o,_⟩
     . simp_all
     omega
   rw[p,offersAt_parked_send']
 exact d.quiet B e a _ _
def uE(d:A.b+A.n+1<=Z.lk)(e:bC (bV P A Fin Z d) Z s f q kk OO J M gs w t){x:abd}(g:gs[i]?=some x)(h:∀j,j<A.n->i=A.b+j->s.w j≠.wait)(r:Nat):offersAt x r true=[]:=by
 have B:=bf (P:=P) (A:=A) (Fin:=Fin) (Z:=Z) d;have hb:=A.hb;by_cases a:eL P A s i
 . obtain⟨_,_,_,_,y,k,o,m⟩:=e.held i a
   rw[g]at k;obtain rfl:=YX k;rcases m with⟨p,g₂,z,c,_⟩|⟨j,u,v,_⟩
   . rw[c,offersAt_parked_recv']
   rcases a with⟨c,_⟩|⟨l,c,C,D⟩
   . omega
   simp_all
 exact e.quiet B g a _ _
def nO{i:Nat}{c:Nat}{b:Bool}(h:∀(j:Nat) (g:abd),j≠i->gs[j]?=some g->offersAt g c b=[]):partners (gs.setIfInBounds i ph) c b=[]:=
 partners_nil λj g a=>by
  rcases getElem?_stand gs i j g a with⟨_,rfl⟩|⟨d,a⟩
  . exact offersAt_ph ..
  grind
end
section
variable{Z:Base}{kk:abl}{OO:abk}{J J' M M':aba}{w w':World}{t u:Trace}
def cq.hand(h:cq Z kk OO J M w t){src dst:Nat}(k:src≠Z.lk)(l:dst≠Z.lk)(o:∀n,Knows t src n->Knows (t++u) dst n)(q:∀op∈u,op.act.touch?=none)(r:∀op∈u,op.act.low w.heap.size)(z:w'.heap.size=w.heap.size)(A:Calm Z w w')(hb:∀b,Kept kk OO w w' b)
 (f:∀n a,touchAt t n=some a->a.loc.isMemory=true->((∃j,J j/\Knows t j n)\/(∃p,M p/\Before t n p))->Told Z J' M' (t++u) n a):
 cq Z (bP kk dst ((kk dst).join (kk src))) OO J' M' w' (t++u):=by
 refine h.sZ (λa b=>a=b\/(a=src/\b=dst)) z A hb r (λa b e n y _ _ _ d=>?_) (λj b n v c=>?_) (λj b s c=>?_) (λj b x B=>⟨j,.inl rfl,B,λs i=>?_⟩) h.jb
  (λsaid=>?_) (λop g a f=>by simp_all) (λm op a g f=>by grind) f
 . rcases e with rfl|⟨rfl,rfl⟩
   . exact d.app u
   exact(nD l).2 (o n ((nD k).1 d))
 . by_cases e:j=dst
   . subst e
     rw[an]at c;rcases ao.mT c with c|c
     . simp_all
     simp_all
   rw[ar _ _ e]at c;simp_all
 . by_cases e:j=dst
   . subst e
     rw[an]at c;rcases ao.Fy c with c|c
     . simp_all
     simp_all
   rw[ar _ _ e]at c;simp_all
 . by_cases e:j=dst
   . subst e;rw[an];exact(ao.rQ _ _).sh b s i
   rw[ar _ _ e];exact i
 exact noRace_appendMute (h.clean said) q
end
end
section
open Go.Conc
open Go.ConcN (sumTo upd sumTo_upd upd_ne upd_same)
variable{P:abm}
def MS.kh(s:MS P)(j:Nat)(x:bo P)(m1:oE)(sp1:Nat):MS P:={s with w:=λi=>if i=j then x else s.w i,ms:=m1,sp:=sp1}
section
variable{s:MS P}{j n:Nat}{x:bo P}{m1:oE}{sp1:Nat}
def eM:(s.kh j x m1 sp1).w j=x:=by simp[MS.kh]
def jg{i}(h:i≠j):(s.kh j x m1 sp1).w i=s.w i:=by simp[MS.kh,h]
def NS:(λi=>((s.kh j x m1 sp1).w i).pc)=Mu.set (λi=>(s.w i).pc) j x.pc:=by
 funext i;by_cases h:i=j
 . subst h;rw[eM,Mu.aj]
 rw[jg h,Mu.ah _ _ h]
def Ck(F:bo P->Nat)(hj:j<n):sumTo n (λi=>F ((s.kh j x m1 sp1).w i))+F (s.w j)=sumTo n (λi=>F (s.w i))+F x:=by
 have e:(λi=>F ((s.kh j x m1 sp1).w i))=upd (λi=>F (s.w i)) j (F x):=by
  funext i;by_cases h:i=j
  . subst h;rw[eM,upd_same]
  rw[jg h,upd_ne _ _ h]
 rw[e];have:=sumTo_upd (λi=>F (s.w i)) (F x) id hj
 simp_all
def bN.kh(I:bN n s)(hj:j<n)(E:x.cnt+m1.pend=(s.w j).cnt+s.ms.pend)(g:(s.w j).last=false)(d:x.last=false)(v:s.w j≠.gone)(m:x.ok=true)(o:x.pc=(s.w j).pc)(hi:x.jd=false)
 (k:(sp1=s.sp/\(s.w j).jd=false)\/(sp1=s.sp+1/\j=s.sp)) (y:x.iq=true->s.c≠.none)
 (q:match (generalizing:=false) m1 with
   |.add l=>sp1+l=n/\s.c=.none
   |.bs l p=>sp1+l=n/\s.c=.none/\1<=l/\(p=.a0\/p=.a2\/p=.a4\/p=.ae)
   |.spawn l=>sp1+l+1=n/\s.c=.none
   |.recv=>sp1=n/\s.c≠.none
   |.parked=>sp1=n/\s.c≠.none/\s.c≠.gone/\∀i,i<n->(s.kh j x m1 sp1).w i≠.wait
   |.off=>sp1=n/\s.c≠.none):bN n (s.kh j x m1 sp1):=by
 have t:=Ck (s:=s) (x:=x) (m1:=m1) (sp1:=sp1) bo.cnt hj
 have f:∀{i:Nat},((s.kh j x m1 sp1).w i).last=(s.w i).last:=λ{i}=>by
  by_cases e:i=j
  . subst e;rw[eM,g,d]
  rw[jg e]
 have dn:∀{i:Nat}{p:FT},(p=.d5\/p=.d6\/p=.d7)->((s.kh j x m1 sp1).w i=.dn p↔s.w i=.dn p):=λ{i p} u=>by
  by_cases e:i=j
  . subst e
    rw[eM];constructor<;>intro h
    . rw[h]at d;rcases u with rfl|rfl|rfl<;>cases d
    rw[h]at g;rcases u with rfl|rfl|rfl<;>cases g
  rw[jg e]
 refine⟨?_,I.g2,I.Ef,λi hi h=>?_,λi l hi g h b=>?_,λi hi h=>?_,⟨I.g5.1,λh=>?_⟩,λh b r=>?_,λh b=>?_,λh=>?_,I.g9,λi a=>?_,I.Rm,?_,λi a=>?_,q,λhd h i a=>?_,?_⟩
 . have:=I.g1
   show s.gc=sumTo n (λi=>((s.kh j x m1 sp1).w i).cnt)+m1.pend;omega
 . exact I.g3 i hi (h.imp (dn (.inl rfl)).1 (dn (.inr (.inl rfl))).1)
 . rw[f]at h b;exact I.FW i l hi g h b
 . exact I.g4 i hi ((dn (.inr (.inr rfl))).1 h)
 . obtain⟨z,A,B,F⟩:=I.g5.2 h
   exact⟨z,A,B,λi hi=>by simp_all⟩
 . obtain⟨i,hi,C⟩:=I.g6 h b r
   grind
 . obtain⟨i,hi,C⟩:=I.g7 h b
   grind
 . exact absurd ((I.g8 h).2.2.2 j hj) v
 . by_cases e:i=j
   . subst e;rw[eM];exact m
   rw[jg e];exact I.ok i a
 . have:=I.sp
   show sp1<=n;omega
 . show ((s.kh j x m1 sp1).w i).jd=true↔sp1<=i
   by_cases e:i=j
   . subst e
     rw[eM,hi];rcases k with⟨h,b⟩|⟨h,b⟩
     . have:=I.idle i a
       simp_all
     simp_all
   rw[jg e];rcases k with⟨h,b⟩|⟨h,b⟩
   . rw[h];exact I.idle i a
   rw[I.idle i a];omega
 . by_cases e:i=j
   . subst e;rw[eM]
     cases D:x.iq with
     |false=>rfl
     |true=>exact absurd h (y D)
   rw[jg e];exact I.early hd h i a
 rw[NS,o,jf (λi=>(s.w i).pc)];exact I.mu
def tD(hj:j<n)(h:x.bZ+m1.bZ<(s.w j).bZ+s.ms.bZ):MS.fL n (s.kh j x m1 sp1) s:=by
 have:=Ck (s:=s) (x:=x) (m1:=m1) (sp1:=sp1) bo.bZ hj;refine .inl ?_;show m1.bZ+sumTo n (λi=>((s.kh j x m1 sp1).w i).bZ)+s.c.bZ s.gc<s.ms.bZ+sumTo n (λi=>(s.w i).bZ)+s.c.bZ s.gc;omega
end
section
variable{A:bJ}{Z:Base}{s s':MS P}{kk kk':abl}{OO:abk}{J J' M:aba}{gsz gsz':Nat}{w w':World}{t u:Trace}
def cS.chan(h:cS P A Z s kk OO J M gsz w t)(hI:bN A.n s')(I:uX P A s')(T:s'.d=s.d)(D:A.dir=true->∀l,l<A.n->(s'.w l).gX=(s.w l).gX/\kk' (A.b+l)=kk (A.b+l)\/(s'.w l).rel=false/\(s.w l).gX=false)(G:gsz'=A.b+s'.sp+(if s'.c.isNone||A.dir then 0 else 1))(U:A.dir=false->∃x tm,w'.heap[A.cF]?=some (.chan 0 #[] s'.c.dV x x tm))(j:∀b,b≠A.cF->w'.heap[b]?=w.heap[b]?)
 (V:s'.sh=s.sh) (W:s'.gc=s.gc) (X:s'.gv=s.gv) (Y:s'.gm=s.gm) (K:∀l,l<A.n->(s'.w l).owns=(s.w l).owns) (a9:∀i b n v,(kk' i).cell b n=some v->∃l,(kk l).cell b n=some v) (L:kk' Z.lk=kk Z.lk)
 (a7:∀i,J' i↔dL P A s' i) (z:s'.c=s.c\/(s.c=.none/\(s'.c=.dS\/∃q,s'.c=.wt q)/\∀m,Knows t 0 m->Knows (t++u) A.cl m)) (hu:∀op∈u,op.act.touch?=none/\∀a,op.act≠.mark (.release a))
 (E:∀i,bQ P A s' i->bQ P A s i\/(∀m,Knows t 0 m->Knows (t++u) i m)) (N:∀i,i≠Z.lk -> ¬bQ P A s' i->kk' i=ao.bot/\OO i=ai.bot):
 cS P A Z s' kk' OO J' M gsz' w' (t++u):=by
 have k:∀{m:Nat}{a:Touch},touchAt (t++u) m=some a->touchAt t m=some a:=λ{m a} r=>by
  rcases dI r with⟨o,_⟩|⟨op,O,o⟩
  . exact o
  simp_all
 have g:∀i b n,(∀l,(kk l).cell b n=none)->(kk' i).cell b n=none:=λi b n hn=>by
  cases e:(kk' i).cell b n with
  |none=>rfl
  |some v=>grind
 have H:s'.c=.gone->s.c=.gone:=λe=>by simp_all
 refine⟨hI,G,T.trans h.dd,I,λhd l B=>⟨λQ=>?_,λhr=>?_⟩,U,by rw[V];exact h.mu.same (.of_heap (j _ (zj A.d1))),by rw[W,X,Y];exact h.gr.same (.of_heap (j _ (zj A.d2))),by rw[j _ (zj A.d1)];exact h.uA,by rw[j _ (zj A.d2)];exact h.yo,h.fT,
  λi=>⟨g i _ _ λl=>(h.dT l).1,g i _ _ λl=>(h.dT l).2.1,g i _ _ λl=>(h.dT l).2.2.1,g i _ _ λl=>(h.dT l).2.2.2⟩,λi y hy=>?_,λl B a8=>h.yp l B (by simp_all),λa8=>?_,λc z=>?_,
  a7,λp hp=>?_,λz=>h.lX u (H z),λm a r R S i hi=>?_,λm a r R S=>?_,λi hi m a hm r F hz=>?_,h.je u (λop O=>(hu op O).2),N,h.rS,h.jA,h.eD,h.la,by simp;exact YO h.n0 (Zs _ _)⟩
 . have Q:(s.w l).gX=false:=(D hd l B).elim (λe=>e.1 ▸ Q) (·.2)
   exact⟨λi=>g i _ _ ((h.ya hd l B).1 Q).1,λm a ad r=>((h.ya hd l B).1 Q).2 m a ad (k r)⟩
 . rcases D hd l B with⟨e1,e2⟩|⟨e,_⟩
   . rw[e2];exact(h.ya hd l B).2 (by rw[bo.rel,<-e1,<-K l B];exact hr)
   simp_all
 . obtain⟨l,f,h3,h4,h5,h6⟩:=h.tok i y hy
   exact⟨l,f,h3,h4,by grind,h6⟩
 . rw[L];exact h.MV λl B=>by simp_all
 . obtain⟨h3,h4⟩:=h.MX c z
   simp_all
 . obtain⟨o,h2,h3⟩:=h.uC u p hp
   grind
 . rcases E i hi with o|o
   . exact(h.quiet m a (k r) R S i o).app u
   exact o m (h.quiet m a (k r) R S 0 (.inl rfl))
 . have h0:=h.said m a (k r) R S
   rcases z with z|⟨z,C,o⟩
   . rw[z];exact h0.app u
   rw[z]at h0;rcases C with C|⟨_,C⟩<;>rw[C]<;>exact o m h0
 have al:m<t.size:=YU hm h.n0;rcases E i hi with o|o
 . exact(h.old i o m a hm (k r) F hz).app u
 exact o m (h.old 0 (.inl rfl) m a hm (k r) F hz)
end
end
open Go.Conc
open Go.ConcN (sumTo upd sumTo_upd upd_ne upd_same)
section
variable{P:abm}{A:bJ}{Fin:aaG}{Z:Base}{s s':MS P}{f f':Nat->Node P}{q q':abg}{kk kk':abl}{OO OO':abk}{J J' M M':aba}{gs gs':aaJ}{w w':World}{t u:Trace}{j:Nat}{g g₂:abd}{z v:Value}
def sf{l}:l∈MS.rem P A.n s↔l<A.n/\(s.w l).iq=false:=by
 unfold MS.rem
 grind
def NT{m1 sp1}(hj:j<A.n)(h:(s.w j).iq=false):MS.rem P A.n (s.kh j .xY m1 sp1)=(MS.rem P A.n s).erase j/\(MS.rem P A.n s).length=(MS.rem P A.n (s.kh j .xY m1 sp1)).length+1:=by
 have e:MS.rem P A.n (s.kh j .xY m1 sp1)=(MS.rem P A.n s).erase j:=by
  unfold MS.rem;rw[List.Nodup.erase_eq_filter (List.Nodup.sublist List.filter_sublist List.nodup_range),List.filter_filter];refine ZN λi _=>?_
  by_cases a:i=j
  . subst a;rw[eM];simp[bo.iq]
  rw[jg a];simp[a]
 refine⟨e,?_⟩;have b:j∈MS.rem P A.n s:=sf.2 ⟨hj,h⟩
 grind
def wH(hj:j<A.n)(e:s.w j=.wait):¬dq P A s (A.b+j):=by
 have:=A.hb;rintro(⟨e,_⟩|⟨l,a,c,d⟩|⟨e,_⟩)
 . omega
 . simp_all
 omega
def nP(hj:j<A.n)(e:s.w j=.wait\/s.w j=.xY):¬fS P A s (A.b+j):=by
 have:=A.hb;rintro(⟨e,_⟩|⟨l,a,c,d⟩|⟨e,_⟩)
 . omega
 . grind
 omega
def wI(hj:j<A.n)(e:s.w j=.xY):cx P A Fin s (A.b+j)=kD P A:=by
 have:=A.hb;unfold cx
 grind
def fe  g   fn   pos :MemOp.ofEvents g fn pos #[]=#[]:=by rw[ofEvents_eq];simp
def pZ(t:Trace):t++(#[]:Trace)=t:=by simp
def Cl:jZ #[]:=λop h=>by simp at h
def NU  E  (k:A.dir=false) (C:bC (bV P A Fin Z E) Z s f q kk OO J M gs w t) (hj:j<A.n){W}(o:s.w j=.run false W) (X:s.ms≠.parked) (S:gs[A.b+j]?=some g)
 (Y:∀w,Sat (kk (A.b+j)) (OO (A.b+j)) w->stepG P false g w=.comm g₂ #[scase A.cF v z] true .send w #[]) (hO:OO (A.b+j) A.fb=none) (hv:V (kk (A.b+j)) v (A.res j)) (ht:T P (kD P A) gg (kk (A.b+j)) (OO (A.b+j)) (Go.Conc.served g₂ undef))  sl :
 Goes P A Fin Z E s gs w t sl (A.b+j):=by
 have m:cS P A Z s kk OO J M gs.size w t:=C.ex;have hb:=A.hb;have F:(A.b+j==0)=false:=by simp;omega
 obtain⟨c,tm,U⟩:=m.yV k
 have G:s.c.dV=false:=by
  cases e:s.c with
  |gone=>have:=(m.I.g8 (by rw[e];rfl)).2.2.2 j hj;simp_all
  |_=>rfl
 rw[G]at U;have H:=(zs.1 S).1;obtain⟨_,_,_,_,_,_,hd,_⟩:=C.live _ (jO hj o)
 have K:∀L∈(#[scase A.cF v z]:Array CommCase),NoWays w (gs.setIfInBounds (A.b+j) ph) L:=λL a7=>by
  have:L=scase A.cF v z:=by simp_all
  subst this;exact ways_send_none U (by simp) (nO λi x _ hx=>uD E C hx (.inl X))
 have p:=crowd_waits (P:=P) (sl:=sl) S (by rw[F];exact Y w (C.cJ.sat _)) K
 rw[fe]at p;have N:∀i,¬(i=A.b+j)->(gs.setIfInBounds (A.b+j) (parked g₂ #[scase A.cF v z] .send))[i]?=gs[i]?:=λi D=>YC (zj D)
 have r:(gs.setIfInBounds (A.b+j) (parked g₂ #[scase A.cF v z] .send))[A.b+j]?=some (parked g₂ #[scase A.cF v z] .send):=zU H;have hP:cq Z kk OO J M w (t++#[]):=by rw[pZ];exact C.cJ
 obtain⟨s',a⟩:∃s',s'=s.kh j .wait s.ms s.sp:=⟨_,rfl⟩;have d:s'.w j=.wait:=by rw[a,eM]
 have O:∀{l:Nat},l≠j->s'.w l=s.w l:=λh=>by rw[a,jg h]
 have hI:bN A.n s':=by
  rw[a];refine m.I.kh hj (by rw[o];rfl) (by rw[o];rfl) rfl (by grind) rfl (by rw[o];rfl) rfl (.inl ⟨rfl,by rw[o];rfl⟩) (λh=>by cases h) ?_
  have:=m.I.ms
  grind
 have u:∀l,l<A.n->(s'.w l).iq=(s.w l).iq:=λl _=>by
  by_cases e:l=j
  . subst e;rw[d,o];rfl
  grind
 have y:∀l,(s'.w l).busy=(s.w l).busy:=λl=>by
  by_cases e:l=j
  . subst e;rw[d,o];rfl
  grind
 have Q:cS P A Z s' kk OO J M (gs.setIfInBounds (A.b+j) (parked g₂ #[scase A.cF v z] .send)).size w (t++#[]):=by
  refine m.chan hI (AN k (by rw[a];exact m.off.2.2 k)) (by rw[a];rfl) (λh=>by simp_all) (by rw[Zp,a];exact m.size) (by rw[a];exact m.yV) (λ_ _=>rfl) (by rw[a];rfl) (by rw[a];rfl) (by rw[a];rfl) (by rw[a];rfl) (λl _=>?_) (λi b n v h=>⟨i,h⟩) rfl (λi=>?_) (.inl (by rw[a];rfl)) (λop h=>by simp at h) (λi D=>.inl ?_) (λi R hn=>m.B3 i R λh=>hn ?_)
  . by_cases e:l=j
    . subst e;rw[d,o];rfl
    grind
  . rw[m.hJ i]
    unfold dL;simp only[y,show s'.c=s.c by rw[a];rfl]
  . rw[a]at D;exact D
  rw[a];exact h
 have hL:MS.fL A.n s' s:=by rw[a];exact tD hj (by rw[o];simp[bo.bZ])
 have hS:gF A s s' (λi=>i=A.b+j):=⟨λl _ hl=>O (by omega),λ_=>by rw[a];rfl,λ_=>⟨by rw[a];rfl,wE u⟩,by rw[a];rfl,by rw[a];rfl⟩
 refine⟨_,_,p,s',f,q,kk,OO,J,M,_,_,_,rfl,hL,?_⟩;refine C.Ha Cl hP Q (by simp) (λi=>i=A.b+j) N (kQ E hS (λ_ _=>rfl) (λ_ _=>rfl) (λ_ _ _=>rfl) (λ_ _ _=>rfl) (λ_ _ _ h=>h)) (λi D=>?_)
 subst D;have B:eL P A s' (A.b+j):=.inr ⟨j,hj,rfl,d⟩;refine⟨_,r,λh=>absurd h (wH hj d),λh=>absurd h (nP hj (.inl d)),λ_=>⟨wH hj d,nP hj (.inl d),?_,by simp_all,rfl,.inr ⟨j,hj,rfl,g₂,z,v,rfl,hv,hO,ht,k⟩⟩,λ_ _ h=>absurd B h⟩
 omega
def mc(a b c s r cap:Nat)(f1 d:FuncId)(e f:String):Trace:=#[{g:=a,fn:=f1,pos:=e,act:=.send c s},{g:=b,fn:=d,pos:=f,act:=.recv c r cap},{g:=a,fn:=f1,pos:=e,act:=.sendDone c s},{g:=b,fn:=d,pos:=f,act:=.recvDone c r}]
def jQ{a b c s r cap f1 d e f op}(h:op∈mc a b c s r cap f1 d e f):op.act.touch?=none/\(op.act≠.mark .disable/\op.act≠.mark .enable)/\(∀B,c<B->op.act.low B)/\∀a,op.act≠.mark (.release a):=by
 simp only[mc,List.mem_toArray,YQ,ZK,or_false]at h;rcases h with rfl|rfl|rfl|rfl<;>exact⟨rfl,⟨by simp,by simp⟩,λB g=>g,by simp⟩
def sk{w c cap s r buf cl tm d}(a:ChanAt w c){b}:
 ((w.at d).setChan c cap buf cl s r tm).heap[b]?=if b=c then some (.chan cap buf cl s r tm)else w.heap[b]?:=by
 obtain⟨_,_,_,_,_,_,h⟩:=a;have e:=(zs.1 h).1;simp only[World.setChan,World.at]
 grind
def wJ  m   R :(qC P A Fin m R).solo=false:=by cases m<;>rfl
def mZ(e:s.ms=.recv):cx P A Fin s 0=qC P A Fin (MS.rem P A.n s).length (MS.rem P A.n s):=by
 unfold cx
 simp_all
def iK(e:s.ms=.recv):dq P A s 0:=.inl ⟨rfl,by simp_all⟩
def sm(hd:A.dir=false)(e:s.ms=.recv\/s.ms=.parked):¬fS P A s 0:=by
 have:=A.hb;have:=uz hd;rintro(⟨_,h⟩|⟨l,a,b,c⟩|⟨h,_⟩)
 . grind
 . omega
 omega
def Cm{x}:Ny P A s 0 x:=λj h X a b _=>by have:=A.hb;omega
def F8{x}(e:s.w j=.xY):Ny P A s (A.b+j) x:=λl h X a c d=>by simp_all
def handed  Y  (u:A.dir=false) (H:bC (bV P A Fin Z Y) Z s f q kk OO J M gs w t) (hj:j<A.n) (K:s.ms=.recv\/s.ms=.parked) (L:s.w j=.wait\/∃X0,s.w j=.run false X0) (bm:(s.w j).bZ+s.ms.bZ=119){c tm gw gm v}  d
 (hF:w.heap[A.cF]?=some (.chan 0 #[] false c c tm)) (dj:Deaf t (A.b+j)=0) (d0:Deaf t 0=0)
 (a7:gs'.size=gs.size) (hw:gs'[A.b+j]?=some gw) (hm:gs'[0]?=some gm) (ho:∀i,i≠0->i≠A.b+j->gs'[i]?=gs[i]?)
 (hv:V (kk (A.b+j)) v (A.res j)) (a8:T P (kD P A) gg (kk (A.b+j)) (OO (A.b+j)) gw)
 (a9:∀k',(kk 0).Le k'->V k' v (A.res j)->T P (qC P A Fin ((MS.rem P A.n s).length-1) ((MS.rem P A.n s).erase j)) gg k' (OO 0) gm)  f1 N   O Q :
 ∃s' f' kk',MS.fL A.n s' s/\bC (bV P A Fin Z Y) Z s' f' q kk' OO J M gs' ((w.at d).setChan A.cF 0 #[] false (c+1) (c+1) tm) (t++mc (A.b+j) 0 A.cF c c 0 f1 N O Q):=by
 have C:cS P A Z s kk OO J M gs.size w t:=H.ex;have hb:=A.hb;have B:ChanAt w A.cF:=⟨_,_,_,_,_,_,hF⟩;have ad:A.cF<w.heap.size:=(zs.1 hF).1;have X:jZ (mc (A.b+j) 0 A.cF c c 0 f1 N O Q):=λop h=>(jQ h).2.1
 have al:(kk (A.b+j)).Le ((kk 0).join (kk (A.b+j))):=ao.vZ (H.cJ.sat 0) (H.cJ.sat _);have av:=a9 _ (ao.rQ _ _) (hv.mono al);obtain⟨R⟩:=T.tree (wJ (P:=P) (A:=A) (Fin:=Fin) _ _) av;obtain⟨S⟩:=T.tree (P:=P) (m:=kD P A) rfl a8;have bw:=K
 have U:s.sp=A.n/\s.c≠.none:=by
  have:=C.I.ms
  grind
 have ax:s.c.dV=false:=by
  cases e:s.c with
  |gone=>have:=(C.I.g8 (by rw[e];rfl)).2.2.2 j hj;simp_all
  |_=>rfl
 have hP:cq Z (bP kk 0 ((kk 0).join (kk (A.b+j)))) OO J M ((w.at d).setChan A.cF 0 #[] false (c+1) (c+1) tm) (t++mc (A.b+j) 0 A.cF c c 0 f1 N O Q):=by
  refine H.cJ.hand (src:=A.b+j) (dst:=0) (by omega) (by omega) (λn hn=>?_) (λop h=>(jQ h).1) (λop h=>(jQ h).2.2.1 _ ad) (by simp[World.setChan,World.at]) ⟨⟨.refl _,rfl⟩,λb hb=>by have:=C.eD.1 u;simp only[World.setChan,World.at];grind⟩ (λb=>?_) (λn a ha hm h=>h.elim (λ⟨j,h1,h2⟩=>.inr (.inl ⟨j,h1,h2.app _⟩)) (λ⟨p,h1,h2⟩=>.inr (.inr (.inl ⟨p,h1,h2.app _⟩))))
  . exact v7 (t:=t) X (m1:=0) (m2:=3) (c:=A.cF) (k:=c) (x:={g:=A.b+j,fn:=f1,pos:=O,act:=.send A.cF c}) (y:={g:=0,fn:=N,pos:=Q,act:=.recvDone A.cF c}) rfl rfl rfl rfl dj d0 hn
  unfold Kept;rw[sk B]
  by_cases E:b=A.cF
  . subst E
    exact .inr (.inl ⟨B,⟨_,_,_,_,_,_,by rw[sk B,YG rfl]⟩,λi=>(C.fT i).1 u⟩)
  grind
 have ay:(s.w j).iq=false:=by rcases L with h|⟨_,h⟩<;>rw[h]<;>rfl
 obtain⟨s',o⟩:∃s',s'=s.kh j .xY .recv s.sp:=⟨_,rfl⟩;obtain⟨D,aC⟩:=NT (A:=A) (s:=s) (m1:=.recv) (sp1:=s.sp) hj ay;rw[<-o]at D aC;have r:s'.w j=.xY:=by rw[o,eM]
 have aE:∀{l:Nat},l≠j->s'.w l=s.w l:=λh=>by rw[o,jg h]
 have F:s'.c=s.c:=by rw[o];rfl
 have G:s'.ms=.recv:=by rw[o];rfl
 have aL:(s.w j).busy=true/\(s.w j).cnt=1/\(s.w j).last=false/\(s.w j).pc=.out/\(s.w j).jd=false/\s.w j≠.gone/\(s.w j).owns=false:=by rcases L with h|⟨_,h⟩<;>rw[h]<;>simp[bo.busy,bo.cnt,bo.last,bo.pc,bo.jd,bo.owns]
 obtain⟨b1,b2,b3,b4,b5,b6,b7⟩:=aL
 have hI:bN A.n s':=by rw[o];refine C.I.kh hj (by rw[b2];rcases K with e|e<;>rw[e]<;>rfl) b3 rfl b6 rfl (by rw[b4];rfl) rfl (.inl ⟨rfl,b5⟩) (λ_=>U.2) U
 have aO:∀l,(s'.w l).busy=(s.w l).busy:=λl=>by
  by_cases e:l=j
  . subst e;rw[r,b1];rfl
  grind
 have b0:cS P A Z s' (bP kk 0 ((kk 0).join (kk (A.b+j)))) OO J M gs'.size ((w.at d).setChan A.cF 0 #[] false (c+1) (c+1) tm) (t++mc (A.b+j) 0 A.cF c c 0 f1 N O Q):=by
  refine C.chan hI (AN u (by simp_all)) (by rw[o];rfl) (λh=>by simp_all) (by rw[a7,o];exact C.size) (λ_=>⟨c+1,tm,by rw[sk B,YG rfl,F,ax]⟩) (λb E=>by rw[sk B,YA E]) (by rw[o];rfl) (by rw[o];rfl) (by rw[o];rfl) (by rw[o];rfl) (λl _=>?_) (λi b n v h=>?_) (ar _ _ (by omega)) (λi=>?_) (.inl F) (λop h=>⟨(jQ h).1,(jQ h).2.2.2⟩) (λi z=>.inl ?_) (λi b8 hn=>?_)
  . by_cases e:l=j
    . subst e;rw[r,b7];rfl
    grind
  . by_cases e:i=0
    . subst e
      rw[an]at h;exact(ao.mT h).elim (λh=>⟨0,h⟩) (λh=>⟨_,h⟩)
    rw[ar _ _ e]at h;grind
  . rw[C.hJ i]
    unfold dL
    simp_all
  . rw[o]at z;exact z
  have W:¬bQ P A s i:=λh=>hn (by rw[o];exact h)
  rw[ar _ _ (λe=>W (.inl e))]
  exact C.B3 i b8 W
 have hL:MS.fL A.n s' s:=by rw[o];refine tD hj ?_;have e1:(bo.xY (P:=P)).bZ=18:=rfl;have e2:oE.recv.bZ=100:=rfl;omega
 have hS:gF A s s' (λi=>i=0\/i=A.b+j):=⟨λl _ hl=>aE (λe=>hl (.inr (by omega))),λ_=>F,λh=>absurd (.inl rfl) h,by rw[o];rfl,by rw[o];rfl⟩
 refine⟨s',bP (bP f 0 ⟨_,_,_,_,R⟩) (A.b+j) ⟨_,_,_,_,S⟩,bP kk 0 ((kk 0).join (kk (A.b+j))),hL,?_⟩;refine H.Ha X hP b0 (by omega) (λi=>i=0\/i=A.b+j) (λi z=>ho i (λe=>z (.inl e)) (λe=>z (.inr e))) (kQ Y hS (λi z=>by rw[ar _ _ (λe=>z (.inr e)),ar _ _ (λe=>z (.inl e))]) (λ_ _=>rfl) (λi z _=>ar _ _ (λe=>z (.inl e))) (λ_ _ _=>rfl) (λ_ _ _ h=>h)) (λi z=>?_)
 rcases z with rfl|rfl
 . refine⟨gm,hm,λ_=>?_,λh=>absurd h (sm u (.inl G)),λh=>absurd h (ma (by simp_all)),λh=>absurd (iK G) h⟩
   have b9:(0:Nat)≠A.b+j:=by omega
   rw[ar _ _ b9,an,an];refine⟨by show 0<A.b+A.n+1;omega,rfl,?_,rfl,rfl,R.running,by rw[bX X];exact d0,.inl rfl,Cm⟩
   show qC P A Fin _ _=cx P A Fin s' 0;rw[mZ G,D]
   simp_all
 refine⟨gw,hw,λ_=>?_,λh=>absurd h (nP hj (.inr r)),λh=>absurd h (tB hj r),λh=>absurd (se hj r) h⟩
 rw[an,ar _ _ (by omega)]
 refine⟨by show A.b+j<A.b+A.n+1;omega,rfl,?_,rfl,rfl,S.running,by rw[bX X];exact dj,.inr ((C.hJ _).2 (.inl ⟨j,hj,rfl,b1⟩)),F8 r⟩
 show kD P A=cx P A Fin s' (A.b+j);rw[wI hj r]
end
section
variable{P:abm}{A:bJ}{Fin:aaG}{Z:Base}{s s':MS P}{f f':Nat->Node P}{q q':abg}{kk kk':abl}{OO OO':abk}{J J' M M':aba}{gs gs':aaJ}{w w':World}{t u:Trace}{j:Nat}{g g₂:abd}{z v:Value}
def Hb{k O g g₂ a z y}(h:dB P A k O g g₂ z)(c:dB P A k O g a y)(b:Sat k O w):a=g₂/\y=z:=by
 have e:=(h w b).symm.trans (c w b);simp only[GStep.comm.injEq,rcase]at e
 simp_all
def Eo{g g' cs a sh b}(h:parked g cs sh=parked g' a b):(∀v,Go.Conc.served g v=Go.Conc.served g' v)/\cs=a/\sh=b/\g.frame=g'.frame:=by
 refine⟨λv=>?_,?_,?_,?_⟩
 . show Go.Conc.served (parked g cs sh) v=Go.Conc.served (parked g' a b) v;rw[h]
 . have:=congrArg (λx:abd=>x.offers) h
   simp only[parked,kn,zG]at this;exact this.1
 . have:=congrArg (λx:abd=>x.offers) h
   simp only[parked,kn,zG]at this;exact this.2
 show(parked g cs sh).frame=(parked g' a b).frame;rw[h]
def yY{k O g g₂ z m R N}(h:(qC P A Fin (m+1) R).cY k O g N)(b:dB P A k O g g₂ z)(c:Sat k O w){j}(hj:j∈R):
 ∀k' v,k.Le k'->V k' v (A.res j)->T P (qC P A Fin m (R.erase j)) gg k' O (g₂.finishComm P #[rcase A.cF z] (.recv true) 0 v true):=by
 obtain⟨_,a,y,d,f,i,e⟩:=h;obtain⟨rfl,rfl⟩:=Hb b d c;exact e j hj
def J5{m R k O g N}(h:(qC P A Fin m R).cY k O g N):
 ∃g₂ z,dB P A k O g g₂ z/\dB P A k O g₂ g₂ z/\g₂.status=.running/\(qC P A Fin m R).cY k O g₂ gg:=by
 cases m with
 |zero=>obtain⟨_,g₂,z,c,a,b,d⟩:=h;exact⟨g₂,z,c,a,b,rfl,g₂,z,a,a,b,d⟩
 |succ m=>obtain⟨_,g₂,z,c,a,b,d⟩:=h;exact⟨g₂,z,c,a,b,rfl,g₂,z,a,a,b,d⟩
def wM(hj:j<A.n)(h:(s.w j).iq=false):∃m,(MS.rem P A.n s).length=m+1:=by
 have:j∈MS.rem P A.n s:=sf.2 ⟨hj,h⟩;have:=List.length_pos_of_mem this
 simp_all
def Cn(I:bN A.n s)(hj:j<A.n)(h:s.w j≠.gone):s.c.dV=false:=by
 cases e:s.c with
 |gone=>exact absurd ((I.g8 (by rw[e];rfl)).2.2.2 j hj) h
 |_=>rfl
def J6  y  (d:A.dir=false) (h:bC (bV P A Fin Z y) Z s f q kk OO J M gs w t) (hj:j<A.n){H}(B:s.w j=.run false H) (C:s.ms=.parked) (K:gs[A.b+j]?=some g)
 (U:∀w,Sat (kk (A.b+j)) (OO (A.b+j)) w->stepG P false g w=.comm g₂ #[scase A.cF v z] true .send w #[]) (W:V (kk (A.b+j)) v (A.res j)) (X:T P (kD P A) gg (kk (A.b+j)) (OO (A.b+j)) (Go.Conc.served g₂ undef))  sl :
 Goes P A Fin Z y s gs w t sl (A.b+j):=by
 have L:cS P A Z s kk OO J M gs.size w t:=h.ex;have hb:=A.hb;have D:(A.b+j==0)=false:=by simp;omega
 obtain⟨c,tm,E⟩:=L.yV d;rw[Cn L.I hj (by grind)]at E
 have Y:=(zs.1 K).1;obtain⟨_,_,_,_,_,_,hd,_⟩:=h.live _ (jO hj B);obtain⟨_,_,_,d0,gp,F,_,p5⟩:=h.held 0 (.inl ⟨rfl,C⟩);obtain⟨_,gm,N,rfl,p6,p7,O⟩|⟨l,h1,h2,_⟩:=p5
 . have a:=stand_get (i:=A.b+j) (show(0:Nat)≠A.b+j by omega) F
   have o:partners (gs.setIfInBounds (A.b+j) ph) A.cF false=[(0,0)]:=by
    rw[partners_one a (λk x hk G=>?_),offersAt_parked_recv,YG rfl]
    . rfl
    rcases getElem?_stand gs (A.b+j) k x G with⟨_,rfl⟩|⟨a7,G⟩
    . exact offersAt_ph ..
    exact uD y h G (.inr hk)
   have e:=crowd_send_meets (P:=P) (sl:=sl) K (by rw[D];exact U w (h.cJ.sat _)) E (by omega) F o
   rw[fe]at e;have p:(s.w j).iq=false:=by rw[B];rfl
   obtain⟨m,r⟩:=wM (A:=A) (s:=s) hj p;rw[r]at O;have Q:0<gs.size:=(zs.1 F).1
   obtain⟨s',f',kk',hL,u⟩:=handed y d h hj (.inr C) (.inr ⟨H,B⟩) (by rw[B,C];rfl) (gs':=(gs.setIfInBounds 0 (gm.finishComm P #[rcase A.cF N] (.recv true) 0 v true)).setIfInBounds (A.b+j) (g₂.finishComm P #[scase A.cF v z] .send 0 undef false)) (gw:=Go.Conc.served g₂ undef) (gm:=gm.finishComm P #[rcase A.cF N] (.recv true) 0 v true) w.drawn E hd d0 (by simp)
    (by rw[zU (by simp_all)];rfl) (by simp_all)
    (λi R S=>by grind) W X
    (λk' R S=>by rw[r];exact yY O p6 (h.cJ.sat 0) (sf.2 ⟨hj,p⟩) k' v R S) g₂.frame.fn gm.frame.fn g₂.frame.place gm.frame.place
   refine⟨_,_,e,s',f',q,kk',OO,J,M,_,_,sl,rfl,hL,?_⟩;rw[show w.at w.drawn=w from rfl]at u
   simpa[mc]using u
 omega
def J7  G  (v:A.dir=false) (u:bC (bV P A Fin Z G) Z s f q kk OO J M gs w t) (hm:s.ms=.recv) (hj:j<A.n) (hw:s.w j=.wait) (hg:gs[0]?=some g)
 (hs:dB P A (kk 0) (OO 0) g g₂ z){N}(ht:(qC P A Fin (MS.rem P A.n s).length (MS.rem P A.n s)).cY (kk 0) (OO 0) g N)  sl :
 Goes P A Fin Z G s gs w t sl 0:=by
 have hE:cS P A Z s kk OO J M gs.size w t:=u.ex;have hb:=A.hb;obtain⟨c,tm,hF⟩:=hE.yV v;rw[Cn hE.I hj (by grind)]at hF
 have al:=(zs.1 hg).1;obtain⟨_,_,_,_,_,_,d0,_⟩:=u.live _ (iK hm)
 have h:∀{i:Nat}{x:abd},gs[i]?=some x->i≠0->eL P A s i->∃a,a<A.n/\i=A.b+a/\s.w a=.wait/\∃p B o,x=parked p #[scase A.cF o B] .send/\V (kk i) o (A.res a)/\T P (kD P A) gg (kk i) (OO i) (Go.Conc.served p undef):=λ{i x} F H D=>by
  obtain⟨_,_,_,_,y,r1,r2,r3⟩:=u.held i D;rw[F]at r1;obtain rfl:=YX r1
  rcases r3 with⟨h0,_⟩|⟨a,h1,h2,p,B,o,h3,h4,_,h5,_⟩
  . omega
  refine⟨a,h1,h2,?_,p,B,o,h3,h4,h5⟩
  rcases D with⟨h6,_⟩|⟨l,h6,h7,h8⟩
  . omega
  simp_all
 obtain⟨_,_,_,_,x0,e0,_⟩:=u.held (A.b+j) (.inr ⟨j,hj,rfl,hw⟩);obtain⟨a0,_,_,_,av,ax,ay,rfl,_⟩:=h e0 (by omega) (.inr ⟨j,hj,rfl,hw⟩)
 have a7:partners (gs.setIfInBounds 0 ph) A.cF true≠[]:=λe=>by
  have:(A.b+j,0)∈partners (gs.setIfInBounds 0 ph) A.cF true:=mem_partners.2 ⟨_,stand_get (by omega) e0,by rw[offersAt_parked_send,YG rfl];simp⟩
  simp_all
 have a8:∀i k,(i,k)∈partners (gs.setIfInBounds 0 ph) A.cF true->k=0/\i≠0/\∃x,gs[i]?=some x/\eL P A s i:=λi k K=>by
  obtain⟨x,F,L⟩:=mem_partners.1 K
  rcases getElem?_stand gs 0 i x F with⟨_,rfl⟩|⟨hi,F⟩
  . rw[offersAt_ph]at L;cases L
  by_cases D:eL P A s i
  . obtain⟨a,_,_,_,p,B,o,rfl,_⟩:=h F hi D
    rw[offersAt_parked_send,YG rfl]at L
    simp_all
  rw[u.quiet (bf (P:=P) (A:=A) (Fin:=Fin) (Z:=Z) G) F D]at L;cases L
 have O:∀i k,(i,k)∈partners (gs.setIfInBounds 0 ph) A.cF true->k=0/\i≠0/\∃p o B Q,gs[i]?=some (parked p #[scase A.cF o B] Q):=λi k K=>by grind
 obtain⟨i,p,o,B,Q,d,H,E,C⟩:=crowd_recv_meets_some (P:=P) (sl:=sl) hg (show stepG P (0==0) g w=_ from hs w (u.cJ.sat 0)) hF a7 O
 rw[fe]at C
 have r:eL P A s i:=Zm λD=>by have:=u.quiet (bf (P:=P) (A:=A) (Fin:=Fin) (Z:=Z) G) E D A.cF true;rw[offersAt_parked_send,YG rfl]at this;cases this
 obtain⟨a,a2,rfl,a3,aC,aE,a9,R,S,e3⟩:=h E H r;obtain⟨i1,i2,i3,i4⟩:=Eo R
 have i5:o=a9:=by
  have:=congrArg (λx:Array CommCase=>x[0]?) i2
  simp[scase]at this;exact this.1
 subst i3;subst i5;obtain⟨_,_,_,dj,_⟩:=u.held _ r;have U:=(zs.1 E).1;have W:(s.w a).iq=false:=by rw[a3];rfl
 obtain⟨m,X⟩:=wM (A:=A) (s:=s) a2 W;have Y:=ht;rw[X]at Y
 obtain⟨s',f',kk',hL,ad⟩:=handed G v u a2 (.inl hm) (.inl a3) (by rw[a3,hm];rfl) (gs':=(gs.setIfInBounds (A.b+a) (p.finishComm P #[scase A.cF o B] .send 0 undef false)).setIfInBounds 0 (g₂.finishComm P #[rcase A.cF z] (.recv true) 0 o true)) (gw:=Go.Conc.served p undef) (gm:=g₂.finishComm P #[rcase A.cF z] (.recv true) 0 o true) d hF dj d0 (by simp)
  (by rw[YC (by omega),zU U];rfl) (by grind)
  (λi R S=>by rw[YC (zj R),YC (zj S)]) S (by grind)
  (λk' R S=>by rw[X];exact yY Y hs (u.cJ.sat 0) (sf.2 ⟨a2,W⟩) k' o R S) p.frame.fn g₂.frame.fn p.frame.place g₂.frame.place
 refine⟨_,_,C,s',f',q,kk',OO,J,M,_,_,sl,rfl,hL,?_⟩;simpa[mc]using ad
def sn(hd:A.dir=false)(a:s.ms=.parked):¬dq P A s 0:=by
 have:=A.hb;have:=uz hd;rintro(⟨_,h⟩|⟨l,b,c,d⟩|⟨h,_⟩)
 . simp_all
 . omega
 omega
def J8  K  (k:A.dir=false) (C:bC (bV P A Fin Z K) Z s f q kk OO J M gs w t) (L:s.ms=.recv) (E:∀j,j<A.n->s.w j≠.wait) (F:s.c≠.gone) (U:gs[0]?=some g)
 (X:dB P A (kk 0) (OO 0) g g₂ z) (N:dB P A (kk 0) (OO 0) g₂ g₂ z) (Y:g₂.status=.running) (ht:(qC P A Fin (MS.rem P A.n s).length (MS.rem P A.n s)).cY (kk 0) (OO 0) g₂ gg)  sl :
 Goes P A Fin Z K s gs w t sl 0:=by
 have d:cS P A Z s kk OO J M gs.size w t:=C.ex;have hb:=A.hb;obtain⟨c,tm,V⟩:=d.yV k
 have G:s.c.dV=false:=by
  cases e:s.c.dV with
  |true=>exact absurd (qW.1 e) F
  |false=>rfl
 rw[G]at V;have O:=(zs.1 U).1;obtain⟨_,_,_,_,_,_,d0,_⟩:=C.live _ (iK L)
 have H:∀Q∈(#[rcase A.cF z]:Array CommCase),NoWays w (gs.setIfInBounds 0 ph) Q:=λQ a7=>by
  have:Q=rcase A.cF z:=by simp_all
  subst this;exact ways_recv_none V (nO λi x _ hx=>uE K C hx (λj h1 h2=>E j h1) _)
 have p:=crowd_waits (P:=P) (sl:=sl) U (show stepG P (0==0) g w=_ from X w (C.cJ.sat 0)) H
 rw[fe]at p;have R:∀i,¬(i=0)->(gs.setIfInBounds 0 (parked g₂ #[rcase A.cF z] (.recv true)))[i]?=gs[i]?:=λi D=>YC (zj D)
 have r:(gs.setIfInBounds 0 (parked g₂ #[rcase A.cF z] (.recv true)))[0]?=some (parked g₂ #[rcase A.cF z] (.recv true)):=zU O;have hP:cq Z kk OO J M w (t++#[]):=by rw[pZ];exact C.cJ
 obtain⟨s',a⟩:∃s',s'=s.mI .parked s.gc:=⟨_,rfl⟩;have m:s'.ms=.parked:=by rw[a];rfl
 have o:s'.w=s.w:=by rw[a];rfl
 have u:s'.c=s.c:=by rw[a];rfl
 have y:=d.I.ms;rw[L]at y
 have hI:bN A.n s':=by rw[a];exact⟨by have:=d.I.g1;rw[L]at this;exact this,d.I.g2,d.I.Ef,d.I.g3,d.I.FW,d.I.g4,d.I.g5,d.I.g6,d.I.g7,d.I.g8,d.I.g9,d.I.ok,d.I.Rm,d.I.sp,d.I.idle,⟨y.1,y.2,F,E⟩,d.I.early,d.I.mu⟩
 have S:cS P A Z s' kk OO J M (gs.setIfInBounds 0 (parked g₂ #[rcase A.cF z] (.recv true))).size w (t++#[]):=by
  refine d.chan hI (AN k (by simp_all)) (by rw[a];rfl) (λh=>by simp_all) (by rw[Zp,a];exact d.size) (by simp_all) (λ_ _=>rfl) (by rw[a];rfl) (by rw[a];rfl) (by rw[a];rfl) (by rw[a];rfl) (λl _=>by rw[o]) (λi b n v h=>⟨i,h⟩) rfl (λi=>?_) (.inl u) (λop h=>by simp at h) (λi D=>.inl ?_) (λi T hn=>d.B3 i T λh=>hn ?_)
  . rw[d.hJ i]
    unfold dL;rw[o,u]
  . rw[a]at D;exact D
  rw[a];exact h
 have hL:MS.fL A.n s' s:=by
  refine .inl ?_;rw[a];show oE.parked.bZ+sumTo A.n (λi=>(s.w i).bZ)+s.c.bZ s.gc<s.ms.bZ+sumTo A.n (λi=>(s.w i).bZ)+s.c.bZ s.gc
  rw[L];have e1:oE.parked.bZ=99:=rfl;have e2:oE.recv.bZ=100:=rfl;omega
 have W:MS.rem P A.n s'=MS.rem P A.n s:=wE λl _=>by rw[o]
 have hS:gF A s s' (λi=>i=0):=⟨λl _ hl=>by rw[o],λ_=>u,λh=>absurd rfl h,by rw[a];rfl,by rw[a];rfl⟩
 refine⟨_,_,p,s',f,q,kk,OO,J,M,_,_,_,rfl,hL,?_⟩;refine C.Ha Cl hP S (by simp) (λi=>i=0) R (kQ K hS (λ_ _=>rfl) (λ_ _=>rfl) (λ_ _ _=>rfl) (λ_ _ _=>rfl) (λ_ _ _ h=>h)) (λi D=>?_)
 subst D;have B:eL P A s' 0:=.inl ⟨rfl,m⟩;refine⟨_,r,λh=>absurd h (sn k m),λh=>absurd h (sm k (.inr m)),λ_=>⟨sn k m,sm k (.inr m),?_,by simp_all,rfl,.inl ⟨rfl,g₂,z,rfl,N,Y,by simp_all⟩⟩,λ_ _ h=>absurd B h⟩
 omega
end
def iB(c:Nat):aaU:=#[⟨.obj c,false,true⟩,⟨.obj c,true,true⟩]
def me  i   fn   pos   c :MemOp.ofEvents i fn pos (iB c)=#[{g:=i,fn:=fn,pos:=pos,act:=.access ⟨.obj c,false,true⟩},{g:=i,fn:=fn,pos:=pos,act:=.close c}]:=by rw[ofEvents_eq];simp[iB,MemAct.ofEvent]
def eU{i fn pos c op}(h:op∈MemOp.ofEvents i fn pos (iB c)):op.g=i/\(op.act≠.mark .disable/\op.act≠.mark .enable)/\(∀a,op.act.touch?=some a->a.loc=.obj c/\a.kind=.atomic)/\(∀B,c<B->op.act.low B)/\∀a,op.act≠.mark (.release a):=by
 rw[me]at h;simp only[List.mem_toArray,YQ,ZK,or_false]at h;rcases h with rfl|rfl
 . exact⟨rfl,⟨by simp,by simp⟩,λa b=>by simp only[MemAct.touch?,kn]at b;grind,λB d=>d,by simp⟩
 exact⟨rfl,⟨by simp,by simp⟩,λa b=>(by cases b),λB d=>d,by simp⟩
section
variable{P:abm}{A:bJ}{Fin:aaG}{Z:Base}{s s':MS P}{f f':Nat->Node P}{q q':abg}{kk kk':abl}{OO OO':abk}{J J' M M':aba}{gs gs':aaJ}{w w':World}{t u:Trace}{j:Nat}{g g₂:abd}{z v:Value}
def dB.again{k O g g₂ z a}(h:dB P A k O g g₂ z)(c:g.status=.running)  sh :dB P A k O {parked g #[rcase A.cF a] sh with status:=.running} g₂ z:=λw b=>by
 rw[stepG_tries];have:({g with status:=.running}:abd)=g:=by cases g;simp_all
 rw[this];exact h w b
def Hc{m R k O g z sh N}(h:(qC P A Fin m R).cY k O g N)(e:g.status=.running):
 T P (qC P A Fin m R) gg k O {parked g #[rcase A.cF z] sh with status:=.running}:=by
 refine .cY gg rfl ?_ (λ_ _ _ h=>h.elim);cases m with
 |zero=>obtain⟨_,g₂,y,a,b,c,d⟩:=h;exact⟨rfl,g₂,y,a.again e sh,b,c,d⟩
 |succ m=>obtain⟨_,g₂,y,a,b,c,d⟩:=h;exact⟨rfl,g₂,y,a.again e sh,b,c,d⟩
def cq.shut(h:cq Z kk OO J M w t){i c x tm}(F:∀l,J l->l=i)(G:∀p,¬M p)(u:w.heap[c]?=some (.chan 0 #[] false x x tm))(H:∀l,OO l c=none)(I:∀n b,touchAt t n=some b->b.loc=.obj c->b.kind=.plain->Knows t i n)(B:Z.W0.heap.size<=c)  fn   pos :
 cq Z kk OO (λ_=>False) (λp=>p=t.size+1) {w with heap:=w.heap.setIfInBounds c (.chan 0 #[] true x x tm)} (t++MemOp.ofEvents i fn pos (iB c)):=by
 have q:c<w.heap.size:=(zs.1 u).1;have k:(MemOp.ofEvents i fn pos (iB c))[1]?=some {g:=i,fn:=fn,pos:=pos,act:=.close c}:=by rw[me];rfl
 have f:∀b,(w.heap.setIfInBounds c (.chan 0 #[] true x x tm))[b]?=if b=c then some (.chan 0 #[] true x x tm)else w.heap[b]?:=λb=>by grind
 refine h.sZ (λa b=>a=b) (by simp) ⟨⟨.refl _,rfl⟩,λb hb=>by grind⟩ (λb=>?_) (λop d=>(eU d).2.2.2.1 _ q) (λa b e n y _ _ _ K=>by subst e;exact K.app _) (λj b n v h=>⟨j,rfl,h⟩) (λj b s h=>⟨j,rfl,h⟩) (λj b x h=>⟨j,rfl,h,λ_ h=>h⟩) h.jb
  (λsaid=>noRace_append (h.clean said) (λop d=>(eU d).1) λn a r op d b hb u=>?_) (λop d a r C=>?_) (λm op a d r C=>?_) (λn a r C L=>?_)
 . show Kept kk OO w _ b
   unfold Kept;rw[f]
   by_cases z:b=c
   . subst z
     exact .inr (.inl ⟨⟨_,_,_,_,_,_,u⟩,⟨_,_,_,_,_,_,by rw[f,YG rfl]⟩,H⟩)
   grind
 . obtain⟨D,N⟩:=(eU d).2.2.1 b hb
   obtain⟨P,_,_,Q⟩:=u
   simp_all
 . obtain⟨D,N⟩:=(eU d).2.2.1 a r
   rw[D];exact⟨q,λl o R=>by simp_all⟩
 . refine .inr (.inr (.inl ⟨t.size+1,rfl,?_⟩))
   have A:m=0:=by
    rw[me]at d
    match m,d with
    |0,_=>rfl
    |1,d=>simp at d;subst d;simp[MemAct.touch?]at r
    |m+2,d=>simp at d
   subst A;exact .inr (hb_po (by omega) (di (m:=0) d) (di (m:=1) k) (eU (Ze d)).1)
 rcases L with⟨l,E,O⟩|⟨p,E,_⟩
 . obtain rfl:=F l E
   exact .inr (.inr (.inl ⟨t.size+1,rfl,lh (m:=1) O k rfl⟩))
 simp_all
def J9  hZ  (r:A.dir=false) (U:bC (bV P A Fin Z hZ) Z s f q kk OO J M gs w t) (hw:s.c=.jc) (hg:gs[A.cl]?=some g){N}(ht:(qV P A).cY (kk A.cl) (OO A.cl) g N)  sl :
 Goes P A Fin Z hZ s gs w t sl A.cl:=by
 have d:cS P A Z s kk OO J M gs.size w t:=U.ex;have hb:=A.hb;obtain⟨rfl,g',nq,b2,hs,hq⟩:=ht;have b1:=uz r;obtain⟨x,tm,hF⟩:=d.yV r;have al:s.c.dV=false:=by rw[hw];rfl
 rw[al]at hF;obtain⟨c0,v0,m0,F⟩:=d.I.g8 (by rw[hw];rfl)
 have R:s.sp=A.n/\(s.ms=.recv\/s.ms=.parked):=by
  have:=d.I.ms;cases e:s.ms with
  |recv=>simp_all
  |parked=>simp_all
  |add l=>simp_all
  |bs l p=>simp_all
  |spawn l=>simp_all
  |off=>exact absurd e (d.off.2.2 r)
 have b3:=(zs.1 hg).1;obtain⟨_,_,_,_,_,_,hd,_⟩:=U.live _ (tz (.inl hw));have av:(A.cl==0)=false:=by simp;omega
 have b4:A.cF<w.heap.size:=(zs.1 hF).1;have G:=runT_crowd_go (P:=P) (sl:=sl) (i:=A.cl) hg (by rw[av];exact hs w x x tm (U.cJ.sat _) hF)
 obtain⟨w',ax⟩:∃w',w'={w with heap:=w.heap.setIfInBounds A.cF (.chan 0 #[] true x x tm)}:=⟨_,rfl⟩
 have hP:=U.cJ.shut (i:=A.cl) (c:=A.cF) (x:=x) (tm:=tm) (λl S=>by
  rcases(d.hJ l).1 S with⟨j,B,C,E⟩|⟨B,_⟩
  . rw[F j B]at E;cases E
  . exact B) (λp hp=>by
  obtain⟨_,_,E⟩:=d.hM p hp
  simp_all) hF (λl=>(d.fT l).1 r) (λn b hb S W=>d.quiet n b hb (by rw[S];exact⟨rfl,r⟩) W _ (F1 (by grind))) (d.eD.1 r) g.frame.fn g.frame.place
 rw[<-ax]at G hP
 change runT P (crowd gs w sl) A.cl=(_,MemOp.ofEvents A.cl g.frame.fn g.frame.place (iB A.cF))at G
 have hu:jZ (MemOp.ofEvents A.cl g.frame.fn g.frame.place (iB A.cF)):=λop h=>(eU h).2.1
 have u:∀b,w'.heap[b]?=if b=A.cF then some (.chan 0 #[] true x x tm)else w.heap[b]?:=λb=>by grind
 have b5:g'.status≠.blocked/\g'.status≠.waiting:=by rcases hq.status with h|h<;>rw[h]<;>simp
 have ay:∀o,woken P g g' w' o=o.again w':=λo=>by
  unfold Go.Conc.woken
  simp_all
 have ad:∀i o,gs[i]?=some o->i≠0->i≠A.cl->woken P g g' w' o=o:=λi o ho Q hn=>by
  have nl:¬dq P A s i:=by
   rintro(⟨e,_⟩|⟨l,B,C,E⟩|⟨e,_⟩)
   . exact Q e
   . simp_all
   omega
  have nw:¬fS P A s i:=by
   rintro(⟨e,_⟩|⟨l,B,C,E⟩|⟨e,_⟩)
   . exact Q e
   . simp_all
   omega
  have nh:¬eL P A s i:=by
   rintro(⟨e,_⟩|⟨l,B,C,E⟩)
   . exact Q e
   simp_all
  exact woken_quitsD (U.rest i o ho nl nw nh).2
 have aC:∀i,¬(i=0\/i=A.cl)->((gs.map (woken P g g' w')).setIfInBounds A.cl g')[i]?=gs[i]?:=λi D=>by grind
 have X:((gs.map (woken P g g' w')).setIfInBounds A.cl g')[A.cl]?=some g':=zU (by grind)
 obtain⟨s',v⟩:∃s':MS P,s'={s with c:=.gone,ms:=.recv}:=⟨_,rfl⟩
 have Y:s'.ms=.recv:=by rw[v]
 have H:s'.w=s.w:=by rw[v]
 have K:s'.c=.gone:=by rw[v]
 have a7:MS.rem P A.n s'=MS.rem P A.n s:=wE λl _=>by rw[H]
 obtain⟨d0,g0,aE,tr,_⟩:Deaf t 0=0/\∃g0,((gs.map (woken P g g' w')).setIfInBounds A.cl g')[0]?=some g0/\∃tr:TT P (qC P A Fin (MS.rem P A.n s).length (MS.rem P A.n s)) (kk 0) (OO 0) g0,True:=by
  rw[YC (by omega),ZE]
  rcases R.2 with hm|hm
  . obtain⟨_,p1,pm,pk,pO,p2,p3,_⟩:=U.live 0 (iK hm)
    have pm:(f 0).m=cx P A Fin s 0:=pm;rw[mZ hm]at pm;refine⟨p3,(f 0).g,by rw[p1,YW,woken_run p2],?_⟩
    rw[<-pm,<-pk,<-pO];exact⟨(f 0).t,trivial⟩
  obtain⟨_,_,_,p3,gp,p4,_,p5⟩:=U.held 0 (.inl ⟨rfl,hm⟩)
  rcases p5 with⟨_,gm,zm,rfl,p6,p7,p8⟩|⟨l,B,C,_⟩
  . rw[p4]
    refine⟨p3,_,rfl,?_⟩;rw[ay,again_recv_closed (by rw[u,YG rfl])]
    obtain⟨tr⟩:=T.tree (wJ (P:=P) (A:=A) (Fin:=Fin) _ _) (Hc (z:=zm) (sh:=.recv true) p8 p7);exact⟨tr,trivial⟩
  omega
 have hI:bN A.n s':=by
  rw[v];refine⟨?_,d.I.g2,λh=>(by grind),d.I.g3,d.I.FW,λi D h=>(by grind),⟨d.I.g5.1,λh=>(by grind)⟩,λh=>(by cases h),d.I.g7,λ_=>⟨c0,v0,m0,F⟩,λk h=>(by cases h),d.I.ok,rfl,d.I.sp,d.I.idle,⟨R.1,by simp⟩,λ_ h=>(by cases h),d.I.mu⟩
  have:=d.I.g1;show s.gc=sumTo A.n (λj=>(s.w j).cnt)+oE.recv.pend
  rcases R.2 with e|e<;>rw[e]at this<;>exact this
 have V:(MemOp.ofEvents A.cl g.frame.fn g.frame.place (iB A.cF))[1]?=some {g:=A.cl,fn:=g.frame.fn,pos:=g.frame.place,act:=.close A.cF}:=by rw[me];rfl
 have L:(t++MemOp.ofEvents A.cl g.frame.fn g.frame.place (iB A.cF)).act? (t.size+1)=some (.close A.cF)/\(t++MemOp.ofEvents A.cl g.frame.fn g.frame.place (iB A.cF)).heard (t.size+1):=⟨act?_of (di (m:=1) V),heard_new (m:=1) hu V hd⟩
 have a8:∀i,bQ P A s' i->bQ P A s i:=λi D=>by
  rcases D with Q|⟨j,B,C⟩|⟨B,C⟩
  . exact .inl Q
  . exact .inr (.inl ⟨j,by grind,C⟩)
  exact .inr (.inr ⟨B,by grind⟩)
 have a9:∀i,bQ P A s i->bQ P A s' i:=λi D=>by
  rcases D with Q|⟨j,B,C⟩|⟨B,C⟩
  . exact .inl Q
  . exact .inr (.inl ⟨j,by grind,C⟩)
  exact .inr (.inr ⟨B,by grind⟩)
 have b6:∀op∈MemOp.ofEvents A.cl g.frame.fn g.frame.place (iB A.cF),∀a,op.act.touch?=some a->a.kind=.atomic:=λop O a ha=>((eU O).2.2.1 a ha).2
 have aL:cS P A Z s' kk OO (λ_=>False) (λp=>p=t.size+1) ((gs.map (woken P g g' w')).setIfInBounds A.cl g').size w' (t++MemOp.ofEvents A.cl g.frame.fn g.frame.place (iB A.cF)):=by
  refine⟨hI,?_,by rw[v];exact d.dd,AN r (by grind),λh=>by simp_all,λ_=>⟨x,tm,by rw[u,YG rfl,K];rfl⟩,?_,?_,?_,?_,d.fT,d.dT,λi y hy=>?_,λl S aO=>d.yp l S (by grind),λaO=>d.MV λl S=>by grind,λc hc=>?_,λi=>?_,λp hp=>?_,λ_=>⟨t.size+1,rfl,L⟩,λm a ha hs W i D=>d.jM _ (λop O a ha _ W=>by grind) m a ha hs W i (a8 i D),λm a ha hs W=>?_,λi D=>d.o6 _ i (a8 i D),d.je _ (λop O=>(eU O).2.2.2.2),λi b0 hn=>d.B3 i b0 λh=>hn (a9 i h),d.rS,d.jA,d.eD,d.la,by simp;exact YO d.n0 (Zs _ _)⟩
  . have:=d.size
    rw[hw]at this;rw[K];simp only[Zp,Array.size_map,jz.isNone]at this ⊢
    grind
  . rw[show s'.sh=s.sh by rw[v]];exact d.mu.same (.of_heap (by rw[u,YA (zj A.d1)]))
  . rw[show s'.gc=s.gc by rw[v],show s'.gv=s.gv by rw[v],show s'.gm=s.gm by rw[v]];exact d.gr.same (.of_heap (by rw[u,YA (zj A.d2)]))
  . rw[u,YA (zj A.d1)];exact d.uA
  . rw[u,YA (zj A.d2)];exact d.yo
  . rw[H];exact d.tok i y hy
  . rw[H];exact d.MX c hc
  . refine⟨λh=>h.elim,?_⟩
    rintro(⟨j,B,C,E⟩|⟨B,C⟩)
    . rw[H,F j B]at E;cases E
    rw[K]at C;cases C
  . subst hp
    exact⟨L.2,by have:=d.n0;omega,.inr ⟨K,L.1⟩⟩
  have Q:=d.nI _ (λop O a ha _ W=>by grind) m a ha hs W
  rw[hw]at Q;rw[K];exact Q
 have hL:MS.fL A.n s' s:=by
  refine .inl ?_;rw[v];show oE.recv.bZ+sumTo A.n (λi=>(s.w i).bZ)+jz.gone.bZ s.gc<s.ms.bZ+sumTo A.n (λi=>(s.w i).bZ)+s.c.bZ s.gc
  rw[hw];have e2:oE.recv.bZ=100:=rfl;have e3:jz.gone.bZ s.gc=0:=rfl;have e4:jz.jc.bZ s.gc=3:=rfl;have e5:99<=s.ms.bZ:=by rcases R.2 with e|e<;>rw[e]<;>simp[oE.bZ]
  omega
 have hS:gF A s s' (λi=>i=0\/i=A.cl):=⟨λl _ S=>by rw[H],λh=>absurd (.inr rfl) h,λh=>absurd (.inl rfl) h,by rw[v],by rw[v]⟩
 refine⟨_,_,G,s',bP f 0 ⟨_,_,_,_,tr⟩,upd q A.cl nq,kk,OO,λ_=>False,(λp=>p=t.size+1),_,_,_,rfl,hL,?_⟩
 refine U.Ha hu hP aL (by simp) (λi=>i=0\/i=A.cl) aC (kQ hZ hS (λi D=>ar _ _ (λe=>D (.inl e))) (λi D=>upd_ne q nq (λe=>D (.inr e))) (λ_ _ _=>rfl) (λ_ _ _=>rfl) (λi D S _=>?_)) (λi D=>?_)
 . rcases S with⟨e,_⟩|⟨l,B,C,E⟩|⟨e,_⟩
   . omega
   . grind
   omega
 rcases D with rfl|rfl
 . refine⟨g0,aE,λ_=>?_,λh=>absurd h (sm r (.inl Y)),λh=>absurd h (ma (by grind)),λh=>absurd (iK Y) h⟩
   rw[an];refine⟨by omega,rfl,?_,rfl,rfl,tr.running,by rw[bX hu];exact d0,.inl rfl,Cm⟩
   show qC P A Fin _ _=cx P A Fin s' 0;rw[mZ Y,a7]
 refine⟨g',X,λh=>absurd h ?_,λh=>absurd h ?_,λh=>absurd h (pY (AN r (by grind))),λ_ _ _=>⟨by omega,by rw[upd_same,bX hu,hd];exact hq⟩⟩
 . rintro(⟨e,_⟩|⟨l,B,C,E⟩|⟨_,E⟩)
   . omega
   . omega
   grind
 rintro(⟨e,_⟩|⟨l,B,C,E⟩|⟨_,E⟩)
 . omega
 . omega
 grind
end
section
variable{P:abm}{A:bJ}{Fin:aaG}{Z:Base}{s s':MS P}{f f':Nat->Node P}{q q':abg}{kk kk':abl}{OO OO':abk}{J J' M M':aba}{gs gs':aaJ}{w w':World}{t u:Trace}{j:Nat}{g g₂:abd}{z v:Value}
def su{w:World}{b i c e v}(h:w.heap[b]?=some (.cells c e (0,0)))(a:w.cell? ⟨b,i,none⟩=some v):c[i]?=some v:=by simpa[World.cell?,h]using a
def Co{w:World}{b c e}(h:w.heap[b]?=some (.cells c e (0,0))):w.shape? b=some (e,c.size):=by simp[World.shape?,h]
def Ka(h:∀i,∃O,Sat (kk i) O w):∃K ,(∀b n v,K.cell b n=some v->∃i,(kk i).cell b n=some v)/\(∀b s,K.sh b=some s->∃i,(kk i).sh b=some s)/\∀i,(kk i).Le K:=by
 classical
 refine⟨⟨λb n=>if e:∃v,∃i,(kk i).cell b n=some v then some e.choose else none,λb=>if e:∃s,∃i,(kk i).sh b=some s then some e.choose else none⟩,λb n v a=>?_,λb s c=>?_,λi=>⟨λb n v a=>?_,λb s c=>?_⟩⟩
 . simp only at a
   split at a
   . grind
   cases a
 . simp only at c
   split at c
   . grind
   cases c
 . have e:∃v,∃i,(kk i).cell b n=some v:=⟨v,i,a⟩
   show dite _ _ _=_;rw[dif_pos e];obtain⟨l,d⟩:=e.choose_spec;obtain⟨_,f⟩:=h i;obtain⟨_,g⟩:=h l;have:=g.cell b n _ d;rw[f.cell b n v a]at this
   simp_all
 have e:∃s,∃i,(kk i).sh b=some s:=⟨s,i,c⟩;show dite _ _ _=_;rw[dif_pos e];obtain⟨l,d⟩:=e.choose_spec;obtain⟨_,f⟩:=h i;obtain⟨_,g⟩:=h l;have:=g.sh b _ d;rw[f.sh b s c]at this
 simp_all
def F9  hZ  (z:bC (bV P A Fin Z hZ) Z s f q kk OO J M gs w t) (B:∀j,j<A.n->s.w j=.gone) (b6:s.c=.gone\/A.cl=0) (hu:jZ u) (a8:∀op∈u,op.act.touch?=none) (R:∀op∈u,op.act.low w.heap.size) (d0:Deaf t 0=0)
 (S:∀i,J i->i=0) (a9:∀p n,M p->Before t n p->Knows (t++u) 0 n) (al:gs'[0]?=some g) (av:∀i,i≠0->gs'[i]?=gs[i]?) (b7:gs'.size=gs.size) (H:∃e,(kk 0).sh A.fb=some e):
 ∃K x a,(∀i,(kk i).Le K)/\jY K x a/\A.GI a/\dE P Z.W0 K (((OO 0).set A.mb x).set A.fb (.part (bD A.fo))) g gs' w (t++u):=by
 have G:cS P A Z s kk OO J M gs.size w t:=z.ex;have hb:=A.hb;have C:(0:Nat)≠Z.lk:=by omega
 obtain⟨es,H⟩:=H;obtain⟨K,b8,b9,D⟩:=Ka λi=>⟨_,z.cJ.sat i⟩
 have E:∀n a,touchAt t n=some a->a.loc.isMemory=true -> ¬Z.Shun a.loc->Knows (t++u) 0 n:=λn a O hm hz=>by
  rcases z.cJ.acc n a O hm with h|⟨j,hj,h⟩|⟨p,hp,h⟩|⟨h,_⟩
  . exact h.app u
  . rw[S j hj]at h;exact h.app u
  . grind
  simp_all
 obtain⟨x,a,hx,ax,ay⟩:=G.MV λj hj=>by rw[B j hj];rfl
 have T:∀i,OO i A.fb=none:=λi=>by
  cases e:OO i A.fb with
  |none=>rfl
  |some y=>obtain⟨j,_,r,_,k,_⟩:=G.tok i y e;rw[B j r]at k;cases k
 have aC:cq Z (bP kk 0 K) (bP (bP OO 0 ((OO 0).set A.mb x)) Z.lk ai.bot) (λ_=>False) (λ_=>False) w (t++u):=by
  have L:∀j b y,bP (bP OO 0 ((OO 0).set A.mb x)) Z.lk ai.bot j b=some y->(j≠Z.lk/\OO j b=some y/\¬(j=0/\b=A.mb))\/(j=0/\b=A.mb/\y=x):=λj b y d=>by
   by_cases e:j=Z.lk
   . subst e;rw[an]at d;cases d
   rw[ar _ _ e]at d
   by_cases U:j=0
   . subst U
     rw[an]at d
     by_cases eb:b=A.mb
     . subst eb
       simp only[ai.set,YD,kn]at d
       simp_all
     simp only[ai.set,YA eb]at d
     simp_all
   rw[ar _ _ U]at d
   simp_all
  refine z.cJ.sZ (λa b=>a=b\/b=0) rfl ⟨⟨.refl _,rfl⟩,λ_ _=>rfl⟩ (λb=>.inl rfl) R (λi j e n y d V hz aE=>?_) (λj b n v F=>?_) (λj b s F=>?_) (λj b y d=>?_) (λi j b y aL d=>?_)
   (λsaid=>noRace_appendMute (z.cJ.clean said) a8) (λop W a O=>by simp_all) (λm op a W O=>by grind) (λn a O V h=>?_)
  . rcases e with rfl|rfl
    . exact aE.app u
    exact(nD C).2 (E n y d V hz)
  . by_cases e:j=0
    . subst e
      rw[an]at F
      simp_all
    rw[ar _ _ e]at F;simp_all
  . by_cases e:j=0
    . subst e
      rw[an]at F
      simp_all
    rw[ar _ _ e]at F;simp_all
  . rcases L j b y d with⟨r,k,h3⟩|⟨rfl,rfl,rfl⟩
    . refine⟨j,.inl rfl,k,λs hs=>?_⟩
      by_cases e:j=0
      . subst e;rw[an];exact(D 0).sh b s hs
      rw[ar _ _ e];exact hs
    exact⟨Z.lk,.inr rfl,hx,λs hs=>by rw[an];exact(D _).sh _ s hs⟩
  . cases q:bP (bP OO 0 ((OO 0).set A.mb x)) Z.lk ai.bot j b with
    |none=>rfl
    | some y'=>
      rcases L i b y d with⟨r,k,h3⟩|⟨rfl,rfl,rfl⟩
      . rcases L j b y' q with⟨k1,k2,k3⟩|⟨rfl,rfl,rfl⟩
        . have:=z.cJ.jb i j b y aL k
          simp_all
        have:=z.cJ.jb i Z.lk _ y r k
        simp_all
      rcases L j A.mb y' q with⟨k1,k2,k3⟩|⟨rfl,_,_⟩
      . have:=z.cJ.jb j Z.lk _ y' k1 k2
        simp_all
      omega
  rcases h with⟨j,r,k⟩|⟨p,r,k⟩
  . rw[S j r]at k;exact .inl (k.app u)
  exact .inl (a9 p n r k)
 obtain⟨aO,b0⟩:=G.I.mu.rest λi hi=>by rw[B i hi];rfl
 obtain⟨X,ce,o⟩:=G.uA
 have Y:es=(ce,X.size):=by
  have:=(z.cJ.sat 0).sh _ _ H;rw[Co o]at this
  simp_all
 have bm:X[A.fo]?=some (.int .i32 0):=by have:=G.mu.cw;rw[aO]at this;exact su o this
 have bw:X[A.fo+1]?=some (.int .u32 0):=by have:=G.mu.cs;rw[b0]at this;exact su o this
 have a7:∀n v,bD A.fo n=some v->(n=A.fo\/n=A.fo+1)/\X[n]?=some v:=λn v F=>by
  unfold bD at F
  grind
 have b1:∀n,bD A.fo n≠none->(n=A.fo\/n=A.fo+1):=λn hn=>by
  cases e:bD A.fo n with
  |none=>simp_all
  |some v=>simp_all
 have N:∀i n,(n=A.fo\/n=A.fo+1)->(bP kk 0 K i).cell A.fb n=none:=λi n hn=>by
  have hk:∀l,(kk l).cell A.fb n=none:=λl=>by rcases hn with h|h<;>rw[h]<;>first|exact(G.dT l).1|exact(G.dT l).2.1
  cases e:(bP kk 0 K i).cell A.fb n with
  |none=>rfl
  | some v=>
    by_cases ei:i=0
    . subst ei
      rw[an]at e
      grind
    rw[ar _ _ ei,hk]at e;cases e
 have b2:∀Q:Addr,Q.block=A.fb->bD A.fo Q.off≠none -> ¬Z.Shun (.cell Q):=λQ r k=>G.jA Q ⟨r,(b1 _ k).imp id .inl⟩
 have b3:=aC.R5 C (b:=A.fb) (f:=bD A.fo) (λi=>?_) (λn v F i=>N i n (a7 n v F).1) b2 ⟨X,ce,o,?_,λn v F=>(a7 n v F).2⟩ (λm a Q O hl bx hf=>?_) G.eD.2.1
 . have b4:∀i,0<i -> ¬dq P A s i/\¬fS P A s i/\¬eL P A s i:=λi hi=>by
    refine⟨?_,?_,?_⟩
    . rintro(⟨h,_⟩|⟨a,a1,a2,a3⟩|⟨h,a3⟩)
      . omega
      . grind
      grind
    . rintro(⟨h,_⟩|⟨a,a1,a2,a3⟩|⟨h,a3⟩)
      . omega
      . grind
      grind
    rintro(⟨h,_⟩|⟨a,a1,a2,a3⟩)
    . omega
    grind
   have hS:=b3.finish (P:=P) (gs:=gs') (g:=g) (q:=q) al ⟨λi y hi d=>by
    rw[av i (by omega)]at d
    rw[bX hu];obtain⟨n1,n2,n3⟩:=b4 i hi;exact(z.rest i y d n1 n2 n3).2,λj hj=>by rw[bX hu];exact z.above j (by omega)⟩ (by rw[bX hu];exact d0)
   rw[an,an,ar _ _ C,an]at hS;exact⟨K,x,a,D,ax.mono (D _),ay,hS⟩
 . by_cases e:i=Z.lk
   . subst e;rw[an];rfl
   rw[ar _ _ e]
   by_cases U:i=0
   . subst U;rw[an];simp only[ai.set,YA A.d5];exact T 0
   rw[ar _ _ U];exact T i
 . rw[an,<-Y];exact(D 0).sh _ _ H
 have b5:touchAt t m=some a:=by
  rcases dI O with⟨r,_⟩|⟨op,W,r⟩
  . exact r
  grind
 exact E m a b5 (by rw[hl];rfl) (by grind)
def P7  E  (o:A.dir=false) (r:bC (bV P A Fin Z E) Z s f q kk OO J M gs w t) (hm:s.ms=.recv) (C:s.c=.gone) (U:gs[0]?=some g){N}(V:(qC P A Fin (MS.rem P A.n s).length (MS.rem P A.n s)).cY (kk 0) (OO 0) g N)  sl :
 ∃ops W,runT P (crowd gs w sl) 0=(.next W,ops)/\∃gs' w' F k' O' g',W=crowd gs' w' F/\dE P Z.W0 k' O' g' gs' w' (t++ops)/\Fin k' O' g':=by
 have D:cS P A Z s kk OO J M gs.size w t:=r.ex;obtain⟨c0,v0,m0,b⟩:=D.I.g8 (by rw[C];rfl);obtain⟨xs,tm,G⟩:=D.yV o;rw[show s.c.dV=true by rw[C];rfl]at G
 have v:MS.rem P A.n s=[]:=by
  cases hr:MS.rem P A.n s with
  |nil=>rfl
  | cons a l=>
    have:a∈MS.rem P A.n s:=by grind
    obtain⟨H,X⟩:=sf.1 this;rw[b a H]at X;cases X
 rw[v]at V;obtain⟨_,g₂,z,H,_,e3,L,e4⟩:=V;have O:=(zs.1 U).1;obtain⟨_,_,_,_,_,_,Y,_⟩:=r.live _ (iK hm);have B:=crowd_recv_closed (P:=P) (sl:=sl) U (show stepG P (0==0) g w=_ from H w (r.cJ.sat 0)) G (nO λi x _ hx=>uE E r hx (λj h1 h2 h3=>by simp_all) _);rw[fe]at B;obtain⟨u,a7⟩:∃u:Trace,u=#[{g:=0,fn:=g₂.frame.fn,pos:=g₂.frame.place,act:=.recvClosed A.cF}]:=⟨_,rfl⟩;have e:runT P (crowd gs w sl) 0=(.next (crowd (gs.setIfInBounds 0 (g₂.finishComm P #[rcase A.cF z] (.recv true) 0 z false)) w sl),u):=by simp_all
 have Q:A.cF<w.heap.size:=(zs.1 G).1;have d:∀op∈u,op={g:=0,fn:=g₂.frame.fn,pos:=g₂.frame.place,act:=.recvClosed A.cF}:=λop h=>by simp_all
 have hu:jZ u:=λop h=>by simp_all
 have R:u[0]?=some {g:=0,fn:=g₂.frame.fn,pos:=g₂.frame.place,act:=.recvClosed A.cF}:=by grind
 obtain⟨K,x,a,h1,h2,h3,hS⟩:=F9 (gs':=gs.setIfInBounds 0 (g₂.finishComm P #[rcase A.cF z] (.recv true) 0 z false)) E r b (.inl C) hu (λop h=>by rw[d op h];rfl) (λop h=>by rw[d op h];exact Q) Y (λi S=>by
  rcases(D.hJ i).1 S with⟨a,T,a2,k⟩|⟨_,k⟩
  . rw[b a T]at k;cases k
  . rw[C]at k;cases k) (λp n hp hk=>by
  obtain⟨T,_,k⟩:=D.hM p hp;rcases k with⟨_,a4⟩|⟨_,a4⟩
  . simp_all
  exact An (t:=t) hu (m:=0) (y:={g:=0,fn:=g₂.frame.fn,pos:=g₂.frame.place,act:=.recvClosed A.cF}) R a4 T rfl Y hk) (zU O) (λi S=>YC (zj S)) (by simp) L
 exact⟨u,_,e,_,w,sl,_,_,_,rfl,hS,e4 _ x a (h1 0) h2 h3⟩
end
def sx(n:Nat)(f1 a:FuncId)(b c:String):Trace:=#[{g:=0,fn:=f1,pos:=b,act:=.go n},{g:=n,fn:=a,pos:=c,act:=.start}]
def fH{n f1 b c d op}(h:op∈sx n f1 b c d):op.act.touch?=none/\(op.act≠.mark .disable/\op.act≠.mark .enable)/\(∀B,op.act.low B)/\∀a,op.act≠.mark (.release a):=by
 simp only[sx,List.mem_toArray,YQ,ZK,or_false]at h;rcases h with rfl|rfl<;>exact⟨rfl,⟨by simp,by simp⟩,λB=>trivial,by simp⟩
def bot_join  k :ao.bot.join k=k:=rfl
section
variable{P:abm}{A:bJ}{Fin:aaG}{Z:Base}{s s':MS P}{f f':Nat->Node P}{q q':abg}{kk kk':abl}{OO OO':abk}{J J' M M':aba}{gs gs':aaJ}{w w':World}{t u:Trace}{j m:Nat}{g g' g₂ child:abd}{z v:Value}
def wO{gs:aaJ}{g' child}(a:0<gs.size):(∀i,i≠0->i≠gs.size->((gs.setIfInBounds 0 g').push child)[i]?=gs[i]?)/\((gs.setIfInBounds 0 g').push child)[0]?=some g'/\((gs.setIfInBounds 0 g').push child)[gs.size]?=some child:=by grind
def yZ{gs}(b:gs[0]?=some g)(c:stepG P true g w=.spawn g' child w #[])  sl :
 runT P (crowd gs w sl) 0=(.next (crowd ((gs.setIfInBounds 0 g').push child) w sl),sx gs.size g.frame.fn child.frame.fn g.frame.place g.frame.place):=by
 have a:=runT_crowd_spawn (P:=P) (sl:=sl) (i:=0) b (show stepG P (0==0) g w=_ from c);rw[fe]at a;exact a
def Cp  m :(ot P A Fin m).solo=false:=by
 cases m with
 |zero=>unfold ot;grind
 |succ m=>rfl
def pn(e:s.ms=.add m):dq P A s 0:=.inl ⟨rfl,by simp_all⟩
def wP(e:s.ms=.spawn m):dq P A s 0:=.inl ⟨rfl,by simp_all⟩
def y7(a:s.c=.none)(e:s.ms=.add m):¬fS P A s 0:=by
 have:=A.hb;rintro(⟨_,h⟩|⟨l,b,d,f⟩|⟨_,h⟩)
 . simp_all
 . omega
 simp_all
def Cq(e:s.ms=.add m):cx P A Fin s 0=ot P A Fin m:=by
 unfold cx
 simp_all
def Hd  hZ  (K:bC (bV P A Fin Z hZ) Z s f q kk OO J M gs w t) (Y:s.ms=.spawn m) (hg:gs[0]?=some g){N}(ht:(Ee P A Fin m).cY (kk 0) (OO 0) g N)  sl :
 Goes P A Fin Z hZ s gs w t sl 0:=by
 have F:cS P A Z s kk OO J M gs.size w t:=K.ex;have hb:=A.hb;obtain⟨rfl,g',child,hs,L,a7⟩:=ht;have O:=F.I.ms;rw[Y]at O;obtain⟨aO,D⟩:=O;have o:gs.size=A.b+s.sp:=by have:=F.size;rw[D]at this;simpa[jz.isNone]using this
 have u:s.sp<A.n:=by omega
 have hj:A.n-(m+1)=s.sp:=by omega
 rw[hj]at L;obtain⟨Q⟩:=T.tree (P:=P) (m:=gW P A s.sp) rfl L;obtain⟨R⟩:=T.tree (Cp (P:=P) (A:=A) (Fin:=Fin) m) a7;have a8:=(zs.1 hg).1;obtain⟨_,_,_,_,_,_,d0,_⟩:=K.live _ (wP Y);have dn:Deaf t gs.size=0:=K.above _ (YF _);have S:=yZ (sl:=sl) hg (hs w (K.cJ.sat 0));have hu:jZ (sx gs.size g.frame.fn child.frame.fn g.frame.place g.frame.place):=λop h=>(fH h).2.1
 have a9:∀n,Knows t 0 n->Knows (t++sx gs.size g.frame.fn child.frame.fn g.frame.place g.frame.place) gs.size n:=λn hn=>uw (t:=t) (c:=0) hu (m1:=0) (m2:=1) (x:={g:=0,fn:=g.frame.fn,pos:=g.frame.place,act:=.go gs.size}) (y:={g:=gs.size,fn:=child.frame.fn,pos:=g.frame.place,act:=.start}) rfl rfl rfl rfl d0 dn hn
 have k:s.w s.sp=.idle:=by have:=(F.I.idle s.sp u).2 (YF _);cases e:s.w s.sp<;>rw[e]at this<;>first|rfl|cases this
 have ad:¬bQ P A s gs.size:=by
  rintro(h|⟨l,z,B⟩|⟨z,B⟩)
  . omega
  . omega
  omega
 obtain⟨fk,fO⟩:=F.B3 gs.size (by omega) ad
 obtain⟨X,hX⟩:∃X:Node P,X=⟨gW P A s.sp,kk 0,ai.bot,child,Q⟩:=⟨_,rfl⟩;obtain⟨s',d⟩:∃s',s'=s.kh s.sp (.run false X) (.add m) (s.sp+1):=⟨_,rfl⟩;have r:s'.w s.sp=.run false X:=by rw[d,eM]
 have U:∀{l:Nat},l≠s.sp->s'.w l=s.w l:=λh=>by rw[d,jg h]
 have C:s'.c=s.c:=by rw[d];rfl
 have H:s'.ms=.add m:=by rw[d];rfl
 have V:s'.sp=s.sp+1:=by rw[d];rfl
 have hI:bN A.n s':=by rw[d];refine F.I.kh u (by rw[k,Y];rfl) (by rw[k];rfl) rfl (by simp_all) rfl (by rw[k];rfl) rfl (.inr ⟨rfl,rfl⟩) (λh=>by cases h) ⟨by omega,D⟩
 have W:∀l,J l->dL P A s' l:=λl hl=>by
  rcases(F.hJ l).1 hl with⟨a,z,B,h3⟩|⟨z,B⟩
  . refine .inl ⟨a,z,B,?_⟩
    by_cases e:a=s.sp
    . subst e;rw[r];rfl
    simp_all
  exact .inr ⟨z,by simp_all⟩
 have hP:=K.cJ.hand (J':=dL P A s') (M':=M) (w':=w) (src:=0) (dst:=gs.size) (by omega) (by omega) a9 (λop h=>(fH h).1) (λop h=>(fH h).2.2.1 _) rfl ⟨⟨.refl _,rfl⟩,λ_ _=>rfl⟩ (λb=>.inl rfl) (λn a ha b0 h=>h.elim (λ⟨j,z,B⟩=>.inr (.inl ⟨j,W j z,B.app _⟩)) (λ⟨p,z,B⟩=>.inr (.inr (.inl ⟨p,z,B.app _⟩))))
 rw[fk,bot_join]at hP;obtain⟨al,av,ax⟩:=wO (g':=g') (child:=child) a8
 have ay:cS P A Z s' (bP kk gs.size (kk 0)) OO (dL P A s') M ((gs.setIfInBounds 0 g').push child).size w (t++sx gs.size g.frame.fn child.frame.fn g.frame.place g.frame.place):=by
  refine F.chan hI ⟨λ_ h=>absurd (C.trans D) h,λ_=>by simp_all,λ_=>by simp_all⟩ (by rw[d];rfl) (λ_ l _=>?_) (by rw[Array.size_push,Zp,V,C,D];simp[jz.isNone];omega) (by rw[C];exact F.yV) (λ_ _=>rfl) (by rw[d];rfl) (by rw[d];rfl) (by rw[d];rfl) (by rw[d];rfl) (λl _=>?_) (λi b n v h=>?_) (ar _ _ (by omega)) (λi=>YP) (.inl C) (λop h=>⟨(fH h).1,(fH h).2.2.2⟩) (λi E=>?_) (λi aC hn=>?_)
  . by_cases e:l=s.sp
    . subst e;rw[r,k];exact .inr ⟨rfl,rfl⟩
    rw[U e];exact .inl ⟨rfl,ar _ _ (by omega)⟩
  . by_cases e:l=s.sp
    . subst e;rw[r,k];rfl
    grind
  . by_cases e:i=gs.size
    . subst e;rw[an]at h;grind
    rw[ar _ _ e]at h;grind
  . rcases E with h0|⟨l,z,B⟩|⟨z,B⟩
    . exact .inl (.inl h0)
    . rw[V]at z
      by_cases e:l=s.sp
      . simp_all
      exact .inl (.inr (.inl ⟨l,by omega,B⟩))
    simp_all
  have aE:¬bQ P A s i:=λh=>hn (by
   rcases h with h0|⟨l,z,B⟩|⟨z,B⟩
   . exact .inl h0
   . exact .inr (.inl ⟨l,by omega,B⟩)
   simp_all)
  have G:i≠gs.size:=λe=>hn (.inr (.inl ⟨s.sp,by omega,by omega⟩))
  rw[ar _ _ G];exact F.B3 i aC aE
 have hL:MS.fL A.n s' s:=by rw[d];refine tD u ?_;rw[k,Y];have e1:(bo.run (P:=P) false X).bZ=20:=rfl;have e2:(oE.add m).bZ=40*m+200:=rfl;have e3:(oE.spawn m).bZ=40*m+225:=rfl;omega
 have hS:gF A s s' (λi=>i=0\/i=gs.size):=⟨λl _ hl=>U (λe=>hl (.inr (by omega))),λ_=>C,λh=>absurd (.inl rfl) h,by rw[d];rfl,by rw[d];rfl⟩
 refine⟨_,_,S,s',bP (bP f 0 ⟨_,_,_,_,R⟩) gs.size X,q,bP kk gs.size (kk 0),OO,dL P A s',M,_,_,_,rfl,hL,?_⟩;refine K.Ha hu hP ay (by simp) (λi=>i=0\/i=gs.size) (λi E=>al i (λe=>E (.inl e)) (λe=>E (.inr e))) (kQ hZ hS (λi E=>by rw[ar _ _ (λe=>E (.inr e)),ar _ _ (λe=>E (.inl e))]) (λ_ _=>rfl) (λi E _=>ar _ _ (λe=>E (.inr e))) (λ_ _ _=>rfl) (λl _ _ h=>W l h)) (λi E=>?_)
 rcases E with rfl|rfl
 . refine⟨g',av,λ_=>?_,λh=>absurd h (y7 (C.trans D) H),λh=>absurd h (ma (by simp_all)),λh=>absurd (pn H) h⟩
   have G:(0:Nat)≠gs.size:=by omega
   rw[ar _ _ G,an,ar _ _ G];refine⟨by omega,rfl,?_,rfl,rfl,R.running,by rw[bX hu];exact d0,.inl rfl,Cm⟩
   show ot P A Fin m=cx P A Fin s' 0;rw[Cq H]
 have aL:dq P A s' gs.size:=by rw[o];exact jO u r
 refine⟨child,ax,λ_=>?_,λh=>absurd h (by rw[o];exact tw u r),λh=>absurd h (by rw[o];exact jB u r),λh=>absurd aL h⟩
 rw[an,an,hX];refine⟨by show gs.size<A.b+A.n+1;omega,rfl,?_,rfl,fO.symm,Q.running,by rw[bX hu];exact dn,.inr (.inl ⟨s.sp,u,o,by rw[r];rfl⟩),λl h X' z B h3=>?_⟩
 . show gW P A s.sp=cx P A Fin s' gs.size
   rw[o,mY u r]
 obtain rfl:l=s.sp:=by omega
 rw[r]at h3;cases h3;rw[hX];exact uB.refl _
def He  hZ  (r:A.dir=false) (O:bC (bV P A Fin Z hZ) Z s f q kk OO J M gs w t) (R:s.ms=.add 0) (hg:gs[0]?=some g){N}(ht:(ot P A Fin 0).cY (kk 0) (OO 0) g N)  sl :
 Goes P A Fin Z hZ s gs w t sl 0:=by
 have u:cS P A Z s kk OO J M gs.size w t:=O.ex;have hb:=A.hb;have D:=uz r;unfold ot at ht;rw[YA (by simp_all)]at ht
 obtain⟨rfl,g',child,hs,a8,a9⟩:=ht;have S:=u.I.ms;rw[R]at S;obtain⟨G,B⟩:=S;have G:s.sp=A.n:=by omega
 have d:gs.size=A.b+A.n:=by have:=u.size;rw[B,G]at this;simpa[jz.isNone]using this
 obtain⟨U⟩:=T.tree (P:=P) (m:=wA P A) rfl a8;obtain⟨V⟩:=T.tree (wJ (P:=P) (A:=A) (Fin:=Fin) _ _) a9;have ad:=(zs.1 hg).1;obtain⟨_,_,_,_,_,_,d0,_⟩:=O.live _ (pn R);have dn:Deaf t gs.size=0:=O.above _ (YF _);have W:=yZ (sl:=sl) hg (hs w (O.cJ.sat 0));have hu:jZ (sx gs.size g.frame.fn child.frame.fn g.frame.place g.frame.place):=λop h=>(fH h).2.1
 have al:∀n,Knows t 0 n->Knows (t++sx gs.size g.frame.fn child.frame.fn g.frame.place g.frame.place) gs.size n:=λn hn=>uw (t:=t) (c:=0) hu (m1:=0) (m2:=1) (x:={g:=0,fn:=g.frame.fn,pos:=g.frame.place,act:=.go gs.size}) (y:={g:=gs.size,fn:=child.frame.fn,pos:=g.frame.place,act:=.start}) rfl rfl rfl rfl d0 dn hn
 have av:¬bQ P A s gs.size:=by
  rintro(h|⟨l,F,z⟩|⟨F,z⟩)
  . omega
  . omega
  simp_all
 obtain⟨fk,fO⟩:=u.B3 gs.size (by omega) av
 obtain⟨s',o⟩:∃s':MS P,s'={s with ms:=.recv,c:=.dS}:=⟨_,rfl⟩
 have K:s'.w=s.w:=by rw[o]
 have C:s'.c=.dS:=by rw[o]
 have L:s'.ms=.recv:=by rw[o]
 have ax:s'.sp=s.sp:=by rw[o]
 obtain⟨v0,m0,Q⟩:=u.I.calm (by rw[B];rfl)
 have hI:bN A.n s':=by
  rw[o];refine⟨?_,u.I.g2,λh=>(by simp_all),u.I.g3,u.I.FW,λi E h=>?_,⟨u.I.g5.1,λh=>(by simp_all)⟩,λh=>(by cases h),u.I.g7,λh=>(by cases h),λk h=>(by cases h),u.I.ok,rfl,u.I.sp,u.I.idle,⟨G,by simp⟩,λ_ h=>(by cases h),u.I.mu⟩
  . have:=u.I.g1
    rw[R]at this;exact this
  have h:s.w i=.dn .d7:=h;have:=Q i E;rw[h]at this;cases this
 have X:∀l,J l->dL P A s' l:=λl Q=>by
  rcases(u.hJ l).1 Q with⟨a,F,z,h3⟩|⟨F,z⟩
  . exact .inl ⟨a,F,z,by simp_all⟩
  rw[B]at z;cases z
 have hP:=O.cJ.hand (J':=dL P A s') (M':=M) (w':=w) (src:=0) (dst:=gs.size) (by omega) (by omega) al (λop h=>(fH h).1) (λop h=>(fH h).2.2.1 _) rfl ⟨⟨.refl _,rfl⟩,λ_ _=>rfl⟩ (λb=>.inl rfl) (λn a ha b2 h=>h.elim (λ⟨j,F,z⟩=>.inr (.inl ⟨j,X j F,z.app _⟩)) (λ⟨p,F,z⟩=>.inr (.inr (.inl ⟨p,F,z.app _⟩))))
 rw[fk,bot_join]at hP;obtain⟨ay,aC,aE⟩:=wO (g':=g') (child:=child) ad;have Y:=u.yV;rw[B]at Y
 have aL:cS P A Z s' (bP kk gs.size (kk 0)) OO (dL P A s') M ((gs.setIfInBounds 0 g').push child).size w (t++sx gs.size g.frame.fn child.frame.fn g.frame.place g.frame.place):=by
  refine u.chan hI (AN r (by simp_all)) (by rw[o]) (λh=>by simp_all) (by rw[Array.size_push,Zp,ax,C,d,G,r];rfl) (by rw[C];exact Y) (λ_ _=>rfl) (by rw[o]) (by rw[o]) (by rw[o]) (by rw[o]) (λl _=>by rw[K]) (λi b n v h=>?_) (ar _ _ (by omega)) (λi=>YP) (.inr ⟨B,.inl C,λm R=>by simp_all⟩) (λop h=>⟨(fH h).1,(fH h).2.2.2⟩) (λi E=>?_) (λi aO hn=>?_)
  . by_cases e:i=gs.size
    . subst e;rw[an]at h;grind
    rw[ar _ _ e]at h;grind
  . rcases E with h0|⟨l,F,z⟩|⟨F,z⟩
    . exact .inl (.inl h0)
    . exact .inl (.inr (.inl ⟨l,by omega,z⟩))
    simp_all
  have b0:¬bQ P A s i:=λh=>hn (by
   rcases h with h0|⟨l,F,z⟩|⟨F,z⟩
   . exact .inl h0
   . exact .inr (.inl ⟨l,by omega,z⟩)
   simp_all)
  have H:i≠gs.size:=λe=>hn (.inr (.inr ⟨by omega,by simp_all⟩))
  rw[ar _ _ H];exact u.B3 i aO b0
 have hL:MS.fL A.n s' s:=by
  refine .inl ?_;rw[o];show oE.recv.bZ+sumTo A.n (λi=>(s.w i).bZ)+jz.dS.bZ s.gc<s.ms.bZ+sumTo A.n (λi=>(s.w i).bZ)+s.c.bZ s.gc
  rw[B,R];have e2:oE.recv.bZ=100:=rfl;have e3:jz.dS.bZ s.gc=14:=rfl;have e4:jz.none.bZ s.gc=0:=rfl;have e5:(oE.add 0).bZ=200:=rfl;omega
 have a7:MS.rem P A.n s'=List.range A.n:=by unfold MS.rem;rw[K];exact List.filter_eq_self.2 λl Q=>by rw[u.I.early (u.dd.trans r) B l (YB.1 Q)];rfl
 have hS:gF A s s' (λi=>i=0\/i=gs.size):=⟨λl _ Q=>by rw[K],λh=>absurd (.inr (by omega)) h,λh=>absurd (.inl rfl) h,by rw[o],by rw[o]⟩
 refine⟨_,_,W,s',bP (bP f 0 ⟨_,_,_,_,V⟩) gs.size ⟨_,_,_,_,U⟩,q,bP kk gs.size (kk 0),OO,dL P A s',M,_,_,_,rfl,hL,?_⟩;refine O.Ha hu hP aL (by simp) (λi=>i=0\/i=gs.size) (λi E=>ay i (λe=>E (.inl e)) (λe=>E (.inr e))) (kQ hZ hS (λi E=>by rw[ar _ _ (λe=>E (.inr e)),ar _ _ (λe=>E (.inl e))]) (λ_ _=>rfl) (λi E _=>ar _ _ (λe=>E (.inr e))) (λ_ _ _=>rfl) (λl _ _ h=>X l h)) (λi E=>?_)
 rcases E with rfl|rfl
 . refine⟨g',aC,λ_=>?_,λh=>absurd h (sm r (.inl L)),λh=>absurd h (ma (by simp_all)),λh=>absurd (iK L) h⟩
   have H:(0:Nat)≠gs.size:=by omega
   rw[ar _ _ H,an,ar _ _ H];refine⟨by omega,rfl,?_,rfl,rfl,V.running,by rw[bX hu];exact d0,.inl rfl,Cm⟩
   show qC P A Fin _ _=cx P A Fin s' 0;rw[mZ L,a7,ZI]
 have b1:dq P A s' gs.size:=by rw[d,<-D];exact tz (.inr C)
 refine⟨child,aE,λ_=>?_,λh=>absurd h (by rw[d,<-D];exact F3 r (.inr C)),λh=>absurd h (by rw[d,<-D];exact pY (AN r (by simp_all))),λh=>absurd b1 h⟩
 rw[an,an];refine⟨by show gs.size<A.b+A.n+1;omega,rfl,?_,rfl,fO.symm,U.running,by rw[bX hu];exact dn,.inr (.inr ⟨d.trans D.symm,by rw[C];rfl⟩),by rw[d,<-D];exact Pe⟩
 show wA P A=cx P A Fin s' gs.size;rw[d,<-D,F5 r C]
def cq.SX(h:cq Z kk OO J M w t)(b:∀i,J i->J' i):cq Z kk OO J' M w t:=⟨h.sat,h.jb,h.mU,h.Am,h.clean,h.seen,λn a c d=>(h.acc n a c d).imp_right λx=>x.imp_left λ⟨j,e,f⟩=>⟨j,b j e,f⟩,h.n0,h.v3,h.lg,h.om,h.yj,h.mine⟩
def Kb(C:ga P A.ng)(X:il P A.ng)  F  (o:A.dir=true) (V:bC (bV P A Fin Z F) Z s f q kk OO J M gs w t) (G:s.ms=.add 0) (hg:gs[0]?=some g){N}(ht:(ot P A Fin 0).cY (kk 0) (OO 0) g N)  sl :
 Goes P A Fin Z F s gs w t sl 0:=by
 have e:cS P A Z s kk OO J M gs.size w t:=V.ex;have B:=bf (P:=P) (A:=A) (Fin:=Fin) (Z:=Z) F;have hb:=A.hb;have W:=JL o;unfold ot at ht;rw[YG o]at ht;obtain⟨rfl,c0,rest,a7,hF⟩:=ht;have H:=e.I.ms;rw[G]at H;obtain⟨K,p⟩:=H;have K:s.sp=A.n:=by omega
 obtain⟨_,_,_,_,_,_,d0,_⟩:=V.live _ (pn G);obtain⟨g2,⟨n,u⟩,E⟩:=o0 (P:=P) (n:=A.ng) (b:=A.gb) (kind:=.normal) (cs:=c0::rest) (Wd:=kF A) X C;cases n with
 |zero=>exact absurd rfl (Ch C u E)
 | succ n=>
   obtain⟨g1,⟨aE,a8⟩,a9⟩:=u;have x:=runT_crowd_go (P:=P) (sl:=sl) (i:=0) hg (by rw[a7];exact a8 true w (B.wd e))
   rw[fe]at x;obtain⟨s',d⟩:∃s':MS P,s'={s with ms:=.off,c:=.wt .w0}:=⟨_,rfl⟩
   have r:s'.w=s.w:=by rw[d]
   have j:s'.c=.wt .w0:=by rw[d]
   have ad:s'.ms=.off:=by rw[d]
   have L:s'.sp=s.sp:=by rw[d]
   have Y:uX P A s':=⟨λ_ _=>ad,λ_=>by simp_all,λh=>by simp_all⟩
   obtain⟨v0,m0,Q⟩:=e.I.calm (by rw[p];rfl)
   have hI:bN A.n s':=by
    rw[d];refine⟨?_,e.I.g2,λh=>(by simp_all),e.I.g3,e.I.FW,λi R h=>?_,⟨e.I.g5.1,λh=>(by simp_all)⟩,λh=>(by cases h),e.I.g7,λh=>(by cases h),λk h=>(by cases h),e.I.ok,rfl,e.I.sp,e.I.idle,⟨K,by simp⟩,λ_ h=>(by cases h),e.I.mu⟩
    . have:=e.I.g1
      rw[G]at this;exact this
    have h:s.w i=.dn .d7:=h;have:=Q i R;rw[h]at this;cases this
   have S:∀l,J l->dL P A s' l:=λl Q=>by
    rcases(e.hJ l).1 Q with⟨a,D,z,h3⟩|⟨D,z⟩
    . exact .inl ⟨a,D,z,by simp_all⟩
    rw[p]at z;cases z
   have hP:cq Z kk OO (dL P A s') M w (t++#[]):=by rw[pZ];exact V.cJ.SX S
   have al:cS P A Z s' kk OO (dL P A s') M gs.size w (t++#[]):=by
    refine e.chan hI Y (by rw[d]) (λ_ l _=>.inl ⟨by rw[r],rfl⟩) (by rw[L,j,o,e.size,p];rfl) (λh=>by simp_all) (λ_ _=>rfl) (by rw[d]) (by rw[d]) (by rw[d]) (by rw[d]) (λl _=>by rw[r]) (λi b n v h=>⟨i,h⟩) rfl (λi=>YP) (.inr ⟨p,.inr ⟨_,j⟩,λm G=>by simp_all⟩) (λop h=>by simp at h) (λi R=>.inl ?_) (λi av hn=>e.B3 i av λh=>hn ?_)
    . rcases R with h0|⟨l,D,z⟩|⟨D,_⟩
      . exact .inl h0
      . exact .inr (.inl ⟨l,by omega,z⟩)
      exact .inl (D.trans W)
    rcases h with h0|⟨l,D,z⟩|⟨D,_⟩
    . exact .inl h0
    . exact .inr (.inl ⟨l,by omega,z⟩)
    simp_all
   have hL:MS.fL A.n s' s:=by
    refine .inl ?_;rw[d];show oE.off.bZ+sumTo A.n (λi=>(s.w i).bZ)+(jz.wt .w0).bZ s.gc<s.ms.bZ+sumTo A.n (λi=>(s.w i).bZ)+s.c.bZ s.gc
    rw[p,G];have e2:oE.off.bZ=0:=rfl;have e3:(jz.wt .w0).bZ s.gc=13:=rfl;have e4:jz.none.bZ s.gc=0:=rfl;have e5:(oE.add 0).bZ=200:=rfl;omega
   have hS:eE A s s' 0:=⟨λl _ _=>by rw[r],λh=>absurd W.symm h,λh=>absurd rfl h,L,by rw[d],.inl λ_ _=>by rw[r]⟩
   have T:¬dq P A s' 0:=by have:=AO Y j;simp_all
   have ax:¬eL P A s' 0:=by have:=pY Y;simp_all
   have ay:fS P A s' 0:=by have:=tx (P:=P) (A:=A) j;simp_all
   have U:=sd Y j;rw[W]at U
   have aC:Beside (bV P A Fin Z F) s s' f f q (upd q 0 n) kk kk OO OO J (dL P A s') w 0 g g1:=lz F hS (λ_ _=>rfl) (λi R=>upd_ne q n R) (λ_ _ _=>rfl) (λ_ _ _=>rfl) (λi _ h=>S i h) (.inl ⟨by simp_all,by simp_all⟩) (λ{i k O y} E=>B.kq (s:=s) (i:=i) (k:=k) (O:=O) (g:=y) E)
   refine⟨_,_,x,s',f,upd q 0 n,kk,OO,dL P A s',M,_,_,_,rfl,hL,?_⟩;refine bC.step B V hg (λop h=>by simp at h) hP al (λl y Q E=>B.rW e Q _ _ E) aC ⟨λh=>absurd h T,λ_=>⟨T,?_,?_,g2,?_,?_⟩,λh=>absurd h ax,λ_ h _=>absurd ay h⟩
   . omega
   . rw[pZ,d0]
     show 0=dC P A s' 0;rw[U];rfl
   . refine .inr (.inr ⟨W.symm,?_⟩)
     rw[j];exact⟨c0,rest,E,by simp_all⟩
   exact .inr (by rw[upd_same];exact a9)
def Kc(C:ga P A.ng)(X:il P A.ng)(hsl:∀  n   k   O   g gB ,iQ P (λ_=>True) n g gB->Fin k O gB->Fin k O g)  R  (d:A.dir=true) (G:bC (bV P A Fin Z R) Z s f q kk OO J M gs w t) (S:s.c=.wt .wa) (hg:gs[0]?=some g) (T:Rn P A Fin (.wt .wa) (kk 0) (OO 0) g)  sl :
 ∃ops m',runT P (crowd gs w sl) 0=(.next m',ops)/\∃gs' w' U k' O' g',m'=crowd gs' w' U/\dE P Z.W0 k' O' g' gs' w' (t++ops)/\Fin k' O' g':=by
 have D:cS P A Z s kk OO J M gs.size w t:=G.ex;have hb:=A.hb;have e0:=JL d;obtain⟨c0,rest,hM,hT⟩:=T;rw[YG d]at hT;obtain⟨V,hF⟩:=hT;obtain⟨H,W,hr,⟨k,F⟩⟩:=Sz (Wd:=λ_=>True) (main:=true) (w:=w) C X hM (by decide)
 have v:=runT_crowd_go (P:=P) (sl:=sl) (i:=0) hg W;obtain⟨u,E⟩:∃u:Trace,u=MemOp.ofEvents 0 g.frame.fn g.frame.place #[⟨.mark (.acquire ⟨A.gb,0,none⟩),false,true⟩]:=⟨_,rfl⟩;have z:∀op∈u,op=⟨0,g.frame.fn,g.frame.place,.mark (.acquire ⟨A.gb,0,none⟩)⟩:=λop h=>by rw[E,ofEvents_eq]at h;simpa[MemAct.ofEvent]using h
 have Y:u[0]?=some ⟨0,g.frame.fn,g.frame.place,.mark (.acquire ⟨A.gb,0,none⟩)⟩:=by rw[E,ofEvents_eq];simp[MemAct.ofEvent]
 rw[<-E]at v;obtain⟨_,_,_,m⟩:=D.I.g8 (by rw[S];rfl)
 have a7:=(zs.1 hg).1
 have d0:Deaf t 0=0:=by
  obtain⟨_,_,a8,_⟩:=G.walk _ (tx S);have r:(bV P A Fin Z R).deaf s A.cl=0:=by show dC P A s A.cl=0;rw[sd D.off S];rfl
  simp_all
 have hu:jZ u:=λop h=>by grind
 have hG:A.gb<w.heap.size:=by obtain⟨c,e,r⟩:=D.yo;grind
 have L:∀i o,gs[i]?=some o->i≠0->woken P g H w o=o:=λi o ho h0=>by
  have nl:¬dq P A s i:=by
   rintro(⟨e,_⟩|⟨l,r,N,Q⟩|⟨e,_⟩)
   . exact h0 e
   . simp_all
   omega
  have nw:¬fS P A s i:=by
   rintro(⟨e,_⟩|⟨l,r,N,Q⟩|⟨e,_⟩)
   . exact h0 e
   . simp_all
   omega
  have nh:¬eL P A s i:=by
   rintro(⟨e,_⟩|⟨l,r,N,Q⟩)
   . exact h0 e
   simp_all
  exact woken_quitsD (G.rest i o ho nl nw nh).2
 obtain⟨K,x,a,r,N,Q,hS⟩:=F9 (gs':=(gs.map (woken P g H w)).setIfInBounds 0 H) (g:=H) R G m (.inr e0) hu (λop h=>by rw[z op h];rfl) (λop h=>by rw[z op h];exact hG) d0 (λi hi=>by
  rcases(D.hJ i).1 hi with⟨a,a1,a2,B⟩|⟨B,_⟩
  . rw[m a a1]at B;cases B
  omega) (λp n hp hk=>by
  obtain⟨a1,a2,B⟩:=D.hM p hp
  rcases B with⟨B,_⟩|⟨B,_⟩
  . exact mE (y:=⟨0,g.frame.fn,g.frame.place,.mark (.acquire ⟨A.gb,0,none⟩)⟩) hu Y rfl d0 B a1 (λk hk e=>by
     rcases pW e with⟨r,_⟩|⟨op,a9,r⟩
     . exact D.norel k _ (by omega) r
     grind) hk
  simp_all) (zU (by simp_all)) (λi hi=>by
  grind) (by simp) V
 exact⟨u,_,v,_,w,sl,_,_,_,rfl,hS,hsl _ _ _ _ _ F (hF K x a (r 0) (λj hj=>(r (A.b+j)).1 _ _ _ ((D.ya d j hj).2 (by rw[m j hj];rfl))) N Q)⟩
def Kd(C:fQ P A.nm)(X:fR P A.nm)(F:lO P A.nm)  v  (a:A.dir=true) (H:bC (bV P A Fin Z v) Z s f q kk OO J M gs w t) (hj:j<A.n){Y}(p:s.w j=.un .ue Y) (hg:gs[A.b+j]?=some g) (K:FX P A j (.un .ue Y) (kk (A.b+j)) (OO (A.b+j)) g)  sl :
 Goes P A Fin Z v s gs w t sl (A.b+j):=by
 have d:cS P A Z s kk OO J M gs.size w t:=H.ex;have B:=bf (P:=P) (A:=A) (Fin:=Fin) (Z:=Z) v;have hb:=A.hb;have L:(A.b+j==0)=false:=by simp;omega
 obtain⟨kind,c,rest,hk,hM,hm,ad,Q⟩:=K;have hN:=Q (by simp)
 rw[show Dw P A Y.N=T P (kD P A) gg by simp[Dw,a]]at hN
 obtain⟨R,S,hr,g2,z,D⟩:=Av (Wd:=λ_=>True) (main:=false) (w:=w) C X hM
 obtain⟨k,U⟩:=z.trans (lx F D hk);obtain⟨tr⟩:=T.tree (P:=P) (m:=kD P A) rfl hN;obtain⟨T,_⟩:=TT.pre U tr;obtain⟨x,r⟩:∃x:bo P,x=.xY:=⟨_,rfl⟩;have o:(s.aT j x s.sh).w j=.xY:=by rw[aU,r]
 have V:EvM A.fb A.fo #[⟨.mark .enable,false,true⟩]:=λe he=>by simp_all
 have E:=runT_crowd_go (P:=P) (sl:=sl) (i:=A.b+j) hg (by rw[L];exact S)
 have G:bQ P A s (A.b+j):=ir d.I hj (by rw[p];rfl)
 obtain⟨y1,y2,y3⟩:=d.JU V G g.frame.fn g.frame.place;have u:∀op∈MemOp.ofEvents (A.b+j) g.frame.fn g.frame.place #[⟨.mark .enable,false,true⟩],op.g=A.b+j:=λop W=>by obtain⟨e,_,rfl⟩:=zH W;rfl
 have hJ:J (A.b+j):=(d.hJ _).2 (vl hj (by rw[p];rfl))
 have hP:=H.cJ.sync (i:=A.b+j) (.inr hJ) u rfl ⟨⟨.refl _,rfl⟩,λ_ _=>rfl⟩ (λb=>.inl rfl) y2 y1
 have hI:bN A.n (s.aT j x s.sh):=d.I.vm hj (by rw[p];rfl) (by rw[r];rfl) (.inr (d.dd.trans a)) (by rw[r];rfl) (by rw[r,p];rfl)
 have hL:MS.fL A.n (s.aT j x s.sh) s:=sb hj (by rw[r,p];simp[bo.bZ])
 have a7:=d.wD (x:=x) (sh:=s.sh) (w':=w) hj (by rw[r,p];rfl) (by rw[r,p];rfl) (λ_=>by rw[r,p];rfl) hI d.mu (λ_ _=>rfl) d.uA y3
 have hS:eE A s (s.aT j x s.sh) (A.b+j):=wD hj (.inr ⟨λhl=>by
  obtain⟨o1,o2,o3,o4,_⟩:=d.off.2.1 a
  rcases hl with⟨_,h⟩|⟨l,_,h1,_⟩|⟨_,h⟩
  . grind
  . omega
  simp_all,(d.off.2.1 a).2.1⟩)
 have a8:Beside (bV P A Fin Z v) s (s.aT j x s.sh) f (bP f (A.b+j) ⟨kD P A,kk (A.b+j),OO (A.b+j),R,T⟩) q q kk kk OO OO J J w (A.b+j) g R:=lz v hS (λi hi=>ar _ _ hi) (λi hi=>rfl) (λ_ _ _=>rfl) (λ_ _ _=>rfl) (λ_ _ h=>h) (.inl ⟨id,id⟩) (λ{i k O y} D=>B.kq (s:=s) (i:=i) (k:=k) (O:=O) (g:=y) D)
 refine⟨_,_,E,s.aT j x s.sh,bP f (A.b+j) ⟨kD P A,kk (A.b+j),OO (A.b+j),R,T⟩,q,kk,OO,J,M,_,_,_,rfl,hL,?_⟩;refine bC.step B H hg u hP a7 (λl y hl D=>B.rW d hl _ _ D) a8 ⟨λ_=>?_,λh=>absurd h (nP hj (.inr o)),λh=>absurd h (tB hj o),λh=>absurd (se hj o) h⟩
 rw[an];refine⟨by show A.b+j<A.b+A.n+1;omega,rfl,?_,rfl,rfl,hr,?_,.inr hJ,F8 o⟩
 . show kD P A=cx P A Fin (s.aT j x s.sh) (A.b+j)
   rw[wI hj o]
 obtain⟨_,_,a9,_⟩:=H.walk _ (iF (P:=P) (A:=A) (s:=s) hj (by rw[p];rfl))
 rw[Deaf_own,a9];show deafBehind (dC P A s (A.b+j)) _=0;rw[dY hj,p];rfl
end
section
variable{P:abm}{A:bJ}{Fin:aaG}{Z:Base}{s s':MS P}{f f':Nat->Node P}{q q':abg}{kk kk':abl}{OO OO':abk}{J J' M M':aba}{gs gs':aaJ}{w w':World}{t u:Trace}{j m:Nat}{g g' g₂ child:abd}{z v:Value}
def AQ  L  (z:bC (bV P A Fin Z L) Z s f q kk OO J M gs w t):∃(i:Nat) (g:abd),gs[i]?=some g/\g.status=.running:=by
 have o:cS P A Z s kk OO J M gs.size w t:=z.ex;have B:=bf (P:=P) (A:=A) (Fin:=Fin) (Z:=Z) L;refine Zm λC=>?_
 have a:∀i,¬dq P A s i:=λi k=>by
  obtain⟨_,N,_,_,_,O,_⟩:=z.live i k
  grind
 have yO:∀i,fS P A s i->PW P A s i:=λi D=>by
  obtain⟨_,_,_,x,x',N,O,R⟩:=z.walk i D
  rcases R with⟨h,_⟩|h
  . exact h
  exact absurd ⟨i,x,N,h.first (B.kq O).1⟩ C
 have hb:=A.hb
 obtain⟨S,T,U,V,E⟩:s.sp=A.n/\s.c≠.none/\s.c≠.gone/\(∀j,j<A.n->s.w j≠.wait)/\s.ms.pend=0:=by
  have d:=o.I.ms;cases e:s.ms with
  |parked=>rw[e]at d;exact⟨d.1,d.2.1,d.2.2.1,d.2.2.2,rfl⟩
  |add l=>exact absurd (pn e) (a 0)
  |spawn l=>exact absurd (wP e) (a 0)
  |recv=>exact absurd (iK e) (a 0)
  | bs l p=>
    rw[e]at d
    rcases yO 0 (En e)with⟨l,_,_,r,F,_⟩|⟨_,h,_⟩
    . omega
    simp_all
  | off=>
    rw[e]at d
    have hd:A.dir=true:=by
     cases q:A.dir with
     |true=>rfl
     |false=>exact absurd e (o.off.2.2 q)
    refine⟨d.1,d.2,(o.off.2.1 hd).2.2.2.2,λj W D=>?_,rfl⟩
    obtain⟨_,_,_,_,_,_,_,h|⟨_,_,_,_,_,_,_,_,_,_,h⟩⟩:=z.held (A.b+j) (.inr ⟨j,W,rfl,D⟩)
    . omega
    simp_all
 have Q:s.c=.wt .w4/\s.gm=0:=by
  cases e:s.c with
  |none=>simp_all
  |gone=>simp_all
  |dS=>exact absurd (tz (.inr e)) (a _)
  |jc=>exact absurd (tz (.inl e)) (a _)
  | wt p=>
    rcases yO _ (tx e)with⟨l,_,_,r,F,_⟩|⟨_,h,h'⟩
    . omega
    simp_all
 have m:∀l,l<A.n->fS P A s (A.b+l)->∃sv Y,s.w l=.lk (.fU sv) Y/\s.sh.ms=0:=λl k h=>by
  rcases yO _ h with⟨l',sv,Y,r,F,h3,h4⟩|⟨r,_⟩
  . simp_all
  omega
 have u:∀l,l<A.n->s.w l=.gone\/∃sv Y,s.w l=.lk (.fU sv) Y/\s.sh.ms=0:=λl k=>by
  have v:=o.I.idle l k;cases e:s.w l with
  |idle=>rw[e]at v;have:=v.1 rfl;omega
  |run h X=>exact absurd (jO k e) (a _)
  |lk p Y=>have:=m l k (.inr (.inl ⟨l,k,rfl,by simp_all⟩));simp_all
  |un p Y=>have:=m l k (.inr (.inl ⟨l,k,rfl,by simp_all⟩));simp_all
  |wait=>simp_all
  |xY=>exact absurd (se k e) (a _)
  |dn p=>have:=m l k (l8 k e);simp_all
  |gone=>simp_all
 have y:∀l,l<A.n->s.w l=.gone:=λl k=>by
  rcases u l k with h|⟨sv,Y,h,h0⟩
  . exact h
  have r:=o.I.mu.alive (λi G=>by
   rcases u i G with h|⟨sv,Y,h,_⟩
   . exact .inl (by rw[h];rfl)
   exact .inr ⟨sv,by rw[h];rfl⟩) h0 l k
  rw[h]at r;cases r
 have H:s.gc=0:=by
  have r:=o.I.g1;rw[E]at r
  have F:sumTo A.n (λj=>(s.w j).cnt)=0:=by
   have:∀n,n<=A.n->sumTo n (λj=>(s.w j).cnt)=0:=λn=>by
    induction n with
    |zero=>intro _;rfl
    | succ n ih=>
      intro hn;have e1:=ih (by omega)
      simp only[sumTo,e1,y n (by omega)]
      rfl
   simp_all
  omega
 have K:s.c.waits=true:=by rw[Q.1];rfl
 by_cases hv:s.gv=1
 . obtain⟨i,G,h⟩:=o.I.g7 hv H
   simp_all
 have:=o.I.g2;obtain⟨i,G,h⟩:=o.I.g6 K (by omega) Q.2
 simp_all
variable(C:ga P A.ng)(X:il P A.ng)(CM:fQ P A.nm)(XM:fR P A.nm)(F:lO P A.nm)
include C X CM XM F in
def Hf  r   sl   i  {k O g N}  L   h   c
 (u:bC (bV P A Fin Z r) Z s f q kk OO J M gs w t) (U:dq P A s i) (Q:f i=⟨cx P A Fin s i,k,O,g,.cY N L h c⟩):
 ∃ ops y,runT P (crowd gs w sl) i=(.next y,ops)/\
  ((∃s' f' q' kk' OO' J' M' gs' w' o,y=crowd gs' w' o/\MS.fL A.n s' s/\bC (bV P A Fin Z r) Z s' f' q' kk' OO' J' M' gs' w' (t++ops))\/
   (∃gs' w' o k' O' g',y=crowd gs' w' o/\dE P Z.W0 k' O' g' gs' w' (t++ops)/\Fin k' O' g')):=by
 have R:cS P A Z s kk OO J M gs.size w t:=u.ex
 have goes:Goes P A Fin Z r s gs w t sl i->∃ops y,runT P (crowd gs w sl) i=(.next y,ops)/\
  ((∃s' f' q' kk' OO' J' M' gs' w' o,y=crowd gs' w' o/\MS.fL A.n s' s/\bC (bV P A Fin Z r) Z s' f' q' kk' OO' J' M' gs' w' (t++ops))\/
   (∃gs' w' o k' O' g',y=crowd gs' w' o/\dE P Z.W0 k' O' g' gs' w' (t++ops)/\Fin k' O' g')):=λ⟨ops,y,S,T⟩=>⟨ops,y,S,.inl T⟩
 obtain⟨_,d,_,B,D,_,_,_,_⟩:=u.live i U;rw[Q]at d B D;have d:gs[i]?=some g:=d;have B:k=kk i:=B;have D:O=OO i:=D;subst B D
 rcases U with⟨rfl,E⟩|⟨j,x,rfl,H⟩|⟨rfl,G⟩
 . cases e:s.ms with
   | add l=>
     rw[Cq e]at h;cases l with
     | zero=>
       by_cases hd:A.dir=true
       . exact goes (Kb C X r hd u e d h sl)
       exact goes (He r (Bool.eq_false_iff.2 hd) u e d h sl)
     |succ l=>exact goes (J4 C X r u e rfl rfl d h sl)
   |bs l p=>rw[e]at E;exact E.elim
   | spawn l=>
     have m:cx P A Fin s 0=Ee P A Fin l:=by unfold cx;rw[YG rfl,e]
     rw[m]at h;exact goes (Hd r u e d h sl)
   |parked=>rw[e]at E;exact E.elim
   |off=>rw[e]at E;exact E.elim
   | recv=>
     have a:A.dir=false:=by
      cases q:A.dir with
      |false=>rfl
      |true=>exact absurd e (R.off.2.1 q).1
     rw[mZ e]at h;obtain⟨g₂,z,V,r2,r3,r4⟩:=J5 h
     by_cases K:∃j,j<A.n/\s.w j=.wait
     . obtain⟨j,x,H⟩:=K
       exact goes (J7 r a u e x H d V h sl)
     by_cases G:s.c=.gone
     . obtain⟨ops,y,S,gs',w',o,k',O',g',T,e3⟩:=P7 r a u e G d h sl
       exact⟨ops,y,S,.inr ⟨gs',w',o,k',O',g',T,e3⟩⟩
     exact goes (J8 r a u e (λj x H=>K ⟨j,x,H⟩) G d V r2 r3 r4 sl)
 . cases e:s.w j with
   | run b X0=>
     have m:=mY (Fin:=Fin) x e;have I:=h;rw[m]at I
     rcases I with I|I|⟨a,rfl,W,g₂,z,v,hs,hv,ht⟩
     . exact goes (G1 CM XM F r u x e (Y:=⟨cx P A Fin s (A.b+j),_,_,g,N,L,h,c⟩) Q I sl)
     . exact goes (Cd CM XM F r u x e (Y:=⟨cx P A Fin s (A.b+j),_,_,g,N,L,h,c⟩) Q I sl)
     have hb:b=false:=by
      cases b with
      |false=>rfl
      |true=>exact absurd W (R.yp j x (by rw[e];rfl))
     subst hb
     by_cases E:s.ms=.parked
     . exact goes (J6 r a u x e E d hs hv ht sl)
     exact goes (NU r a u x e E d hs W hv ht sl)
   |xY=>have m:=wI (Fin:=Fin) x e;rw[m]at h;exact goes (G8 C X r u x e d h sl)
   |_=>rw[e]at H;exact H.elim
 have a:A.dir=false:=by
  cases q:A.dir with
  |false=>rfl
  | true=>
    obtain⟨_,_,o3,o4,_⟩:=R.off.2.1 q;cases e:s.c with
    |dS=>exact absurd e o3
    |jc=>exact absurd e o4
    |_=>rw[e]at G;exact G.elim
 cases e:s.c with
 |dS=>rw[F5 a e]at h;exact goes (G6 C X r u e rfl rfl d h a sl)
 | jc=>
   rw[F4 a (by rw[e];simp)]at h
   exact goes (J9 r a u e d h sl)
 |_=>rw[e]at G;exact G.elim
def Ends(P:abm)(Fin:aaG)(Z:Base)(gs:aaJ)(w:World)(t:Trace)(sl:aaI)(i:Nat):Prop:=∃ops b,runT P (crowd gs w sl) i=(.next b,ops)/\∃gs' w' a c d g',b=crowd gs' w' a/\dE P Z.W0 c d g' gs' w' (t++ops)/\Fin c d g'
variable(hsl:∀(n:Nat) (k:ao) (O:ai) (g gB:abd),iQ P (λ_=>True) n g gB->Fin k O gB->Fin k O g)
include C X CM XM F hsl in
def Hg  a   sl   i  {g}(b:bC (bV P A Fin Z a) Z s f q kk OO J M gs w t) (x:fS P A s i) (d:gs[i]?=some g) (k:SC P A Fin s i (kk i) (OO i) g):
 Goes P A Fin Z a s gs w t sl i\/Ek P A s gs w sl i g\/Ends P Fin Z gs w t sl i:=by
 have z:cS P A Z s kk OO J M gs.size w t:=b.ex;have hb:=A.hb;rcases x with⟨rfl,B⟩|⟨j,m,rfl,x⟩|⟨rfl,y⟩
 . cases e:s.ms with
   | bs l p=>
     rcases k with⟨_,h⟩|⟨l,n,D,_⟩|⟨n,h⟩
     . rw[e]at h;exact .inl (Cj C X a b e d h sl)
     . omega
     have:=z.I.ms;rw[e]at this;rw[this.2.1]at h;exact h.elim
   |_=>rw[e]at B;exact B.elim
 . rcases k with⟨n,_⟩|⟨l,n,D,h⟩|⟨n,_⟩
   . omega
   . obtain rfl:l=j:=by omega
     cases e:s.w l with
     | lk p Y=>
       rw[e]at h;by_cases o:p=.la
       . subst o;exact .inl (NH CM XM F a b m e d h sl)
       exact(ND CM XM a b m e d h o sl).imp_right .inl
     | un p Y=>
       rw[e]at h;by_cases r:p=.ur
       . subst r;exact .inl (NI CM XM a b m e d h sl)
       by_cases u:p=.ue
       . subst u
         by_cases hd:A.dir=true
         . exact .inl (Kd CM XM F a hd b m e d h sl)
         exact .inl (NG CM XM F a b m e d h (Bool.eq_false_iff.2 hd) sl)
       exact .inl (NF CM XM a b m e d h r u sl)
     |dn p=>rw[e]at h;exact .inl (NO C X a b m e d h sl)
     |_=>rw[e]at x;exact x.elim
   omega
 rcases k with⟨n,h⟩|⟨l,n,D,h⟩|⟨_,h⟩
 . have:s.c≠.none:=λq=>by rw[q]at y;exact y
   rw[z.off.1 (AM n) this]at h;exact h.elim
 . omega
 cases e:s.c with
 | wt p=>
   rw[e]at h;by_cases v:p=.wa
   . subst v
     by_cases hd:A.dir=true
     . have E:=JL hd
       rw[E]at d h ⊢;exact .inr (.inr (Kc C X hsl a hd b e d h sl))
     exact .inl (NR C X a b e d h (Bool.eq_false_iff.2 hd) sl)
   exact(NQ C X a b e v d h sl).imp_right .inl
 |_=>rw[e]at y;exact y.elim
include C X CM XM F hsl in
def Ke  b  (a:bC (bV P A Fin Z b) Z s f q kk OO J M gs w t)  sl :
 ∃N gs' w' d o k' O' g',runNT P N (crowd gs w sl) t=(.next (crowd gs' w' d),o)/\dE P Z.W0 k' O' g' gs' w' o/\Fin k' O' g':=
 Jo (bf (P:=P) (A:=A) (Fin:=Fin) (Z:=Z) b) Fin (λa=>AQ b a) (by intro s f q kk OO J M gs w t sl i k O g N p h c a r u;exact Hf C X CM XM F b sl i p h c a r u)
  (by
    intro s f q kk OO J M gs w t sl i g a v x j _;rcases Hg C X CM XM F hsl b sl i a v x j with⟨ops,l,m,n⟩|⟨hd,e⟩|⟨ops,l,m,n⟩
    . exact⟨ops,l,m,.inl n⟩
    . exact⟨_,_,e,.inr (.inr ⟨hd,rfl,rfl⟩)⟩
    exact⟨ops,l,m,.inr (.inl n)⟩) s _ f _ q kk OO J M gs w sl t rfl rfl a
end
def wQ{F}:∀{n},(∀i,i<n->F i=0)->sumTo n F=0
 |0,_=>rfl
 |n+1,h=>by simp only[sumTo,wQ (n:=n) λi a=>h i (by omega),h n (by omega)]
def Hh  n :Mu.Inv n (λ_=>.out) ⟨.zero,0⟩:=by
 have a:∀(F:Mu.Pc->Nat),F .out=0->Mu.eQ n (λ_=>F .out)=0:=λF b=>by rw[b];exact Mu.Ao n
 refine⟨⟨λi _=>trivial,?_,λ_=>⟨?_,?_,?_⟩,λh=>(by cases h),λ_ _ _ h=>absurd rfl h⟩,λh=>(by cases h),λi _ old sv h=>(by cases h)⟩
 . rw[a Mu.bW rfl];rfl
 . rw[a Mu.eY rfl,a Mu.cC rfl,a Mu.mF rfl];rfl
 . rw[a Mu.cV rfl]
 rw[a Mu.cB rfl,a Mu.cC rfl];rfl
def MS.start  P  (d:Bool) (n:Nat):MS P:=⟨d,.add n,0,λ_=>.idle,.none,⟨.zero,0⟩,0,0,0⟩
def Hi  P   d   n :bN n (MS.start P d n):=by
 refine⟨?_,Nat.zero_le _,λh=>(by cases h),λj _ h=>(by rcases h with h|h<;>cases h),λi j _ _ h=>(by cases h),λj _ h=>(by cases h),⟨Nat.zero_le _,λh=>(by cases h)⟩,λh=>(by cases h),λh=>(by cases h),λh=>(by cases h),λk h=>(by cases h),λj _=>rfl,rfl,Nat.zero_le _,λj _=>⟨λ_=>Nat.zero_le _,λ_=>rfl⟩,⟨ZP _,rfl⟩,λ_ _ j _=>rfl,Hh n⟩;show 0=sumTo n (λ_=>0)+0;rw[wQ λ_ _=>rfl]
structure gh where
 n:Nat
 dir:Bool
 cF:Nat
 fb:Nat
 fo:Nat
 gb:Nat
 mb:Nat
 GI:sT->Prop
 res:Nat->AV
 val:Nat->Value
 nm:BV
 ng:Nt
 hn:n<=900
 d1:cF≠fb
 d2:cF≠gb
 d3:cF≠mb
 d4:fb≠gb
 d5:fb≠mb
 d6:gb≠mb
def gh.at(A:gh)  b  (hb:0<b):bJ:=⟨b,A.n,if A.dir then 0 else b+A.n,A.cF,A.fb,A.fo,A.gb,A.mb,A.GI,A.res,A.val,A.nm,A.ng,⟨hb,by split<;>simp⟩,A.hn,A.d1,A.d2,A.d3,A.d4,A.d5,A.d6⟩
def gh.wR(A:gh)  b   hb :(A.at b hb).dir=A.dir:=by
 show((if A.dir=true then 0 else b+A.n)==0)=A.dir
 grind
def gh.rest(A:gh)(O:ai):ai:=λb=>if(A.dir=false/\b=A.cF)\/b=A.fb\/b=A.gb\/b=A.mb then none else O b
section
variable{P:abm}{Fin:aaG}
def kG{w:World}{b i c e}(h:w.heap[b]?=some (.cells c e (0,0))):w.frozen? ⟨b,i,none⟩=false:=by simp[World.frozen?,h]
def mh{w:World}{b i c e v}(h:w.heap[b]?=some (.cells c e (0,0)))(a:c[i]?=some v):w.cell? ⟨b,i,none⟩=some v:=by simp[World.cell?,h,a]
def Ep(A:gh)(C:ga P A.ng)(X:il P A.ng)(CM:fQ P A.nm)(XM:fR P A.nm)(F:lO P A.nm){k O g cg eg x a lp}
 (hF:A.dir=false->∃xF tm,O A.cF=some (.obj (.chan 0 #[] false xF xF tm))) (hG:O A.gb=some (.obj (.cells cg eg (0,0)))) (b9:cg[0]?=some (.int .u64 0)) (bm:cg[1]?=some (.int .u32 0)) (hL:O A.fb=some (.part lp)) (bw:lp A.fo=some (.int .i32 0)) (bx:lp (A.fo+1)=some (.int .u32 0)) (dj:A.dir=true->∀j,j<A.n->lp (A.fo+2+j)≠none) (hsl:∀  n   k   O   g gB ,iQ P (λ_=>True) n g gB->Fin k O gB->Fin k O g)
 (hM:O A.mb=some x) (dm:jY k x a) (bA:A.GI a) (ht:∀b  hb ,T P (ot P (A.at b hb) Fin A.n) gg k (A.rest O) g):zX P k O g Fin:=by
 intro W0 gs w sl t hS;have a9:∀b x,O b=some x->W0.heap.size<=b:=by obtain⟨_,_,_,_,_,_,_,_,_,h⟩:=hS;exact h
 have hb:0<gs.size:=by
  obtain⟨_,_,h0,_⟩:=hS
  grind
 obtain⟨B,J⟩:∃B,B=A.at gs.size hb:=⟨_,rfl⟩;obtain⟨lk,dr⟩:∃lk,lk=gs.size+A.n+1:=⟨_,rfl⟩;obtain⟨Z0,z1,z2,z3,z4,h0,⟨q,b1⟩,bB,R,c5⟩:=cq.start hS lk ⟨A.fb,A.fo,none⟩ (by omega)
 have z:Sat k O w:=by have:=R.sat 0;rwa [an,an]at this
 obtain⟨tr⟩:=T.tree (Cp (P:=P) (A:=B) (Fin:=Fin) A.n) (by rw[J];exact ht gs.size hb)
 have V:(0:Nat)≠lk:=by omega
 have al:∀i,aR O A.gb i:=λi=>.inl ⟨_,hG⟩
 have av:∀i,k.cell A.gb i=none:=λi=>by
  cases e:k.cell A.gb i with
  |none=>rfl
  |some v=>exact absurd (al i) (z.apart _ _ _ e)
 have K:∀i,(i=A.fo\/i=A.fo+1\/(A.dir=true/\∃j,j<A.n/\i=A.fo+2+j))->aR O A.fb i:=λi D=>.inr (.inr ⟨_,hL,by grind⟩)
 have ax:∀i,(i=A.fo\/i=A.fo+1\/(A.dir=true/\∃j,j<A.n/\i=A.fo+2+j))->k.cell A.fb i=none:=λi D=>by
  cases e:k.cell A.fb i with
  |none=>rfl
  |some v=>exact absurd (K i D) (z.apart _ _ _ e)
 have L:=z.obj _ _ hG;obtain⟨cl,el,S,_,b2⟩:=z.part _ _ hL
 have c6:∀b y,A.rest O b=some y->O b=some y/\(A.dir=false->b≠A.cF)/\b≠A.fb/\b≠A.gb/\b≠A.mb:=λb y h=>by
  unfold gh.rest at h
  simp_all
 obtain⟨kk,ay⟩:∃kk,kk=bP (bP (λ_=>ao.bot) 0 k) lk k:=⟨_,rfl⟩
 obtain⟨OO,aC⟩:∃OO,OO=bP (bP (λ_=>ai.bot) 0 (A.rest O)) lk (ai.bot.set A.mb x):=⟨_,rfl⟩
 have aE:kk 0=k:=by rw[ay,ar _ _ V,an]
 have b3:kk lk=k:=by rw[ay,an]
 have aL:∀i,i≠0->i≠lk->kk i=ao.bot:=λi o h2=>by rw[ay,ar _ _ h2,ar _ _ o]
 have b4:OO 0=A.rest O:=by rw[aC,ar _ _ V,an]
 have b5:OO lk=ai.bot.set A.mb x:=by rw[aC,an]
 have c7:∀i,i≠0->i≠lk->OO i=ai.bot:=λi o h2=>by rw[aC,ar _ _ h2,ar _ _ o]
 have G:∀i b y,OO i b=some y->(i=0/\O b=some y/\(A.dir=false->b≠A.cF)/\b≠A.fb/\b≠A.gb/\b≠A.mb)\/(i=lk/\b=A.mb/\y=x):=λi b y h=>by
  by_cases N:i=0
  . subst N;rw[b4]at h;grind
  by_cases Q:i=lk
  . subst Q
    rw[b5]at h
    by_cases eb:b=A.mb
    . subst eb;simp only[ai.set,YD,kn]at h;grind
    simp only[ai.set,YA eb]at h;cases h
  rw[c7 i N Q]at h;cases h
 have dx:∀i b n v,(kk i).cell b n=some v->k.cell b n=some v:=λi b n v h=>by
  by_cases N:i=0
  . grind
  by_cases Q:i=lk
  . grind
  rw[aL i N Q]at h;cases h
 have c9:cq Z0 kk OO (λ_=>False) (λ_=>False) w t:=by
  have h:=R.sZ (u:=#[]) (w':=w) (kk':=kk) (OO':=OO) (J':=λ_=>False) (M':=λ_=>False) (λa b=>a=b\/(a=0/\b=lk)) rfl ⟨⟨.refl _,rfl⟩,λ_ _=>rfl⟩ (λb=>.inl rfl) (λop h=>by simp at h) (λi j e n y I hm hz hk=>?_) (λj b n v H=>?_) (λj b s H=>?_) (λj b y I=>?_) (λi j b y dy I=>?_)
   (λsaid=>by rw[pZ];exact R.clean said) (λop M=>by simp at M) (λm op a M=>by simp at M) (λn a ha hm h=>?_)
  . grind
  . rw[pZ]
    rcases e with rfl|⟨rfl,rfl⟩
    . exact hk
    unfold GF;rw[z2,YG rfl,z1];obtain⟨op,M,_⟩:=touch_of I
    grind
  . by_cases N:j=0
    . subst N;rw[aE]at H;exact⟨0,.inl rfl,by rw[an];exact H⟩
    by_cases Q:j=lk
    . subst Q;rw[b3]at H;exact⟨0,.inr ⟨rfl,rfl⟩,by rw[an];exact H⟩
    rw[aL j N Q]at H;cases H
  . by_cases N:j=0
    . subst N;rw[aE]at H;exact⟨0,.inl rfl,by rw[an];exact H⟩
    by_cases Q:j=lk
    . subst Q;rw[b3]at H;exact⟨0,.inr ⟨rfl,rfl⟩,by rw[an];exact H⟩
    rw[aL j N Q]at H;cases H
  . rcases G j b y I with⟨rfl,o,_⟩|⟨rfl,rfl,rfl⟩
    . exact⟨0,.inl rfl,by rw[an];exact o,λs W=>by rw[an]at W;grind⟩
    exact⟨0,.inr ⟨rfl,rfl⟩,by rw[an];exact hM,λs W=>by rw[an]at W;grind⟩
  . cases e:OO j b with
    |none=>rfl
    | some y'=>
      rcases G i b y I with⟨rfl,_,_,_,_,h5⟩|⟨rfl,o,_⟩
      . grind
      grind
  grind
 have ca:A.gb<w.heap.size:=(zs.1 L).1
 have f:∀i b,((A.dir=false/\b=A.cF)\/b=A.fb\/b=A.gb)->OO i b=none:=λi b hb=>by
  cases e:OO i b with
  |none=>rfl
  | some y=>
    rcases G i b y e with⟨_,_,o,h2,h3,_⟩|⟨_,o,_⟩
    . grind
    rcases hb with⟨_,rfl⟩|rfl|rfl
    . exact absurd o A.d3
    . exact absurd o A.d5
    exact absurd o A.d6
 have d:∀i b n,k.cell b n=none->(kk i).cell b n=none:=λi b n h=>by
  cases e:(kk i).cell b n with
  |none=>rfl
  |some v=>grind
 have hP:=c9.rS (λl=>∃c:Addr,l=.cell c/\c.spot=none/\c.block=A.gb/\(c.off=0\/c.off=1)) (λc ⟨c',e,_,o,_⟩=>by cases e;rw[o];exact⟨ca,λi=>⟨dK (f i _ (.inr (.inr rfl))),d i _ _ (av _)⟩⟩) (λr ⟨c',e,_⟩=>by cases e)
 obtain⟨Z,hZ⟩:∃Z:Base,Z=⟨λl=>Z0.Shun l\/∃c:Addr,l=.cell c/\c.spot=none/\c.block=A.gb/\(c.off=0\/c.off=1),Z0.N0,Z0.lk,Z0.la,Z0.W0⟩:=⟨_,rfl⟩
 rw[<-hZ]at hP;have aO:Z.lk=lk:=by grind
 have e7:Z.N0=t.size:=by grind
 have b6:Z.W0=W0:=by grind
 have Y:B.b+B.n+1<=Z.lk:=by rw[aO,J];show gs.size+A.n+1<=lk;omega
 have U:∀m b,touchAt t m=some b->b.loc.isMemory=true->b.kind≠.atomic->Knows t 0 m:=λm b hb hm hk=>by grind
 have a7:∀l,xZ B l->l.isMemory=true:=λl hl=>by cases l<;>first|rfl|exact hl.elim
 have a8:∀i,bQ P B (MS.start P A.dir A.n) i↔i=0:=λi=>by
  constructor
  . rintro(h|⟨l,o,_⟩|⟨_,o⟩)
    . exact h
    . exact absurd o (Nat.not_lt_zero _)
    exact absurd rfl o
  exact λh=>.inl h
 have cb:w.cell? ⟨A.gb,0,none⟩=some (.int .u64 (dU (0:Nat) 0)):=by rw[show dU ((0:Nat):Int) 0=0 by simp[dU]];exact mh L b9
 have E:B.dir=A.dir:=by rw[J];exact A.wR _ _
 have cm:cS P B Z (MS.start P A.dir A.n) kk OO (λ_=>False) (λ_=>False) gs.size w t:=by
  have cv:B.fo=A.fo/\B.fb=A.fb/\B.n=A.n:=by rw[J];exact⟨rfl,rfl,rfl⟩
  rw[J]at a8 a7 E cv ⊢
  refine⟨Hi P A.dir A.n,rfl,E.symm,⟨λ_ h=>absurd rfl h,λ_=>by simp[MS.start],λ_=>by simp[MS.start]⟩,λhd j hj=>⟨λ_=>⟨λi=>d i _ _ (ax _ (.inr (.inr ⟨E ▸ hd,j,hj,rfl⟩))),λm a ad ha _ _=>?_⟩,λh=>(by cases h)⟩,λhd=>?_,⟨mh S (b2 _ _ bw),mh S (b2 _ _ bx),λi=>kG S⟩,⟨cb,mh L bm,λi=>kG L⟩,⟨_,_,S⟩,⟨_,_,L⟩,λi=>⟨λhd=>f i _ (.inl ⟨E ▸ hd,rfl⟩),f i _ (.inr (.inr rfl))⟩,
   λi=>⟨d i _ _ (ax _ (.inl rfl)),d i _ _ (ax _ (.inr (.inl rfl))),d i _ _ (av _),d i _ _ (av _)⟩,λi y I=>?_,λj _ h=>(by cases h),λ_=>⟨x,a,?_,?_,bA⟩,λc hc=>⟨?_,λj _=>rfl⟩,λi=>⟨λh=>h.elim,?_⟩,λp hp=>hp.elim,λh=>(by cases h),λm b hb W hk i D=>?_,λm b hb W hk=>?_,λi D m b hm hb b7 hz=>?_,λm c hm h=>?_,λi o h2=>?_,λl hl h=>?_,λc hc h=>?_,by rw[b6];exact⟨λhd=>(by obtain⟨_,_,h⟩:=hF (E ▸ hd);exact a9 _ _ h),a9 _ _ hL,a9 _ _ hG⟩,?_,?_⟩
  . obtain⟨op,M,_⟩:=touch_of ha
    grind
  . obtain⟨xF,tm,h⟩:=hF (E ▸ hd)
    exact⟨xF,tm,z.obj _ _ h⟩
  . have I:OO i A.fb=some y:=I
    rw[f i A.fb (.inr (.inl rfl))]at I;cases I
  . show OO Z.lk A.mb=some x
    rw[aO,b5];simp[ai.set]
  . grind
  . rw[aO]at hc
    cases e:OO lk c with
    |none=>grind
    | some y=>
      rcases G lk c y e with⟨h,_⟩|⟨_,h,_⟩
      . omega
      exact h
  . rintro(⟨j,_,_,h⟩|⟨_,h⟩)<;>cases h
  . grind
  . exact U m b hb (a7 _ W) (by grind)
  . rw[(a8 i).1 D]
    rcases c5 m b hb b7 with h|⟨h,_⟩
    . exact h
    exact absurd (by rw[hZ];exact .inl h) hz
  . have:=lt_of_act? h
    omega
  . grind
  . obtain⟨c,rfl,b8⟩:=h
    obtain⟨W,hl⟩:=hl;rw[hZ];refine .inr ⟨c,rfl,W,b8,?_⟩
    rcases hl with⟨o,_⟩|⟨_,h2⟩
    . exact absurd (b8.symm.trans o).symm A.d4
    exact h2
  . rw[hZ]at h
    rcases h with h|⟨c',e,_,h,_⟩
    . have:=(R.lg c h).2 0
      rw[an]at this;exact this.1 (by rw[hc.1];exact K _ (hc.2.imp id (·.imp id λh=>⟨E ▸ h.1,h.2⟩)))
    grind
  . grind
  omega
 have ea:B.b=gs.size:=by rw[J];rfl
 have b0:∀i,i≠0 -> ¬dq P B (MS.start P A.dir A.n) i/\¬fS P B (MS.start P A.dir A.n) i/\¬eL P B (MS.start P A.dir A.n) i:=λi D=>by
  refine⟨?_,?_,?_⟩
  . rintro(⟨h,_⟩|⟨_,_,_,h⟩|⟨_,h⟩)
    . exact D h
    . exact h
    exact h
  . rintro(⟨h,_⟩|⟨_,_,_,h⟩|⟨_,h⟩)
    . exact D h
    . exact h
    exact h
  rintro(⟨h,_⟩|⟨_,_,_,h⟩)
  . exact D h
  cases h
 have hC:bC (bV P B Fin Z Y) Z (MS.start P A.dir A.n) (λ_=>⟨_,_,_,_,tr⟩) q kk OO (λ_=>False) (λ_=>False) gs w t:=by
  refine⟨rfl,hP,λi hl=>?_,λi hw=>?_,λi hh=>?_,λi y I n1 n2 n3=>?_,b1.above,cm⟩
  . have D:i=0:=Zm λh=>(b0 i h).1 hl
    subst D;exact⟨by show 0<B.b+B.n+1;omega,h0,(by show ot P B Fin A.n=cx P B Fin (MS.start P A.dir A.n) 0;rfl),aE.symm,b4.symm,tr.running,bB,.inl rfl,Cm⟩
  . have D:i=0:=Zm λh=>(b0 i h).2.1 hw
    subst D;exact absurd hw (y7 (s:=MS.start P A.dir A.n) (m:=A.n) rfl rfl)
  . have D:i=0:=Zm λh=>(b0 i h).2.2 hh
    subst D;exact absurd hh (ma (by simp[MS.start]))
  have D:i≠0:=λe=>n1 (by subst e;exact pn (s:=MS.start P A.dir A.n) (m:=A.n) rfl)
  exact⟨D,b1.old i y (by omega) I⟩
 rw[<-b6];exact Ke (by rw[J];exact C) (by rw[J];exact X) (by rw[J];exact CM) (by rw[J];exact XM) (by rw[J];exact F) hsl Y hC sl
end

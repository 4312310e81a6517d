import Derived.Conc.TokenTrace
import Derived.Test.YtebcbkhnlnkolaaGreatDoorC11
set_option linter.all false
namespace Go.cE
section
open Go.Conc
open Go.ConcN (sumTo upd sumTo_upd upd_ne upd_same)
section
variable{P:adh}{A:rB P}{Z:Base}{s s':A.S}{f f':Nat->Node P}{q q':acZ}{kk kk':adg}{OO OO':adf}{J J' M M':acT}{gs gs':acC}{w w':World}{t u:Trace}
structure Aside(A:rB P)(s s':A.S)(f f':Nat->Node P)(q q':acZ)(kk kk':adg)(OO OO':adf)(J J':acT)(S:acT):Prop where
 ef:∀j,¬S j->f' j=f j
 eq:∀j,¬S j->q' j=q j
 ek:∀j,¬S j->j<A.top->kk' j=kk j
 eO:∀j,¬S j->j<A.top->OO' j=OO j
 eJ:∀j,¬S j->A.Live s j->J j->J' j
 live:∀j,¬S j->(A.Live s' j↔A.Live s j)
 walk:∀j,¬S j->(A.Walk s' j↔A.Walk s j)
 held:∀j,¬S j->(A.oA s' j↔A.oA s j)
 mo:∀j,¬S j->A.Live s j->A.mo s' j=A.mo s j
 at':∀j k O x,¬S j->A.Walk s j->A.At s j k O x->A.At s' j k O x
 deaf:∀j,¬S j->A.Walk s j->A.deaf s' j=A.deaf s j
 zZ:∀j,¬S j->A.Walk s j->A.zZ s j->A.zZ s' j
 Ts:∀j k O x,¬S j->A.oA s j->A.Fs s j k O x->A.Fs s' j k O x
 tie:∀j x,¬S j->A.Live s j->A.O9 s j x->A.O9 s' j x
def bG.IP(m:bG A Z s f q kk OO J M gs w t)(K:kF u)(L:cA Z kk' OO' J' M' w' (t++u))(C:A.Ex s' kk' OO' J' M' gs'.size w' (t++u))(D:gs.size<=gs'.size)(S:acT)(E:∀i,¬S i->gs'[i]?=gs[i]?)
 (a:Aside A s s' f f' q q' kk kk' OO OO' J J' S) (v:∀i,S i->∃n,gs'[i]?=some n/\Self P A s' f' q' kk' OO' J' (t++u) i n):bG A Z s' f' q' kk' OO' J' M' gs' w' (t++u):=by
 have y:∀j,Deaf (t++u) j=Deaf t j:=λj=>ck K j
 refine⟨m.lk,L,λj c=>?_,λj c=>?_,λj c=>?_,λj x z F G H=>?_,λj c=>by rw[y];exact m.above j (aar D c),C⟩
 . by_cases e:S j
   . obtain⟨n,B,l⟩:=v j e
     obtain⟨d,g,k⟩:=l.live c
     simp_all
   . have b:=(a.live j e).1 c
     obtain⟨d,g,pm,k,p,r,o,I⟩:=m.live j b;rw[a.ef j e,a.ek j e d,a.eO j e d,y j,a.mo j e b,E j e];exact⟨d,g,pm,k,p,r,o,I.1.imp id (a.eJ j e b),a.tie j _ e b I.2⟩
 . by_cases e:S j
   . obtain⟨n,B,l⟩:=v j e
     obtain⟨d,g,k,g',p,r⟩:=l.walk c
     grind
   . have b:=(a.walk j e).1 c
     obtain⟨d,g,k,x,N,p,r,o⟩:=m.walk j b;refine⟨λh=>d ((a.live j e).1 h),g,by rw[y j,a.deaf j e b];exact k,x,N,by simp_all,?_,?_⟩
     . rw[a.ek j e g,a.eO j e g];exact a.at' j _ _ _ e b r
     . rw[a.eq j e]
       rcases o with⟨O,Q,R⟩|o
       . exact .inl ⟨a.zZ j e b O,Q,R⟩
       . exact .inr o
 . by_cases e:S j
   . obtain⟨n,B,l⟩:=v j e
     obtain⟨d,g,k,p,r,o⟩:=l.held c
     simp_all
   . have b:=(a.held j e).1 c
     obtain⟨d,g,k,p,x,V,T,U⟩:=m.held j b;refine⟨λh=>d ((a.live j e).1 h),λh=>g ((a.walk j e).1 h),k,by simp_all,x,by simp_all,T,?_⟩;rw[a.ek j e k,a.eO j e k];exact a.Ts j _ _ _ e b U
 . by_cases e:S j
   . obtain⟨n,B,l⟩:=v j e
     rw[B]at z;obtain rfl:=aaF z;exact l.rest F G H
   . rw[a.eq j e,y j]
     rw[E j e]at z;exact m.rest j x z (λh=>F ((a.live j e).2 h)) (λh=>G ((a.walk j e).2 h)) (λh=>H ((a.held j e).2 h))
def bG.quiet(B:z5 A)(a:bG A Z s f q kk OO J M gs w t){i:Nat}{x:acW}(d:gs[i]?=some x)(n:¬A.oA s i)(c:Nat)(b:Bool):offersAt x c b=[]:=by
 by_cases g:A.Live s i
 . obtain⟨_,j,_,_,_,k,_⟩:=a.live i g
   rw[d]at j;obtain rfl:=aaF j;exact offersAt_of_not_blocked (by simp_all) _ _
 by_cases l:A.Walk s i
 . obtain⟨_,_,_,y,o,m,k,e⟩:=a.walk i l
   rw[d]at m;obtain rfl:=aaF m;obtain⟨p,r⟩:=B.kO k;rcases e with⟨_,rfl,_⟩|e
   . show offersAt (blk o) c b=[]
     unfold offersAt blk
     simp_all
   . exact offersAt_of_not_blocked (by rw[e.first p];decide) _ _
 . have h:=(a.rest i x d g l n).2
   refine offersAt_of_not_blocked ?_ _ _;rcases h.status with h|h<;>rw[h]<;>decide
end
section
variable{P:adh}{A:bN}{Fin:acy}{Z:Base}{s s':MS P}{f f':Nat->Node P}{q q':acZ}{kk kk':adg}{OO OO':adf}{J J' M M':acT}{gs gs':acC}{w w':World}{t u:Trace}{i:Nat}
structure gY{P:adh}(A:bN)(s s':MS P)(S:acT):Prop where
 w:∀l,l<A.n -> ¬S (A.b+l)->s'.w l=s.w l
 c:¬S A.cl->s'.c=s.c
 ms:¬S 0->s'.ms=s.ms/\MS.rem P A.n s'=MS.rem P A.n s
 sh:s'.sh.ms=s.sh.ms
 gm:s'.gm=s.gm
variable{S:acT}
def gY.live(h:gY A s s' S){j:Nat}(hj:¬S j):dD P A s' j↔dD P A s j:=by
 constructor<;>rintro(⟨b,a⟩|⟨l,a,d,e⟩|⟨b,a⟩)
 . subst b;exact .inl ⟨rfl,by rw[<-(h.ms hj).1];exact a⟩
 . subst d;exact .inr (.inl ⟨l,a,rfl,by rw[<-h.w l a hj];exact e⟩)
 . subst b;exact .inr (.inr ⟨rfl,by rw[<-h.c hj];exact a⟩)
 . subst b;exact .inl ⟨rfl,by rw[(h.ms hj).1];exact a⟩
 . subst d;exact .inr (.inl ⟨l,a,rfl,by rw[h.w l a hj];exact e⟩)
 . subst b;exact .inr (.inr ⟨rfl,by rw[h.c hj];exact a⟩)
def gY.walk(h:gY A s s' S){j:Nat}(hj:¬S j):gy P A s' j↔gy P A s j:=by
 constructor<;>rintro(⟨b,a⟩|⟨l,a,d,e⟩|⟨b,a⟩)
 . subst b;exact .inl ⟨rfl,by rw[<-(h.ms hj).1];exact a⟩
 . subst d;exact .inr (.inl ⟨l,a,rfl,by rw[<-h.w l a hj];exact e⟩)
 . subst b;exact .inr (.inr ⟨rfl,by rw[<-h.c hj];exact a⟩)
 . subst b;exact .inl ⟨rfl,by rw[(h.ms hj).1];exact a⟩
 . subst d;exact .inr (.inl ⟨l,a,rfl,by rw[h.w l a hj];exact e⟩)
 . subst b;exact .inr (.inr ⟨rfl,by rw[h.c hj];exact a⟩)
def gY.held(h:gY A s s' S){j:Nat}(hj:¬S j):fq P A s' j↔fq P A s j:=by
 constructor<;>rintro(⟨b,a⟩|⟨l,a,c,d⟩)
 . subst b;exact .inl ⟨rfl,by rw[<-(h.ms hj).1];exact a⟩
 . subst c;exact .inr ⟨l,a,rfl,by rw[<-h.w l a hj];exact d⟩
 . subst b;exact .inl ⟨rfl,by rw[(h.ms hj).1];exact a⟩
 . subst c;exact .inr ⟨l,a,rfl,by rw[h.w l a hj];exact d⟩
def lu(B:A.b+A.n+1<=Z.lk)(d:gY A s s' S)(C:∀j,¬S j->f' j=f j)(D:∀j,¬S j->q' j=q j)(E:∀j,¬S j->j<A.b+A.n+1->kk' j=kk j)(F:∀j,¬S j->j<A.b+A.n+1->OO' j=OO j)(G:∀j,¬S j->dD P A s j->J j->J' j):
 Aside (cd P A Fin Z B) s s' f f' q q' kk kk' OO OO' J J' S:=by
 have hb:=A.hb;refine⟨C,D,E,F,G,λj a=>d.live a,λj a=>d.walk a,λj a=>d.held a,λj a H=>?_,λj k O y a _ v=>?_,λj a x=>?_,λj a x hd=>?_,λj k O y a _ v=>?_,λj y a _ I=>?_⟩
 . show cD P A Fin s' j=cD P A Fin s j
   unfold cD;by_cases p:j=0
   . subst p
     simp only[aan,(d.ms a).1,(d.ms a).2]
   rcases H with⟨g,_⟩|⟨l,i,m,_⟩|⟨g,_⟩
   . omega
   . subst m
     have e:A.b+l-A.b=l:=by omega
     have r:¬A.b+l=0:=by omega
     have t:A.b+l<A.b+A.n:=by omega
     simp only[aaj r,aal t,e,d.w l i a]
   . have t:¬j<A.b+A.n:=by omega
     simp only[aaj p,aaj t,d.c (g ▸ a)]
 . rcases v with⟨g,h⟩|⟨l,i,m,o⟩|⟨g,h⟩
   . subst g;exact .inl ⟨rfl,by rw[(d.ms a).1];exact h⟩
   . subst m;exact .inr (.inl ⟨l,i,rfl,by rw[d.w l i a];exact o⟩)
   . subst g;exact .inr (.inr ⟨rfl,by rw[d.c a];exact h⟩)
 . show dM P A s' j=dM P A s j
   unfold dM;rcases x with⟨g,L⟩|⟨l,i,m,_⟩|⟨g,_⟩
   . subst g
     rw[aal rfl,aal rfl,(d.ms a).1]
     grind
   . subst m
     have e:A.b+l-A.b=l:=by omega
     have r:¬A.b+l=0:=by omega
     have t:A.b+l<A.b+A.n:=by omega
     simp only[aaj r,aal t,e,d.w l i a]
   . have K:=d.c (g ▸ a)
     by_cases r:j=0
     . subst r
       simp only[aan,(d.ms a).1,K]
     simp_all
 . rcases hd with⟨l,sv,Y,i,m,o,u⟩|⟨g,o,u⟩
   . subst m;exact .inl ⟨l,sv,Y,i,rfl,by rw[d.w l i a];exact o,by rw[d.sh];exact u⟩
   . subst g;exact .inr ⟨rfl,by rw[d.c a];exact o,by rw[d.gm];exact u⟩
 . rcases v with⟨g,g₂,z,i,m,o,u⟩|h
   . subst g;exact .inl ⟨rfl,g₂,z,i,m,o,by rw[(d.ms a).2];exact u⟩
   . exact .inr h
 . exact λl b X i m o=>I l b X i m (by subst m;rw[<-o];exact(d.w l i a).symm)
def vG(c:A.b+A.n+1<=Z.lk)(d:bG (cd P A Fin Z c) Z s f q kk OO J M gs w t){x:acW}(e:gs[i]?=some x)(h:s.ms≠.parked\/i≠0):offersAt x A.cF false=[]:=by
 have B:=bh (P:=P) (A:=A) (Fin:=Fin) (Z:=Z) c;have hb:=A.hb;by_cases a:fq P A s i
 . obtain⟨_,_,_,_,y,g,r,m⟩:=d.held i a
   rw[e]at g;obtain rfl:=aaF g;rcases m with⟨u,_⟩|⟨j,k,o,g₂,z,v,p,_⟩
   . rcases a with⟨_,k⟩|⟨l,k,o,_⟩
     . simp_all
     . omega
   . rw[p,offersAt_parked_send']
 . exact d.quiet B e a _ _
def vH(d:A.b+A.n+1<=Z.lk)(e:bG (cd P A Fin Z d) Z s f q kk OO J M gs w t){x:acW}(g:gs[i]?=some x)(h:∀j,j<A.n->i=A.b+j->s.w j≠.wait)(r:Nat):offersAt x r true=[]:=by
 have B:=bh (P:=P) (A:=A) (Fin:=Fin) (Z:=Z) d;have hb:=A.hb;by_cases a:fq P A s i
 . obtain⟨_,_,_,_,y,k,o,m⟩:=e.held i a
   rw[g]at k;obtain rfl:=aaF k;rcases m with⟨p,g₂,z,c,_⟩|⟨j,u,v,_⟩
   . rw[c,offersAt_parked_recv']
   . rcases a with⟨c,_⟩|⟨l,c,C,D⟩
     . omega
     simp_all
 . exact e.quiet B g a _ _
def oQ{i:Nat}{c:Nat}{b:Bool}(h:∀(j:Nat) (g:acW),j≠i->gs[j]?=some g->offersAt g c b=[]):partners (gs.setIfInBounds i ph) c b=[]:=
 partners_nil λj g a=>by
  rcases getElem?_stand gs i j g a with⟨_,rfl⟩|⟨d,a⟩
  . exact offersAt_ph ..
  grind
end
section
variable{Z:Base}{kk:adg}{OO:adf}{J J' M M':acT}{w w':World}{t u:Trace}
def cA.hand(h:cA Z kk OO J M w t){src dst:Nat}(k:src≠Z.lk)(l:dst≠Z.lk)(o:∀n,Knows t src n->Knows (t++u) dst n)(q:∀op∈u,op.act.touch?=none)(r:∀op∈u,op.act.low w.heap.size)(z:w'.heap.size=w.heap.size)(A:Calm Z w w')(hb:∀b,Kept kk OO w w' b)
 (f:∀n a,touchAt t n=some a->a.loc.isMemory=true->((∃j,J j/\Knows t j n)\/(∃p,M p/\Before t n p))->Told Z J' M' (t++u) n a):
 cA Z (bT kk dst ((kk dst).join (kk src))) OO J' M' w' (t++u):=by
 refine h.uA (λa b=>a=b\/(a=src/\b=dst)) z A hb r (λa b e n y _ _ _ d=>?_) (λj b n v c=>?_) (λj b s c=>?_) (λj b x B=>⟨j,.inl rfl,B,λs i=>?_⟩) h.jv
  (λsaid=>?_) (λop g a f=>by simp_all) (λm op a g f=>by grind) f
 . rcases e with rfl|⟨rfl,rfl⟩
   . exact d.app u
   . exact(oz l).2 (o n ((oz k).1 d))
 . by_cases e:j=dst
   . subst e
     rw[ar]at c;rcases au.nI c with c|c
     . simp_all
     simp_all
   . rw[az _ _ e]at c;simp_all
 . by_cases e:j=dst
   . subst e
     rw[ar]at c;rcases au.Hc c with c|c
     . simp_all
     simp_all
   . rw[az _ _ e]at c;simp_all
 . by_cases e:j=dst
   . subst e;rw[ar];exact(au.sQ _ _).sh b s i
   . rw[az _ _ e];exact i
 . exact noRace_appendMute (h.clean said) q
end
end
section
open Go.Conc
open Go.ConcN (sumTo upd sumTo_upd upd_ne upd_same)
variable{P:adh}
def MS.kK(s:MS P)(j:Nat)(x:bp P)(m1:pJ)(sp1:Nat):MS P:={s with w:=λi=>if i=j then x else s.w i,ms:=m1,sp:=sp1}
section
variable{s:MS P}{j n:Nat}{x:bp P}{m1:pJ}{sp1:Nat}
def fy:(s.kK j x m1 sp1).w j=x:=by simp[MS.kK]
def jA{i}(h:i≠j):(s.kK j x m1 sp1).w i=s.w i:=by simp[MS.kK,h]
def PL:(λi=>((s.kK j x m1 sp1).w i).pc)=Mu.set (λi=>(s.w i).pc) j x.pc:=by
 funext i;by_cases h:i=j
 . subst h;rw[fy,Mu.aj]
 . rw[jA h,Mu.ai _ _ h]
def Dx(F:bp P->Nat)(hj:j<n):sumTo n (λi=>F ((s.kK j x m1 sp1).w i))+F (s.w j)=sumTo n (λi=>F (s.w i))+F x:=by
 have e:(λi=>F ((s.kK j x m1 sp1).w i))=upd (λi=>F (s.w i)) j (F x):=by
  funext i;by_cases h:i=j
  . subst h;rw[fy,upd_same]
  . rw[jA h,upd_ne _ _ h]
 rw[e];have:=sumTo_upd (λi=>F (s.w i)) (F x) id hj
 simp_all
def bR.kK(I:bR n s)(hj:j<n)(E:x.cnt+m1.pend=(s.w j).cnt+s.ms.pend)(g:(s.w j).last=false)(d:x.last=false)(v:s.w j≠.gone)(m:x.ok=true)(o:x.pc=(s.w j).pc)(hi:x.jx=false)
 (k:(sp1=s.sp/\(s.w j).jx=false)\/(sp1=s.sp+1/\j=s.sp)) (y:x.iH=true->s.c≠.none)
 (q:match (generalizing:=false) m1 with
   |.add l=>sp1+l=n/\s.c=.none
   |.bE l p=>sp1+l=n/\s.c=.none/\1<=l/\(p=.a0\/p=.a2\/p=.a4\/p=.ae)
   |.spawn l=>sp1+l+1=n/\s.c=.none
   |.recv=>sp1=n/\s.c≠.none
   |.parked=>sp1=n/\s.c≠.none/\s.c≠.gone/\∀i,i<n->(s.kK j x m1 sp1).w i≠.wait
   |.off=>sp1=n/\s.c≠.none):bR n (s.kK j x m1 sp1):=by
 have t:=Dx (s:=s) (x:=x) (m1:=m1) (sp1:=sp1) bp.cnt hj
 have f:∀{i:Nat},((s.kK j x m1 sp1).w i).last=(s.w i).last:=λ{i}=>by
  by_cases e:i=j
  . subst e;rw[fy,g,d]
  . rw[jA e]
 have dn:∀{i:Nat}{p:Hv},(p=.d5\/p=.d6\/p=.d7)->((s.kK j x m1 sp1).w i=.dn p↔s.w i=.dn p):=λ{i p} u=>by
  by_cases e:i=j
  . subst e
    rw[fy];constructor<;>intro h
    . rw[h]at d;rcases u with rfl|rfl|rfl<;>cases d
    . rw[h]at g;rcases u with rfl|rfl|rfl<;>cases g
  . rw[jA e]
 refine⟨?_,I.g2,I.FF,λi hi h=>?_,λi l hi g h b=>?_,λi hi h=>?_,⟨I.g5.1,λh=>?_⟩,λh b r=>?_,λh b=>?_,λh=>?_,I.g9,λi a=>?_,I.Tq,?_,λi a=>?_,q,λhd h i a=>?_,?_⟩
 . have:=I.g1
   show s.gc=sumTo n (λi=>((s.kK j x m1 sp1).w i).cnt)+m1.pend;omega
 . exact I.g3 i hi (h.imp (dn (.inl rfl)).1 (dn (.inr (.inl rfl))).1)
 . rw[f]at h b;exact I.Hy i l hi g h b
 . exact I.g4 i hi ((dn (.inr (.inr rfl))).1 h)
 . obtain⟨z,A,B,F⟩:=I.g5.2 h
   exact⟨z,A,B,λi hi=>by simp_all⟩
 . obtain⟨i,hi,C⟩:=I.g6 h b r
   grind
 . obtain⟨i,hi,C⟩:=I.g7 h b
   grind
 . exact absurd ((I.g8 h).2.2.2 j hj) v
 . by_cases e:i=j
   . subst e;rw[fy];exact m
   . rw[jA e];exact I.ok i a
 . have:=I.sp
   show sp1<=n;omega
 . show ((s.kK j x m1 sp1).w i).jx=true↔sp1<=i
   by_cases e:i=j
   . subst e
     rw[fy,hi];rcases k with⟨h,b⟩|⟨h,b⟩
     . have:=I.idle i a
       simp_all
     simp_all
   . rw[jA e]
     rcases k with⟨h,b⟩|⟨h,b⟩
     . rw[h];exact I.idle i a
     . rw[I.idle i a];omega
 . by_cases e:i=j
   . subst e;rw[fy]
     cases D:x.iH with
     |false=>rfl
     |true=>exact absurd h (y D)
   . rw[jA e];exact I.early hd h i a
 . rw[PL,o,jz (λi=>(s.w i).pc)];exact I.mu
def uS(hj:j<n)(h:x.cu+m1.cu<(s.w j).cu+s.ms.cu):MS.gh n (s.kK j x m1 sp1) s:=by
 have:=Dx (s:=s) (x:=x) (m1:=m1) (sp1:=sp1) bp.cu hj;refine .inl ?_;show m1.cu+sumTo n (λi=>((s.kK j x m1 sp1).w i).cu)+s.c.cu s.gc<s.ms.cu+sumTo n (λi=>(s.w i).cu)+s.c.cu s.gc;omega
end
section
variable{A:bN}{Z:Base}{s s':MS P}{kk kk':adg}{OO:adf}{J J' M:acT}{gsz gsz':Nat}{w w':World}{t u:Trace}
def cZ.chan(h:cZ P A Z s kk OO J M gsz w t)(hI:bR A.n s')(I:wh P A s')(T:s'.d=s.d)(D:A.dir=true->∀l,l<A.n->(s'.w l).iw=(s.w l).iw/\kk' (A.b+l)=kk (A.b+l)\/(s'.w l).rel=false/\(s.w l).iw=false)(G:gsz'=A.b+s'.sp+(if s'.c.isNone||A.dir then 0 else 1))(U:A.dir=false->∃x tm,w'.heap[A.cF]?=some (.chan 0 #[] s'.c.eF x x tm))(j:∀b,b≠A.cF->w'.heap[b]?=w.heap[b]?)
 (V:s'.sh=s.sh) (W:s'.gc=s.gc) (X:s'.gv=s.gv) (Y:s'.gm=s.gm) (K:∀l,l<A.n->(s'.w l).owns=(s.w l).owns) (a9:∀i b n v,(kk' i).cell b n=some v->∃l,(kk l).cell b n=some v) (L:kk' Z.lk=kk Z.lk)
 (a7:∀i,J' i↔dY P A s' i) (z:s'.c=s.c\/(s.c=.none/\(s'.c=.eC\/∃q,s'.c=.wt q)/\∀m,Knows t 0 m->Knows (t++u) A.cl m)) (hu:∀op∈u,op.act.touch?=none/\∀a,op.act≠.mark (.release a))
 (E:∀i,bU P A s' i->bU P A s i\/(∀m,Knows t 0 m->Knows (t++u) i m)) (N:∀i,i≠Z.lk -> ¬bU P A s' i->kk' i=au.bot/\OO i=ak.bot):
 cZ P A Z s' kk' OO J' M gsz' w' (t++u):=by
 have k:∀{m:Nat}{a:Touch},touchAt (t++u) m=some a->touchAt t m=some a:=λ{m a} r=>by
  rcases dU r with⟨o,_⟩|⟨op,O,o⟩
  . exact o
  simp_all
 have g:∀i b n,(∀l,(kk l).cell b n=none)->(kk' i).cell b n=none:=λi b n hn=>by
  cases e:(kk' i).cell b n with
  |none=>rfl
  |some v=>grind
 have H:s'.c=.gone->s.c=.gone:=λe=>by simp_all
 refine⟨hI,G,T.trans h.dd,I,λhd l B=>⟨λQ=>?_,λhr=>?_⟩,U,by rw[V];exact h.mu.same (.of_heap (j _ (za A.d1))),by rw[W,X,Y];exact h.gr.same (.of_heap (j _ (za A.d2))),by rw[j _ (za A.d1)];exact h.vD,by rw[j _ (za A.d2)];exact h.zq,h.gz,
  λi=>⟨g i _ _ λl=>(h.eD l).1,g i _ _ λl=>(h.eD l).2.1,g i _ _ λl=>(h.eD l).2.2.1,g i _ _ λl=>(h.eD l).2.2.2⟩,λi y hy=>?_,λl B a8=>h.zr l B (by simp_all),λa8=>?_,λc z=>?_,
  a7,λp hp=>?_,λz=>h.mK u (H z),λm a r R S i hi=>?_,λm a r R S=>?_,λi hi m a hm r F hz=>?_,h.jy u (λop O=>(hu op O).2),N,h.sS,h.jR,h.fa,h.la,by simp;exact aar h.n0 (abf _ _)⟩
 . have Q:(s.w l).iw=false:=(D hd l B).elim (λe=>e.1 ▸ Q) (·.2)
   exact⟨λi=>g i _ _ ((h.yZ hd l B).1 Q).1,λm a ad r=>((h.yZ hd l B).1 Q).2 m a ad (k r)⟩
 . rcases D hd l B with⟨e1,e2⟩|⟨e,_⟩
   . rw[e2];exact(h.yZ hd l B).2 (by rw[bp.rel,<-e1,<-K l B];exact hr)
   simp_all
 . obtain⟨l,f,h3,h4,h5,h6⟩:=h.tok i y hy
   exact⟨l,f,h3,h4,by grind,h6⟩
 . rw[L];exact h.OM λl B=>by simp_all
 . obtain⟨h3,h4⟩:=h.ON c z
   simp_all
 . obtain⟨o,h2,h3⟩:=h.vF u p hp
   grind
 . rcases E i hi with o|o
   . exact(h.quiet m a (k r) R S i o).app u
   . exact o m (h.quiet m a (k r) R S 0 (.inl rfl))
 . have h0:=h.said m a (k r) R S
   rcases z with z|⟨z,C,o⟩
   . rw[z];exact h0.app u
   . rw[z]at h0
     rcases C with C|⟨_,C⟩<;>rw[C]<;>exact o m h0
 . have ab:m<t.size:=aaG hm h.n0
   rcases E i hi with o|o
   . exact(h.old i o m a hm (k r) F hz).app u
   . exact o m (h.old 0 (.inl rfl) m a hm (k r) F hz)
end
end
open Go.Conc
open Go.ConcN (sumTo upd sumTo_upd upd_ne upd_same)
section
variable{P:adh}{A:bN}{Fin:acy}{Z:Base}{s s':MS P}{f f':Nat->Node P}{q q':acZ}{kk kk':adg}{OO OO':adf}{J J' M M':acT}{gs gs':acC}{w w':World}{t u:Trace}{j:Nat}{g g₂:acW}{z v:Value}
def tk{l}:l∈MS.rem P A.n s↔l<A.n/\(s.w l).iH=false:=by
 unfold MS.rem
 grind
def PM{m1 sp1}(hj:j<A.n)(h:(s.w j).iH=false):MS.rem P A.n (s.kK j .yX m1 sp1)=(MS.rem P A.n s).erase j/\(MS.rem P A.n s).length=(MS.rem P A.n (s.kK j .yX m1 sp1)).length+1:=by
 have e:MS.rem P A.n (s.kK j .yX m1 sp1)=(MS.rem P A.n s).erase j:=by
  unfold MS.rem;rw[List.Nodup.erase_eq_filter (List.Nodup.sublist List.filter_sublist List.nodup_range),List.filter_filter];refine abw λi _=>?_
  by_cases a:i=j
  . subst a;rw[fy];simp[bp.iH]
  . rw[jA a];simp[a]
 refine⟨e,?_⟩;have b:j∈MS.rem P A.n s:=tk.2 ⟨hj,h⟩
 grind
def xS(hj:j<A.n)(e:s.w j=.wait):¬dD P A s (A.b+j):=by
 have:=A.hb;rintro(⟨e,_⟩|⟨l,a,c,d⟩|⟨e,_⟩)
 . omega
 . simp_all
 . omega
def oR(hj:j<A.n)(e:s.w j=.wait\/s.w j=.yX):¬gy P A s (A.b+j):=by
 have:=A.hb;rintro(⟨e,_⟩|⟨l,a,c,d⟩|⟨e,_⟩)
 . omega
 . grind
 . omega
def xT(hj:j<A.n)(e:s.w j=.yX):cD P A Fin s (A.b+j)=kV P A:=by
 have:=A.hb;unfold cD
 grind
def fL  g   fn   pos :MemOp.ofEvents g fn pos #[]=#[]:=by rw[ofEvents_eq];simp
def qS(t:Trace):t++(#[]:Trace)=t:=by simp
def Dy:kF #[]:=λop h=>by simp at h
def PN  E  (k:A.dir=false) (C:bG (cd P A Fin Z E) Z s f q kk OO J M gs w t) (hj:j<A.n){W}(o:s.w j=.run false W) (X:s.ms≠.parked) (S:gs[A.b+j]?=some g)
 (Y:∀w,Sat (kk (A.b+j)) (OO (A.b+j)) w->stepG P false g w=.comm g₂ #[scase A.cF v z] true .send w #[]) (hO:OO (A.b+j) A.fb=none) (hv:V (kk (A.b+j)) v (A.res j)) (ht:T P (kV P A) gM (kk (A.b+j)) (OO (A.b+j)) (Go.Conc.served g₂ undef))  sl :
 Goes P A Fin Z E s gs w t sl (A.b+j):=by
 have m:cZ P A Z s kk OO J M gs.size w t:=C.ex;have hb:=A.hb;have F:(A.b+j==0)=false:=by simp;omega
 obtain⟨c,tm,U⟩:=m.Ac k
 have G:s.c.eF=false:=by
  cases e:s.c with
  |gone=>have:=(m.I.g8 (by rw[e];rfl)).2.2.2 j hj;simp_all
  |_=>rfl
 rw[G]at U;have H:=(zA.1 S).1;obtain⟨_,_,_,_,_,_,hd,_⟩:=C.live _ (kj hj o)
 have K:∀L∈(#[scase A.cF v z]:Array CommCase),NoWays w (gs.setIfInBounds (A.b+j) ph) L:=λL a7=>by
  have:L=scase A.cF v z:=by simp_all
  subst this;exact ways_send_none U (by simp) (oQ λi x _ hx=>vG E C hx (.inl X))
 have p:=crowd_waits (P:=P) (sl:=sl) S (by rw[F];exact Y w (C.cO.sat _)) K
 rw[fL]at p;have N:∀i,¬(i=A.b+j)->(gs.setIfInBounds (A.b+j) (parked g₂ #[scase A.cF v z] .send))[i]?=gs[i]?:=λi D=>aam (za D)
 have r:(gs.setIfInBounds (A.b+j) (parked g₂ #[scase A.cF v z] .send))[A.b+j]?=some (parked g₂ #[scase A.cF v z] .send):=LF H;have hP:cA Z kk OO J M w (t++#[]):=by rw[qS];exact C.cO
 obtain⟨s',a⟩:∃s',s'=s.kK j .wait s.ms s.sp:=⟨_,rfl⟩;have d:s'.w j=.wait:=by rw[a,fy]
 have O:∀{l:Nat},l≠j->s'.w l=s.w l:=λh=>by rw[a,jA h]
 have hI:bR A.n s':=by
  rw[a];refine m.I.kK hj (by rw[o];rfl) (by rw[o];rfl) rfl (by grind) rfl (by rw[o];rfl) rfl (.inl ⟨rfl,by rw[o];rfl⟩) (λh=>by cases h) ?_
  have:=m.I.ms
  grind
 have u:∀l,l<A.n->(s'.w l).iH=(s.w l).iH:=λl _=>by
  by_cases e:l=j
  . subst e;rw[d,o];rfl
  grind
 have y:∀l,(s'.w l).busy=(s.w l).busy:=λl=>by
  by_cases e:l=j
  . subst e;rw[d,o];rfl
  grind
 have Q:cZ P A Z s' kk OO J M (gs.setIfInBounds (A.b+j) (parked g₂ #[scase A.cF v z] .send)).size w (t++#[]):=by
  refine m.chan hI (BS k (by rw[a];exact m.off.2.2 k)) (by rw[a];rfl) (λh=>by simp_all) (by rw[aaZ,a];exact m.size) (by rw[a];exact m.Ac) (λ_ _=>rfl) (by rw[a];rfl) (by rw[a];rfl) (by rw[a];rfl) (by rw[a];rfl) (λl _=>?_) (λi b n v h=>⟨i,h⟩) rfl (λi=>?_) (.inl (by rw[a];rfl)) (λop h=>by simp at h) (λi D=>.inl ?_) (λi R hn=>m.De i R λh=>hn ?_)
  . by_cases e:l=j
    . subst e;rw[d,o];rfl
    grind
  . rw[m.hJ i]
    unfold dY;simp only[y,show s'.c=s.c by rw[a];rfl]
  . rw[a]at D;exact D
  . rw[a];exact h
 have hL:MS.gh A.n s' s:=by rw[a];exact uS hj (by rw[o];simp[bp.cu])
 have hS:gY A s s' (λi=>i=A.b+j):=⟨λl _ hl=>O (by omega),λ_=>by rw[a];rfl,λ_=>⟨by rw[a];rfl,xP u⟩,by rw[a];rfl,by rw[a];rfl⟩
 refine⟨_,_,p,s',f,q,kk,OO,J,M,_,_,_,rfl,hL,?_⟩;refine C.IP Dy hP Q (by simp) (λi=>i=A.b+j) N (lu E hS (λ_ _=>rfl) (λ_ _=>rfl) (λ_ _ _=>rfl) (λ_ _ _=>rfl) (λ_ _ _ h=>h)) (λi D=>?_)
 subst D;have B:fq P A s' (A.b+j):=.inr ⟨j,hj,rfl,d⟩;refine⟨_,r,λh=>absurd h (xS hj d),λh=>absurd h (oR hj (.inl d)),λ_=>⟨xS hj d,oR hj (.inl d),?_,by simp_all,rfl,.inr ⟨j,hj,rfl,g₂,z,v,rfl,hv,hO,ht,k⟩⟩,λ_ _ h=>absurd B h⟩
 omega
def mQ(a b c s r cap:Nat)(f1 d:FuncId)(e f:String):Trace:=#[{g:=a,fn:=f1,pos:=e,act:=.send c s},{g:=b,fn:=d,pos:=f,act:=.recv c r cap},{g:=a,fn:=f1,pos:=e,act:=.sendDone c s},{g:=b,fn:=d,pos:=f,act:=.recvDone c r}]
def ko{a b c s r cap f1 d e f op}(h:op∈mQ a b c s r cap f1 d e f):op.act.touch?=none/\(op.act≠.mark .disable/\op.act≠.mark .enable)/\(∀B,c<B->op.act.low B)/\∀a,op.act≠.mark (.release a):=by
 simp only[mQ,List.mem_toArray,aaD,abD,or_false]at h;rcases h with rfl|rfl|rfl|rfl<;>exact⟨rfl,⟨by simp,by simp⟩,λB g=>g,by simp⟩
def tp{w c cap s r buf cl tm d}(a:ChanAt w c){b}:
 ((w.at d).setChan c cap buf cl s r tm).heap[b]?=if b=c then some (.chan cap buf cl s r tm)else w.heap[b]?:=by
 obtain⟨_,_,_,_,_,_,h⟩:=a;have e:=(zA.1 h).1;simp only[World.setChan,World.at]
 grind
def xU  m   R :(rI P A Fin m R).solo=false:=by cases m<;>rfl
def nO(e:s.ms=.recv):cD P A Fin s 0=rI P A Fin (MS.rem P A.n s).length (MS.rem P A.n s):=by
 unfold cD
 simp_all
def jb(e:s.ms=.recv):dD P A s 0:=.inl ⟨rfl,by simp_all⟩
def tu(hd:A.dir=false)(e:s.ms=.recv\/s.ms=.parked):¬gy P A s 0:=by
 have:=A.hb;have:=vC hd;rintro(⟨_,h⟩|⟨l,a,b,c⟩|⟨h,_⟩)
 . grind
 . omega
 . omega
def Dz{x}:Pr P A s 0 x:=λj h X a b _=>by have:=A.hb;omega
def HK{x}(e:s.w j=.yX):Pr P A s (A.b+j) x:=λl h X a c d=>by simp_all
def handed  Y  (u:A.dir=false) (H:bG (cd P A Fin Z Y) Z s f q kk OO J M gs w t) (hj:j<A.n) (K:s.ms=.recv\/s.ms=.parked) (L:s.w j=.wait\/∃X0,s.w j=.run false X0) (b9:(s.w j).cu+s.ms.cu=119){c tm gw gm v}  d
 (hF:w.heap[A.cF]?=some (.chan 0 #[] false c c tm)) (dj:Deaf t (A.b+j)=0) (d0:Deaf t 0=0)
 (a7:gs'.size=gs.size) (hw:gs'[A.b+j]?=some gw) (hm:gs'[0]?=some gm) (ho:∀i,i≠0->i≠A.b+j->gs'[i]?=gs[i]?)
 (hv:V (kk (A.b+j)) v (A.res j)) (a8:T P (kV P A) gM (kk (A.b+j)) (OO (A.b+j)) gw)
 (a9:∀k',(kk 0).Le k'->V k' v (A.res j)->T P (rI P A Fin ((MS.rem P A.n s).length-1) ((MS.rem P A.n s).erase j)) gM k' (OO 0) gm)  f1 N   O Q :
 ∃s' f' kk',MS.gh A.n s' s/\bG (cd P A Fin Z Y) Z s' f' q kk' OO J M gs' ((w.at d).setChan A.cF 0 #[] false (c+1) (c+1) tm) (t++mQ (A.b+j) 0 A.cF c c 0 f1 N O Q):=by
 have C:cZ P A Z s kk OO J M gs.size w t:=H.ex;have hb:=A.hb;have B:ChanAt w A.cF:=⟨_,_,_,_,_,_,hF⟩;have ab:A.cF<w.heap.size:=(zA.1 hF).1;have X:kF (mQ (A.b+j) 0 A.cF c c 0 f1 N O Q):=λop h=>(ko h).2.1
 have ad:(kk (A.b+j)).Le ((kk 0).join (kk (A.b+j))):=au.xv (H.cO.sat 0) (H.cO.sat _);have al:=a9 _ (au.sQ _ _) (hv.mono ad);obtain⟨R⟩:=T.tree (xU (P:=P) (A:=A) (Fin:=Fin) _ _) al;obtain⟨S⟩:=T.tree (P:=P) (m:=kV P A) rfl a8;have bm:=K
 have U:s.sp=A.n/\s.c≠.none:=by
  have:=C.I.ms
  grind
 have av:s.c.eF=false:=by
  cases e:s.c with
  |gone=>have:=(C.I.g8 (by rw[e];rfl)).2.2.2 j hj;simp_all
  |_=>rfl
 have hP:cA Z (bT kk 0 ((kk 0).join (kk (A.b+j)))) OO J M ((w.at d).setChan A.cF 0 #[] false (c+1) (c+1) tm) (t++mQ (A.b+j) 0 A.cF c c 0 f1 N O Q):=by
  refine H.cO.hand (src:=A.b+j) (dst:=0) (by omega) (by omega) (λn hn=>?_) (λop h=>(ko h).1) (λop h=>(ko h).2.2.1 _ ab) (by simp[World.setChan,World.at]) ⟨⟨.refl _,rfl⟩,λb hb=>by have:=C.fa.1 u;simp only[World.setChan,World.at];grind⟩ (λb=>?_) (λn a ha hm h=>h.elim (λ⟨j,h1,h2⟩=>.inr (.inl ⟨j,h1,h2.app _⟩)) (λ⟨p,h1,h2⟩=>.inr (.inr (.inl ⟨p,h1,h2.app _⟩))))
  . exact xx (t:=t) X (m1:=0) (m2:=3) (c:=A.cF) (k:=c) (x:={g:=A.b+j,fn:=f1,pos:=O,act:=.send A.cF c}) (y:={g:=0,fn:=N,pos:=Q,act:=.recvDone A.cF c}) rfl rfl rfl rfl dj d0 hn
  . unfold Kept
    rw[tp B]
    by_cases E:b=A.cF
    . subst E
      exact .inr (.inl ⟨B,⟨_,_,_,_,_,_,by rw[tp B,aal rfl]⟩,λi=>(C.gz i).1 u⟩)
    grind
 have ax:(s.w j).iH=false:=by rcases L with h|⟨_,h⟩<;>rw[h]<;>rfl
 obtain⟨s',o⟩:∃s',s'=s.kK j .yX .recv s.sp:=⟨_,rfl⟩;obtain⟨D,ay⟩:=PM (A:=A) (s:=s) (m1:=.recv) (sp1:=s.sp) hj ax;rw[<-o]at D ay;have r:s'.w j=.yX:=by rw[o,fy]
 have aC:∀{l:Nat},l≠j->s'.w l=s.w l:=λh=>by rw[o,jA h]
 have F:s'.c=s.c:=by rw[o];rfl
 have G:s'.ms=.recv:=by rw[o];rfl
 have aE:(s.w j).busy=true/\(s.w j).cnt=1/\(s.w j).last=false/\(s.w j).pc=.out/\(s.w j).jx=false/\s.w j≠.gone/\(s.w j).owns=false:=by rcases L with h|⟨_,h⟩<;>rw[h]<;>simp[bp.busy,bp.cnt,bp.last,bp.pc,bp.jx,bp.owns]
 obtain⟨b1,b2,b3,b4,b5,b6,b7⟩:=aE
 have hI:bR A.n s':=by rw[o];refine C.I.kK hj (by rw[b2];rcases K with e|e<;>rw[e]<;>rfl) b3 rfl b6 rfl (by rw[b4];rfl) rfl (.inl ⟨rfl,b5⟩) (λ_=>U.2) U
 have aL:∀l,(s'.w l).busy=(s.w l).busy:=λl=>by
  by_cases e:l=j
  . subst e;rw[r,b1];rfl
  grind
 have aO:cZ P A Z s' (bT kk 0 ((kk 0).join (kk (A.b+j)))) OO J M gs'.size ((w.at d).setChan A.cF 0 #[] false (c+1) (c+1) tm) (t++mQ (A.b+j) 0 A.cF c c 0 f1 N O Q):=by
  refine C.chan hI (BS u (by simp_all)) (by rw[o];rfl) (λh=>by simp_all) (by rw[a7,o];exact C.size) (λ_=>⟨c+1,tm,by rw[tp B,aal rfl,F,av]⟩) (λb E=>by rw[tp B,aaj E]) (by rw[o];rfl) (by rw[o];rfl) (by rw[o];rfl) (by rw[o];rfl) (λl _=>?_) (λi b n v h=>?_) (az _ _ (by omega)) (λi=>?_) (.inl F) (λop h=>⟨(ko h).1,(ko h).2.2.2⟩) (λi z=>.inl ?_) (λi b0 hn=>?_)
  . by_cases e:l=j
    . subst e;rw[r,b7];rfl
    grind
  . by_cases e:i=0
    . subst e
      rw[ar]at h;exact(au.nI h).elim (λh=>⟨0,h⟩) (λh=>⟨_,h⟩)
    . rw[az _ _ e]at h;grind
  . rw[C.hJ i]
    unfold dY
    simp_all
  . rw[o]at z;exact z
  . have W:¬bU P A s i:=λh=>hn (by rw[o];exact h)
    rw[az _ _ (λe=>W (.inl e))]
    exact C.De i b0 W
 have hL:MS.gh A.n s' s:=by rw[o];refine uS hj ?_;have e1:(bp.yX (P:=P)).cu=18:=rfl;have e2:pJ.recv.cu=100:=rfl;omega
 have hS:gY A s s' (λi=>i=0\/i=A.b+j):=⟨λl _ hl=>aC (λe=>hl (.inr (by omega))),λ_=>F,λh=>absurd (.inl rfl) h,by rw[o];rfl,by rw[o];rfl⟩
 refine⟨s',bT (bT f 0 ⟨_,_,_,_,R⟩) (A.b+j) ⟨_,_,_,_,S⟩,bT kk 0 ((kk 0).join (kk (A.b+j))),hL,?_⟩;refine H.IP X hP aO (by omega) (λi=>i=0\/i=A.b+j) (λi z=>ho i (λe=>z (.inl e)) (λe=>z (.inr e))) (lu Y hS (λi z=>by rw[az _ _ (λe=>z (.inr e)),az _ _ (λe=>z (.inl e))]) (λ_ _=>rfl) (λi z _=>az _ _ (λe=>z (.inl e))) (λ_ _ _=>rfl) (λ_ _ _ h=>h)) (λi z=>?_)
 rcases z with rfl|rfl
 . refine⟨gm,hm,λ_=>?_,λh=>absurd h (tu u (.inl G)),λh=>absurd h (mP (by simp_all)),λh=>absurd (jb G) h⟩
   have b8:(0:Nat)≠A.b+j:=by omega
   rw[az _ _ b8,ar,ar];refine⟨by show 0<A.b+A.n+1;omega,rfl,?_,rfl,rfl,R.running,by rw[ck X];exact d0,.inl rfl,Dz⟩
   show rI P A Fin _ _=cD P A Fin s' 0;rw[nO G,D]
   simp_all
 . refine⟨gw,hw,λ_=>?_,λh=>absurd h (oR hj (.inr r)),λh=>absurd h (uQ hj r),λh=>absurd (tj hj r) h⟩
   rw[ar,az _ _ (by omega)]
   refine⟨by show A.b+j<A.b+A.n+1;omega,rfl,?_,rfl,rfl,S.running,by rw[ck X];exact dj,.inr ((C.hJ _).2 (.inl ⟨j,hj,rfl,b1⟩)),HK r⟩
   show kV P A=cD P A Fin s' (A.b+j);rw[xT hj r]
end
section
variable{P:adh}{A:bN}{Fin:acy}{Z:Base}{s s':MS P}{f f':Nat->Node P}{q q':acZ}{kk kk':adg}{OO OO':adf}{J J' M M':acT}{gs gs':acC}{w w':World}{t u:Trace}{j:Nat}{g g₂:acW}{z v:Value}
def IQ{k O g g₂ a z y}(h:dL P A k O g g₂ z)(c:dL P A k O g a y)(b:Sat k O w):a=g₂/\y=z:=by
 have e:=(h w b).symm.trans (c w b);simp only[GStep.comm.injEq,rcase]at e
 simp_all
def FO{g g' cs a sh b}(h:parked g cs sh=parked g' a b):(∀v,Go.Conc.served g v=Go.Conc.served g' v)/\cs=a/\sh=b/\g.frame=g'.frame:=by
 refine⟨λv=>?_,?_,?_,?_⟩
 . show Go.Conc.served (parked g cs sh) v=Go.Conc.served (parked g' a b) v;rw[h]
 . have:=congrArg (λx:acW=>x.offers) h
   simp only[parked,kn,zH]at this;exact this.1
 . have:=congrArg (λx:acW=>x.offers) h
   simp only[parked,kn,zH]at this;exact this.2
 . show(parked g cs sh).frame=(parked g' a b).frame;rw[h]
def Af{k O g g₂ z m R N}(h:(rI P A Fin (m+1) R).di k O g N)(b:dL P A k O g g₂ z)(c:Sat k O w){j}(hj:j∈R):
 ∀k' v,k.Le k'->V k' v (A.res j)->T P (rI P A Fin m (R.erase j)) gM k' O (g₂.finishComm P #[rcase A.cF z] (.recv true) 0 v true):=by
 obtain⟨_,a,y,d,f,i,e⟩:=h;obtain⟨rfl,rfl⟩:=IQ b d c;exact e j hj
def LY{m R k O g N}(h:(rI P A Fin m R).di k O g N):
 ∃g₂ z,dL P A k O g g₂ z/\dL P A k O g₂ g₂ z/\g₂.status=.running/\(rI P A Fin m R).di k O g₂ gM:=by
 cases m with
 |zero=>obtain⟨_,g₂,z,c,a,b,d⟩:=h;exact⟨g₂,z,c,a,b,rfl,g₂,z,a,a,b,d⟩
 |succ m=>obtain⟨_,g₂,z,c,a,b,d⟩:=h;exact⟨g₂,z,c,a,b,rfl,g₂,z,a,a,b,d⟩
def xV(hj:j<A.n)(h:(s.w j).iH=false):∃m,(MS.rem P A.n s).length=m+1:=by
 have:j∈MS.rem P A.n s:=tk.2 ⟨hj,h⟩;have:=List.length_pos_of_mem this
 simp_all
def DC(I:bR A.n s)(hj:j<A.n)(h:s.w j≠.gone):s.c.eF=false:=by
 cases e:s.c with
 |gone=>exact absurd ((I.g8 (by rw[e];rfl)).2.2.2 j hj) h
 |_=>rfl
def LZ  y  (d:A.dir=false) (h:bG (cd P A Fin Z y) Z s f q kk OO J M gs w t) (hj:j<A.n){H}(B:s.w j=.run false H) (C:s.ms=.parked) (K:gs[A.b+j]?=some g)
 (U:∀w,Sat (kk (A.b+j)) (OO (A.b+j)) w->stepG P false g w=.comm g₂ #[scase A.cF v z] true .send w #[]) (W:V (kk (A.b+j)) v (A.res j)) (X:T P (kV P A) gM (kk (A.b+j)) (OO (A.b+j)) (Go.Conc.served g₂ undef))  sl :
 Goes P A Fin Z y s gs w t sl (A.b+j):=by
 have L:cZ P A Z s kk OO J M gs.size w t:=h.ex;have hb:=A.hb;have D:(A.b+j==0)=false:=by simp;omega
 obtain⟨c,tm,E⟩:=L.Ac d;rw[DC L.I hj (by grind)]at E
 have Y:=(zA.1 K).1;obtain⟨_,_,_,_,_,_,hd,_⟩:=h.live _ (kj hj B);obtain⟨_,_,_,d0,gp,F,_,p5⟩:=h.held 0 (.inl ⟨rfl,C⟩);obtain⟨_,gm,N,rfl,p6,p7,O⟩|⟨l,h1,h2,_⟩:=p5
 . have a:=stand_get (i:=A.b+j) (show(0:Nat)≠A.b+j by omega) F
   have o:partners (gs.setIfInBounds (A.b+j) ph) A.cF false=[(0,0)]:=by
    rw[partners_one a (λk x hk G=>?_),offersAt_parked_recv,aal rfl]
    . rfl
    . rcases getElem?_stand gs (A.b+j) k x G with⟨_,rfl⟩|⟨a7,G⟩
      . exact offersAt_ph ..
      . exact vG y h G (.inr hk)
   have e:=crowd_send_meets (P:=P) (sl:=sl) K (by rw[D];exact U w (h.cO.sat _)) E (by omega) F o
   rw[fL]at e;have p:(s.w j).iH=false:=by rw[B];rfl
   obtain⟨m,r⟩:=xV (A:=A) (s:=s) hj p;rw[r]at O;have Q:0<gs.size:=(zA.1 F).1
   obtain⟨s',f',kk',hL,u⟩:=handed y d h hj (.inr C) (.inr ⟨H,B⟩) (by rw[B,C];rfl) (gs':=(gs.setIfInBounds 0 (gm.finishComm P #[rcase A.cF N] (.recv true) 0 v true)).setIfInBounds (A.b+j) (g₂.finishComm P #[scase A.cF v z] .send 0 undef false)) (gw:=Go.Conc.served g₂ undef) (gm:=gm.finishComm P #[rcase A.cF N] (.recv true) 0 v true) w.drawn E hd d0 (by simp)
    (by rw[LF (by simp_all)];rfl) (by simp_all)
    (λi R S=>by grind) W X
    (λk' R S=>by rw[r];exact Af O p6 (h.cO.sat 0) (tk.2 ⟨hj,p⟩) k' v R S) g₂.frame.fn gm.frame.fn g₂.frame.place gm.frame.place
   refine⟨_,_,e,s',f',q,kk',OO,J,M,_,_,sl,rfl,hL,?_⟩;rw[show w.at w.drawn=w from rfl]at u
   simpa[mQ]using u
 . omega
def L0  G  (v:A.dir=false) (u:bG (cd P A Fin Z G) Z s f q kk OO J M gs w t) (hm:s.ms=.recv) (hj:j<A.n) (hw:s.w j=.wait) (hg:gs[0]?=some g)
 (hs:dL P A (kk 0) (OO 0) g g₂ z){N}(ht:(rI P A Fin (MS.rem P A.n s).length (MS.rem P A.n s)).di (kk 0) (OO 0) g N)  sl :
 Goes P A Fin Z G s gs w t sl 0:=by
 have hE:cZ P A Z s kk OO J M gs.size w t:=u.ex;have hb:=A.hb;obtain⟨c,tm,hF⟩:=hE.Ac v;rw[DC hE.I hj (by grind)]at hF
 have ad:=(zA.1 hg).1;obtain⟨_,_,_,_,_,_,d0,_⟩:=u.live _ (jb hm)
 have h:∀{i:Nat}{x:acW},gs[i]?=some x->i≠0->fq P A s i->∃a,a<A.n/\i=A.b+a/\s.w a=.wait/\∃p B o,x=parked p #[scase A.cF o B] .send/\V (kk i) o (A.res a)/\T P (kV P A) gM (kk i) (OO i) (Go.Conc.served p undef):=λ{i x} F H D=>by
  obtain⟨_,_,_,_,y,r1,r2,r3⟩:=u.held i D;rw[F]at r1;obtain rfl:=aaF r1
  rcases r3 with⟨h0,_⟩|⟨a,h1,h2,p,B,o,h3,h4,_,h5,_⟩
  . omega
  . refine⟨a,h1,h2,?_,p,B,o,h3,h4,h5⟩
    rcases D with⟨h6,_⟩|⟨l,h6,h7,h8⟩
    . omega
    simp_all
 obtain⟨_,_,_,_,x0,e0,_⟩:=u.held (A.b+j) (.inr ⟨j,hj,rfl,hw⟩);obtain⟨a0,_,_,_,al,av,ax,rfl,_⟩:=h e0 (by omega) (.inr ⟨j,hj,rfl,hw⟩)
 have a7:partners (gs.setIfInBounds 0 ph) A.cF true≠[]:=λe=>by
  have:(A.b+j,0)∈partners (gs.setIfInBounds 0 ph) A.cF true:=mem_partners.2 ⟨_,stand_get (by omega) e0,by rw[offersAt_parked_send,aal rfl];simp⟩
  simp_all
 have a8:∀i k,(i,k)∈partners (gs.setIfInBounds 0 ph) A.cF true->k=0/\i≠0/\∃x,gs[i]?=some x/\fq P A s i:=λi k K=>by
  obtain⟨x,F,L⟩:=mem_partners.1 K
  rcases getElem?_stand gs 0 i x F with⟨_,rfl⟩|⟨hi,F⟩
  . rw[offersAt_ph]at L;cases L
  . by_cases D:fq P A s i
    . obtain⟨a,_,_,_,p,B,o,rfl,_⟩:=h F hi D
      rw[offersAt_parked_send,aal rfl]at L
      simp_all
    . rw[u.quiet (bh (P:=P) (A:=A) (Fin:=Fin) (Z:=Z) G) F D]at L;cases L
 have O:∀i k,(i,k)∈partners (gs.setIfInBounds 0 ph) A.cF true->k=0/\i≠0/\∃p o B Q,gs[i]?=some (parked p #[scase A.cF o B] Q):=λi k K=>by grind
 obtain⟨i,p,o,B,Q,d,H,E,C⟩:=crowd_recv_meets_some (P:=P) (sl:=sl) hg (show stepG P (0==0) g w=_ from hs w (u.cO.sat 0)) hF a7 O
 rw[fL]at C
 have r:fq P A s i:=aaY λD=>by have:=u.quiet (bh (P:=P) (A:=A) (Fin:=Fin) (Z:=Z) G) E D A.cF true;rw[offersAt_parked_send,aal rfl]at this;cases this
 obtain⟨a,a2,rfl,a3,ay,aC,a9,R,S,e3⟩:=h E H r;obtain⟨i1,i2,i3,i4⟩:=FO R
 have i5:o=a9:=by
  have:=congrArg (λx:Array CommCase=>x[0]?) i2
  simp[scase]at this;exact this.1
 subst i3;subst i5;obtain⟨_,_,_,dj,_⟩:=u.held _ r;have U:=(zA.1 E).1;have W:(s.w a).iH=false:=by rw[a3];rfl
 obtain⟨m,X⟩:=xV (A:=A) (s:=s) a2 W;have Y:=ht;rw[X]at Y
 obtain⟨s',f',kk',hL,ab⟩:=handed G v u a2 (.inl hm) (.inl a3) (by rw[a3,hm];rfl) (gs':=(gs.setIfInBounds (A.b+a) (p.finishComm P #[scase A.cF o B] .send 0 undef false)).setIfInBounds 0 (g₂.finishComm P #[rcase A.cF z] (.recv true) 0 o true)) (gw:=Go.Conc.served p undef) (gm:=g₂.finishComm P #[rcase A.cF z] (.recv true) 0 o true) d hF dj d0 (by simp)
  (by rw[aam (by omega),LF U];rfl) (by grind)
  (λi R S=>by rw[aam (za R),aam (za S)]) S (by grind)
  (λk' R S=>by rw[X];exact Af Y hs (u.cO.sat 0) (tk.2 ⟨a2,W⟩) k' o R S) p.frame.fn g₂.frame.fn p.frame.place g₂.frame.place
 refine⟨_,_,C,s',f',q,kk',OO,J,M,_,_,sl,rfl,hL,?_⟩;simpa[mQ]using ab
def tv(hd:A.dir=false)(a:s.ms=.parked):¬dD P A s 0:=by
 have:=A.hb;have:=vC hd;rintro(⟨_,h⟩|⟨l,b,c,d⟩|⟨h,_⟩)
 . simp_all
 . omega
 . omega
def L1  K  (k:A.dir=false) (C:bG (cd P A Fin Z K) Z s f q kk OO J M gs w t) (L:s.ms=.recv) (E:∀j,j<A.n->s.w j≠.wait) (F:s.c≠.gone) (U:gs[0]?=some g)
 (X:dL P A (kk 0) (OO 0) g g₂ z) (N:dL P A (kk 0) (OO 0) g₂ g₂ z) (Y:g₂.status=.running) (ht:(rI P A Fin (MS.rem P A.n s).length (MS.rem P A.n s)).di (kk 0) (OO 0) g₂ gM)  sl :
 Goes P A Fin Z K s gs w t sl 0:=by
 have d:cZ P A Z s kk OO J M gs.size w t:=C.ex;have hb:=A.hb;obtain⟨c,tm,V⟩:=d.Ac k
 have G:s.c.eF=false:=by
  cases e:s.c.eF with
  |true=>exact absurd (sa.1 e) F
  |false=>rfl
 rw[G]at V;have O:=(zA.1 U).1;obtain⟨_,_,_,_,_,_,d0,_⟩:=C.live _ (jb L)
 have H:∀Q∈(#[rcase A.cF z]:Array CommCase),NoWays w (gs.setIfInBounds 0 ph) Q:=λQ a7=>by
  have:Q=rcase A.cF z:=by simp_all
  subst this;exact ways_recv_none V (oQ λi x _ hx=>vH K C hx (λj h1 h2=>E j h1) _)
 have p:=crowd_waits (P:=P) (sl:=sl) U (show stepG P (0==0) g w=_ from X w (C.cO.sat 0)) H
 rw[fL]at p;have R:∀i,¬(i=0)->(gs.setIfInBounds 0 (parked g₂ #[rcase A.cF z] (.recv true)))[i]?=gs[i]?:=λi D=>aam (za D)
 have r:(gs.setIfInBounds 0 (parked g₂ #[rcase A.cF z] (.recv true)))[0]?=some (parked g₂ #[rcase A.cF z] (.recv true)):=LF O;have hP:cA Z kk OO J M w (t++#[]):=by rw[qS];exact C.cO
 obtain⟨s',a⟩:∃s',s'=s.nj .parked s.gc:=⟨_,rfl⟩;have m:s'.ms=.parked:=by rw[a];rfl
 have o:s'.w=s.w:=by rw[a];rfl
 have u:s'.c=s.c:=by rw[a];rfl
 have y:=d.I.ms;rw[L]at y
 have hI:bR A.n s':=by rw[a];exact⟨by have:=d.I.g1;rw[L]at this;exact this,d.I.g2,d.I.FF,d.I.g3,d.I.Hy,d.I.g4,d.I.g5,d.I.g6,d.I.g7,d.I.g8,d.I.g9,d.I.ok,d.I.Tq,d.I.sp,d.I.idle,⟨y.1,y.2,F,E⟩,d.I.early,d.I.mu⟩
 have S:cZ P A Z s' kk OO J M (gs.setIfInBounds 0 (parked g₂ #[rcase A.cF z] (.recv true))).size w (t++#[]):=by
  refine d.chan hI (BS k (by simp_all)) (by rw[a];rfl) (λh=>by simp_all) (by rw[aaZ,a];exact d.size) (by simp_all) (λ_ _=>rfl) (by rw[a];rfl) (by rw[a];rfl) (by rw[a];rfl) (by rw[a];rfl) (λl _=>by rw[o]) (λi b n v h=>⟨i,h⟩) rfl (λi=>?_) (.inl u) (λop h=>by simp at h) (λi D=>.inl ?_) (λi T hn=>d.De i T λh=>hn ?_)
  . rw[d.hJ i]
    unfold dY;rw[o,u]
  . rw[a]at D;exact D
  . rw[a];exact h
 have hL:MS.gh A.n s' s:=by
  refine .inl ?_;rw[a];show pJ.parked.cu+sumTo A.n (λi=>(s.w i).cu)+s.c.cu s.gc<s.ms.cu+sumTo A.n (λi=>(s.w i).cu)+s.c.cu s.gc
  rw[L];have e1:pJ.parked.cu=99:=rfl;have e2:pJ.recv.cu=100:=rfl;omega
 have W:MS.rem P A.n s'=MS.rem P A.n s:=xP λl _=>by rw[o]
 have hS:gY A s s' (λi=>i=0):=⟨λl _ hl=>by rw[o],λ_=>u,λh=>absurd rfl h,by rw[a];rfl,by rw[a];rfl⟩
 refine⟨_,_,p,s',f,q,kk,OO,J,M,_,_,_,rfl,hL,?_⟩;refine C.IP Dy hP S (by simp) (λi=>i=0) R (lu K hS (λ_ _=>rfl) (λ_ _=>rfl) (λ_ _ _=>rfl) (λ_ _ _=>rfl) (λ_ _ _ h=>h)) (λi D=>?_)
 subst D;have B:fq P A s' 0:=.inl ⟨rfl,m⟩;refine⟨_,r,λh=>absurd h (tv k m),λh=>absurd h (tu k (.inr m)),λ_=>⟨tv k m,tu k (.inr m),?_,by simp_all,rfl,.inl ⟨rfl,g₂,z,rfl,N,Y,by simp_all⟩⟩,λ_ _ h=>absurd B h⟩
 omega
end
def iP(c:Nat):acN:=#[⟨.obj c,false,true⟩,⟨.obj c,true,true⟩]
def mR  i   fn   pos   c :MemOp.ofEvents i fn pos (iP c)=#[{g:=i,fn:=fn,pos:=pos,act:=.access ⟨.obj c,false,true⟩},{g:=i,fn:=fn,pos:=pos,act:=.close c}]:=by rw[ofEvents_eq];simp[iP,MemAct.ofEvent]
def fE{i fn pos c op}(h:op∈MemOp.ofEvents i fn pos (iP c)):op.g=i/\(op.act≠.mark .disable/\op.act≠.mark .enable)/\(∀a,op.act.touch?=some a->a.loc=.obj c/\a.kind=.atomic)/\(∀B,c<B->op.act.low B)/\∀a,op.act≠.mark (.release a):=by
 rw[mR]at h;simp only[List.mem_toArray,aaD,abD,or_false]at h;rcases h with rfl|rfl
 . exact⟨rfl,⟨by simp,by simp⟩,λa b=>by simp only[MemAct.touch?,kn]at b;grind,λB d=>d,by simp⟩
 . exact⟨rfl,⟨by simp,by simp⟩,λa b=>(by cases b),λB d=>d,by simp⟩
section
variable{P:adh}{A:bN}{Fin:acy}{Z:Base}{s s':MS P}{f f':Nat->Node P}{q q':acZ}{kk kk':adg}{OO OO':adf}{J J' M M':acT}{gs gs':acC}{w w':World}{t u:Trace}{j:Nat}{g g₂:acW}{z v:Value}
def dL.again{k O g g₂ z a}(h:dL P A k O g g₂ z)(c:g.status=.running)  sh :dL P A k O {parked g #[rcase A.cF a] sh with status:=.running} g₂ z:=λw b=>by
 rw[stepG_tries];have:({g with status:=.running}:acW)=g:=by cases g;simp_all
 rw[this];exact h w b
def IS{m R k O g z sh N}(h:(rI P A Fin m R).di k O g N)(e:g.status=.running):
 T P (rI P A Fin m R) gM k O {parked g #[rcase A.cF z] sh with status:=.running}:=by
 refine .di gM rfl ?_ (λ_ _ _ h=>h.elim);cases m with
 |zero=>obtain⟨_,g₂,y,a,b,c,d⟩:=h;exact⟨rfl,g₂,y,a.again e sh,b,c,d⟩
 |succ m=>obtain⟨_,g₂,y,a,b,c,d⟩:=h;exact⟨rfl,g₂,y,a.again e sh,b,c,d⟩
def cA.shut(h:cA Z kk OO J M w t){i c x tm}(F:∀l,J l->l=i)(G:∀p,¬M p)(u:w.heap[c]?=some (.chan 0 #[] false x x tm))(H:∀l,OO l c=none)(I:∀n b,touchAt t n=some b->b.loc=.obj c->b.kind=.plain->Knows t i n)(B:Z.W0.heap.size<=c)  fn   pos :
 cA Z kk OO (λ_=>False) (λp=>p=t.size+1) {w with heap:=w.heap.setIfInBounds c (.chan 0 #[] true x x tm)} (t++MemOp.ofEvents i fn pos (iP c)):=by
 have q:c<w.heap.size:=(zA.1 u).1;have k:(MemOp.ofEvents i fn pos (iP c))[1]?=some {g:=i,fn:=fn,pos:=pos,act:=.close c}:=by rw[mR];rfl
 have f:∀b,(w.heap.setIfInBounds c (.chan 0 #[] true x x tm))[b]?=if b=c then some (.chan 0 #[] true x x tm)else w.heap[b]?:=λb=>by grind
 refine h.uA (λa b=>a=b) (by simp) ⟨⟨.refl _,rfl⟩,λb hb=>by grind⟩ (λb=>?_) (λop d=>(fE d).2.2.2.1 _ q) (λa b e n y _ _ _ K=>by subst e;exact K.app _) (λj b n v h=>⟨j,rfl,h⟩) (λj b s h=>⟨j,rfl,h⟩) (λj b x h=>⟨j,rfl,h,λ_ h=>h⟩) h.jv
  (λsaid=>noRace_append (h.clean said) (λop d=>(fE d).1) λn a r op d b hb u=>?_) (λop d a r C=>?_) (λm op a d r C=>?_) (λn a r C L=>?_)
 . show Kept kk OO w _ b
   unfold Kept;rw[f]
   by_cases z:b=c
   . subst z
     exact .inr (.inl ⟨⟨_,_,_,_,_,_,u⟩,⟨_,_,_,_,_,_,by rw[f,aal rfl]⟩,H⟩)
   grind
 . obtain⟨D,N⟩:=(fE d).2.2.1 b hb
   obtain⟨P,_,_,Q⟩:=u
   simp_all
 . obtain⟨D,N⟩:=(fE d).2.2.1 a r
   rw[D];exact⟨q,λl o R=>by simp_all⟩
 . refine .inr (.inr (.inl ⟨t.size+1,rfl,?_⟩))
   have A:m=0:=by
    rw[mR]at d
    match m,d with
    |0,_=>rfl
    |1,d=>simp at d;subst d;simp[MemAct.touch?]at r
    |m+2,d=>simp at d
   subst A;exact .inr (hb_po (by omega) (dv (m:=0) d) (dv (m:=1) k) (fE (aaO d)).1)
 . rcases L with⟨l,E,O⟩|⟨p,E,_⟩
   . obtain rfl:=F l E
     exact .inr (.inr (.inl ⟨t.size+1,rfl,lM (m:=1) O k rfl⟩))
   simp_all
def L2  hZ  (r:A.dir=false) (U:bG (cd P A Fin Z hZ) Z s f q kk OO J M gs w t) (hw:s.c=.jw) (hg:gs[A.cl]?=some g){N}(ht:(r8 P A).di (kk A.cl) (OO A.cl) g N)  sl :
 Goes P A Fin Z hZ s gs w t sl A.cl:=by
 have d:cZ P A Z s kk OO J M gs.size w t:=U.ex;have hb:=A.hb;obtain⟨rfl,g',nq,b1,hs,hq⟩:=ht;have b0:=vC r;obtain⟨x,tm,hF⟩:=d.Ac r;have ad:s.c.eF=false:=by rw[hw];rfl
 rw[ad]at hF;obtain⟨c0,v0,m0,F⟩:=d.I.g8 (by rw[hw];rfl)
 have R:s.sp=A.n/\(s.ms=.recv\/s.ms=.parked):=by
  have:=d.I.ms;cases e:s.ms with
  |recv=>simp_all
  |parked=>simp_all
  |add l=>simp_all
  |bE l p=>simp_all
  |spawn l=>simp_all
  |off=>exact absurd e (d.off.2.2 r)
 have b2:=(zA.1 hg).1;obtain⟨_,_,_,_,_,_,hd,_⟩:=U.live _ (uO (.inl hw));have al:(A.cl==0)=false:=by simp;omega
 have b3:A.cF<w.heap.size:=(zA.1 hF).1;have G:=runT_crowd_go (P:=P) (sl:=sl) (i:=A.cl) hg (by rw[al];exact hs w x x tm (U.cO.sat _) hF)
 obtain⟨w',av⟩:∃w',w'={w with heap:=w.heap.setIfInBounds A.cF (.chan 0 #[] true x x tm)}:=⟨_,rfl⟩
 have hP:=U.cO.shut (i:=A.cl) (c:=A.cF) (x:=x) (tm:=tm) (λl S=>by
  rcases(d.hJ l).1 S with⟨j,B,C,E⟩|⟨B,_⟩
  . rw[F j B]at E;cases E
  . exact B) (λp hp=>by
  obtain⟨_,_,E⟩:=d.hM p hp
  simp_all) hF (λl=>(d.gz l).1 r) (λn b hb S W=>d.quiet n b hb (by rw[S];exact⟨rfl,r⟩) W _ (HE (by grind))) (d.fa.1 r) g.frame.fn g.frame.place
 rw[<-av]at G hP
 change runT P (crowd gs w sl) A.cl=(_,MemOp.ofEvents A.cl g.frame.fn g.frame.place (iP A.cF))at G
 have hu:kF (MemOp.ofEvents A.cl g.frame.fn g.frame.place (iP A.cF)):=λop h=>(fE h).2.1
 have u:∀b,w'.heap[b]?=if b=A.cF then some (.chan 0 #[] true x x tm)else w.heap[b]?:=λb=>by grind
 have b4:g'.status≠.blocked/\g'.status≠.waiting:=by rcases hq.status with h|h<;>rw[h]<;>simp
 have ax:∀o,woken P g g' w' o=o.again w':=λo=>by
  unfold Go.Conc.woken
  simp_all
 have ab:∀i o,gs[i]?=some o->i≠0->i≠A.cl->woken P g g' w' o=o:=λi o ho Q hn=>by
  have nl:¬dD P A s i:=by
   rintro(⟨e,_⟩|⟨l,B,C,E⟩|⟨e,_⟩)
   . exact Q e
   . simp_all
   omega
  have nw:¬gy P A s i:=by
   rintro(⟨e,_⟩|⟨l,B,C,E⟩|⟨e,_⟩)
   . exact Q e
   . simp_all
   omega
  have nh:¬fq P A s i:=by
   rintro(⟨e,_⟩|⟨l,B,C,E⟩)
   . exact Q e
   simp_all
  exact woken_quitsD (U.rest i o ho nl nw nh).2
 have ay:∀i,¬(i=0\/i=A.cl)->((gs.map (woken P g g' w')).setIfInBounds A.cl g')[i]?=gs[i]?:=λi D=>by grind
 have X:((gs.map (woken P g g' w')).setIfInBounds A.cl g')[A.cl]?=some g':=LF (by grind)
 obtain⟨s',v⟩:∃s':MS P,s'={s with c:=.gone,ms:=.recv}:=⟨_,rfl⟩
 have Y:s'.ms=.recv:=by rw[v]
 have H:s'.w=s.w:=by rw[v]
 have K:s'.c=.gone:=by rw[v]
 have a7:MS.rem P A.n s'=MS.rem P A.n s:=xP λl _=>by rw[H]
 obtain⟨d0,g0,aC,tr,_⟩:Deaf t 0=0/\∃g0,((gs.map (woken P g g' w')).setIfInBounds A.cl g')[0]?=some g0/\∃tr:TT P (rI P A Fin (MS.rem P A.n s).length (MS.rem P A.n s)) (kk 0) (OO 0) g0,True:=by
  rw[aam (by omega),abr]
  rcases R.2 with hm|hm
  . obtain⟨_,p1,pm,pk,pO,p2,p3,_⟩:=U.live 0 (jb hm)
    have pm:(f 0).m=cD P A Fin s 0:=pm;rw[nO hm]at pm;refine⟨p3,(f 0).g,by rw[p1,aaJ,woken_run p2],?_⟩
    rw[<-pm,<-pk,<-pO];exact⟨(f 0).t,trivial⟩
  . obtain⟨_,_,_,p3,gp,p4,_,p5⟩:=U.held 0 (.inl ⟨rfl,hm⟩)
    rcases p5 with⟨_,gm,zm,rfl,p6,p7,p8⟩|⟨l,B,C,_⟩
    . rw[p4]
      refine⟨p3,_,rfl,?_⟩;rw[ax,again_recv_closed (by rw[u,aal rfl])]
      obtain⟨tr⟩:=T.tree (xU (P:=P) (A:=A) (Fin:=Fin) _ _) (IS (z:=zm) (sh:=.recv true) p8 p7);exact⟨tr,trivial⟩
    . omega
 have hI:bR A.n s':=by
  rw[v];refine⟨?_,d.I.g2,λh=>(by grind),d.I.g3,d.I.Hy,λi D h=>(by grind),⟨d.I.g5.1,λh=>(by grind)⟩,λh=>(by cases h),d.I.g7,λ_=>⟨c0,v0,m0,F⟩,λk h=>(by cases h),d.I.ok,rfl,d.I.sp,d.I.idle,⟨R.1,by simp⟩,λ_ h=>(by cases h),d.I.mu⟩
  have:=d.I.g1;show s.gc=sumTo A.n (λj=>(s.w j).cnt)+pJ.recv.pend
  rcases R.2 with e|e<;>rw[e]at this<;>exact this
 have V:(MemOp.ofEvents A.cl g.frame.fn g.frame.place (iP A.cF))[1]?=some {g:=A.cl,fn:=g.frame.fn,pos:=g.frame.place,act:=.close A.cF}:=by rw[mR];rfl
 have L:(t++MemOp.ofEvents A.cl g.frame.fn g.frame.place (iP A.cF)).act? (t.size+1)=some (.close A.cF)/\(t++MemOp.ofEvents A.cl g.frame.fn g.frame.place (iP A.cF)).heard (t.size+1):=⟨act?_of (dv (m:=1) V),heard_new (m:=1) hu V hd⟩
 have a8:∀i,bU P A s' i->bU P A s i:=λi D=>by
  rcases D with Q|⟨j,B,C⟩|⟨B,C⟩
  . exact .inl Q
  . exact .inr (.inl ⟨j,by grind,C⟩)
  . exact .inr (.inr ⟨B,by grind⟩)
 have a9:∀i,bU P A s i->bU P A s' i:=λi D=>by
  rcases D with Q|⟨j,B,C⟩|⟨B,C⟩
  . exact .inl Q
  . exact .inr (.inl ⟨j,by grind,C⟩)
  . exact .inr (.inr ⟨B,by grind⟩)
 have b5:∀op∈MemOp.ofEvents A.cl g.frame.fn g.frame.place (iP A.cF),∀a,op.act.touch?=some a->a.kind=.atomic:=λop O a ha=>((fE O).2.2.1 a ha).2
 have aE:cZ P A Z s' kk OO (λ_=>False) (λp=>p=t.size+1) ((gs.map (woken P g g' w')).setIfInBounds A.cl g').size w' (t++MemOp.ofEvents A.cl g.frame.fn g.frame.place (iP A.cF)):=by
  refine⟨hI,?_,by rw[v];exact d.dd,BS r (by grind),λh=>by simp_all,λ_=>⟨x,tm,by rw[u,aal rfl,K];rfl⟩,?_,?_,?_,?_,d.gz,d.eD,λi y hy=>?_,λl S aL=>d.zr l S (by grind),λaL=>d.OM λl S=>by grind,λc hc=>?_,λi=>?_,λp hp=>?_,λ_=>⟨t.size+1,rfl,L⟩,λm a ha hs W i D=>d.kh _ (λop O a ha _ W=>by grind) m a ha hs W i (a8 i D),λm a ha hs W=>?_,λi D=>d.p9 _ i (a8 i D),d.jy _ (λop O=>(fE O).2.2.2.2),λi aO hn=>d.De i aO λh=>hn (a9 i h),d.sS,d.jR,d.fa,d.la,by simp;exact aar d.n0 (abf _ _)⟩
  . have:=d.size
    rw[hw]at this;rw[K];simp only[aaZ,Array.size_map,jQ.isNone]at this ⊢
    grind
  . rw[show s'.sh=s.sh by rw[v]];exact d.mu.same (.of_heap (by rw[u,aaj (za A.d1)]))
  . rw[show s'.gc=s.gc by rw[v],show s'.gv=s.gv by rw[v],show s'.gm=s.gm by rw[v]];exact d.gr.same (.of_heap (by rw[u,aaj (za A.d2)]))
  . rw[u,aaj (za A.d1)];exact d.vD
  . rw[u,aaj (za A.d2)];exact d.zq
  . rw[H];exact d.tok i y hy
  . rw[H];exact d.ON c hc
  . refine⟨λh=>h.elim,?_⟩
    rintro(⟨j,B,C,E⟩|⟨B,C⟩)
    . rw[H,F j B]at E;cases E
    . rw[K]at C;cases C
  . subst hp
    exact⟨L.2,by have:=d.n0;omega,.inr ⟨K,L.1⟩⟩
  . have Q:=d.oE _ (λop O a ha _ W=>by grind) m a ha hs W
    rw[hw]at Q;rw[K];exact Q
 have hL:MS.gh A.n s' s:=by
  refine .inl ?_;rw[v];show pJ.recv.cu+sumTo A.n (λi=>(s.w i).cu)+jQ.gone.cu s.gc<s.ms.cu+sumTo A.n (λi=>(s.w i).cu)+s.c.cu s.gc
  rw[hw];have e2:pJ.recv.cu=100:=rfl;have e3:jQ.gone.cu s.gc=0:=rfl;have e4:jQ.jw.cu s.gc=3:=rfl;have e5:99<=s.ms.cu:=by rcases R.2 with e|e<;>rw[e]<;>simp[pJ.cu]
  omega
 have hS:gY A s s' (λi=>i=0\/i=A.cl):=⟨λl _ S=>by rw[H],λh=>absurd (.inr rfl) h,λh=>absurd (.inl rfl) h,by rw[v],by rw[v]⟩
 refine⟨_,_,G,s',bT f 0 ⟨_,_,_,_,tr⟩,upd q A.cl nq,kk,OO,λ_=>False,(λp=>p=t.size+1),_,_,_,rfl,hL,?_⟩
 refine U.IP hu hP aE (by simp) (λi=>i=0\/i=A.cl) ay (lu hZ hS (λi D=>az _ _ (λe=>D (.inl e))) (λi D=>upd_ne q nq (λe=>D (.inr e))) (λ_ _ _=>rfl) (λ_ _ _=>rfl) (λi D S _=>?_)) (λi D=>?_)
 . rcases S with⟨e,_⟩|⟨l,B,C,E⟩|⟨e,_⟩
   . omega
   . grind
   omega
 . rcases D with rfl|rfl
   . refine⟨g0,aC,λ_=>?_,λh=>absurd h (tu r (.inl Y)),λh=>absurd h (mP (by grind)),λh=>absurd (jb Y) h⟩
     rw[ar];refine⟨by omega,rfl,?_,rfl,rfl,tr.running,by rw[ck hu];exact d0,.inl rfl,Dz⟩
     show rI P A Fin _ _=cD P A Fin s' 0;rw[nO Y,a7]
   . refine⟨g',X,λh=>absurd h ?_,λh=>absurd h ?_,λh=>absurd h (qR (BS r (by grind))),λ_ _ _=>⟨by omega,by rw[upd_same,ck hu,hd];exact hq⟩⟩
     . rintro(⟨e,_⟩|⟨l,B,C,E⟩|⟨_,E⟩)
       . omega
       . omega
       grind
     . rintro(⟨e,_⟩|⟨l,B,C,E⟩|⟨_,E⟩)
       . omega
       . omega
       grind
end
section
variable{P:adh}{A:bN}{Fin:acy}{Z:Base}{s s':MS P}{f f':Nat->Node P}{q q':acZ}{kk kk':adg}{OO OO':adf}{J J' M M':acT}{gs gs':acC}{w w':World}{t u:Trace}{j:Nat}{g g₂:acW}{z v:Value}
def tw{w:World}{b i c e v}(h:w.heap[b]?=some (.cells c e (0,0)))(a:w.cell? ⟨b,i,none⟩=some v):c[i]?=some v:=by simpa[World.cell?,h]using a
def DD{w:World}{b c e}(h:w.heap[b]?=some (.cells c e (0,0))):w.shape? b=some (e,c.size):=by simp[World.shape?,h]
def L3(h:∀i,∃O,Sat (kk i) O w):∃K ,(∀b n v,K.cell b n=some v->∃i,(kk i).cell b n=some v)/\(∀b s,K.sh b=some s->∃i,(kk i).sh b=some s)/\∀i,(kk i).Le K:=by
 classical
 refine⟨⟨λb n=>if e:∃v,∃i,(kk i).cell b n=some v then some e.choose else none,λb=>if e:∃s,∃i,(kk i).sh b=some s then some e.choose else none⟩,λb n v a=>?_,λb s c=>?_,λi=>⟨λb n v a=>?_,λb s c=>?_⟩⟩
 . simp only at a
   split at a
   . grind
   . cases a
 . simp only at c
   split at c
   . grind
   . cases c
 . have e:∃v,∃i,(kk i).cell b n=some v:=⟨v,i,a⟩
   show dite _ _ _=_;rw[dif_pos e];obtain⟨l,d⟩:=e.choose_spec;obtain⟨_,f⟩:=h i;obtain⟨_,g⟩:=h l;have:=g.cell b n _ d;rw[f.cell b n v a]at this
   simp_all
 . have e:∃s,∃i,(kk i).sh b=some s:=⟨s,i,c⟩
   show dite _ _ _=_;rw[dif_pos e];obtain⟨l,d⟩:=e.choose_spec;obtain⟨_,f⟩:=h i;obtain⟨_,g⟩:=h l;have:=g.sh b _ d;rw[f.sh b s c]at this
   simp_all
def HL  hZ  (z:bG (cd P A Fin Z hZ) Z s f q kk OO J M gs w t) (B:∀j,j<A.n->s.w j=.gone) (b5:s.c=.gone\/A.cl=0) (hu:kF u) (a8:∀op∈u,op.act.touch?=none) (R:∀op∈u,op.act.low w.heap.size) (d0:Deaf t 0=0)
 (S:∀i,J i->i=0) (a9:∀p n,M p->Before t n p->Knows (t++u) 0 n) (ab:gs'[0]?=some g) (al:∀i,i≠0->gs'[i]?=gs[i]?) (b6:gs'.size=gs.size) (H:∃e,(kk 0).sh A.fb=some e):
 ∃K x a,(∀i,(kk i).Le K)/\kD K x a/\A.GI a/\dN P Z.W0 K (((OO 0).set A.mb x).set A.fb (.part (bH A.fo))) g gs' w (t++u):=by
 have G:cZ P A Z s kk OO J M gs.size w t:=z.ex;have hb:=A.hb;have C:(0:Nat)≠Z.lk:=by omega
 obtain⟨es,H⟩:=H;obtain⟨K,b7,b8,D⟩:=L3 λi=>⟨_,z.cO.sat i⟩
 have E:∀n a,touchAt t n=some a->a.loc.isMemory=true -> ¬Z.Shun a.loc->Knows (t++u) 0 n:=λn a O hm hz=>by
  rcases z.cO.acc n a O hm with h|⟨j,hj,h⟩|⟨p,hp,h⟩|⟨h,_⟩
  . exact h.app u
  . rw[S j hj]at h;exact h.app u
  . grind
  simp_all
 obtain⟨x,a,hx,av,ax⟩:=G.OM λj hj=>by rw[B j hj];rfl
 have T:∀i,OO i A.fb=none:=λi=>by
  cases e:OO i A.fb with
  |none=>rfl
  |some y=>obtain⟨j,_,r,_,k,_⟩:=G.tok i y e;rw[B j r]at k;cases k
 have ay:cA Z (bT kk 0 K) (bT (bT OO 0 ((OO 0).set A.mb x)) Z.lk ak.bot) (λ_=>False) (λ_=>False) w (t++u):=by
  have L:∀j b y,bT (bT OO 0 ((OO 0).set A.mb x)) Z.lk ak.bot j b=some y->(j≠Z.lk/\OO j b=some y/\¬(j=0/\b=A.mb))\/(j=0/\b=A.mb/\y=x):=λj b y d=>by
   by_cases e:j=Z.lk
   . subst e;rw[ar]at d;cases d
   . rw [az _ _ e]at d
     by_cases U:j=0
     . subst U
       rw[ar]at d
       by_cases eb:b=A.mb
       . subst eb
         simp only[ak.set,aan,kn]at d
         simp_all
       . simp only[ak.set,aaj eb]at d
         simp_all
     . rw[az _ _ U]at d
       simp_all
  refine z.cO.uA (λa b=>a=b\/b=0) rfl ⟨⟨.refl _,rfl⟩,λ_ _=>rfl⟩ (λb=>.inl rfl) R (λi j e n y d V hz aC=>?_) (λj b n v F=>?_) (λj b s F=>?_) (λj b y d=>?_) (λi j b y aE d=>?_)
   (λsaid=>noRace_appendMute (z.cO.clean said) a8) (λop W a O=>by simp_all) (λm op a W O=>by grind) (λn a O V h=>?_)
  . rcases e with rfl|rfl
    . exact aC.app u
    . exact(oz C).2 (E n y d V hz)
  . by_cases e:j=0
    . subst e
      rw[ar]at F
      simp_all
    . rw[az _ _ e]at F;simp_all
  . by_cases e:j=0
    . subst e
      rw[ar]at F
      simp_all
    . rw[az _ _ e]at F;simp_all
  . rcases L j b y d with⟨r,k,h3⟩|⟨rfl,rfl,rfl⟩
    . refine⟨j,.inl rfl,k,λs hs=>?_⟩
      by_cases e:j=0
      . subst e;rw[ar];exact(D 0).sh b s hs
      . rw[az _ _ e];exact hs
    . exact⟨Z.lk,.inr rfl,hx,λs hs=>by rw[ar];exact(D _).sh _ s hs⟩
  . cases q:bT (bT OO 0 ((OO 0).set A.mb x)) Z.lk ak.bot j b with
    |none=>rfl
    | some y'=>
      rcases L i b y d with⟨r,k,h3⟩|⟨rfl,rfl,rfl⟩
      . rcases L j b y' q with⟨k1,k2,k3⟩|⟨rfl,rfl,rfl⟩
        . have:=z.cO.jv i j b y aE k
          simp_all
        . have:=z.cO.jv i Z.lk _ y r k
          simp_all
      . rcases L j A.mb y' q with⟨k1,k2,k3⟩|⟨rfl,_,_⟩
        . have:=z.cO.jv j Z.lk _ y' k1 k2
          simp_all
        omega
  . rcases h with⟨j,r,k⟩|⟨p,r,k⟩
    . rw[S j r]at k;exact .inl (k.app u)
    . exact .inl (a9 p n r k)
 obtain⟨aL,aO⟩:=G.I.mu.rest λi hi=>by rw[B i hi];rfl
 obtain⟨X,ce,o⟩:=G.vD
 have Y:es=(ce,X.size):=by
  have:=(z.cO.sat 0).sh _ _ H;rw[DD o]at this
  simp_all
 have b9:X[A.fo]?=some (.int .i32 0):=by have:=G.mu.cw;rw[aL]at this;exact tw o this
 have bm:X[A.fo+1]?=some (.int .u32 0):=by have:=G.mu.cs;rw[aO]at this;exact tw o this
 have a7:∀n v,bH A.fo n=some v->(n=A.fo\/n=A.fo+1)/\X[n]?=some v:=λn v F=>by
  unfold bH at F
  grind
 have b0:∀n,bH A.fo n≠none->(n=A.fo\/n=A.fo+1):=λn hn=>by
  cases e:bH A.fo n with
  |none=>simp_all
  |some v=>simp_all
 have N:∀i n,(n=A.fo\/n=A.fo+1)->(bT kk 0 K i).cell A.fb n=none:=λi n hn=>by
  have hk:∀l,(kk l).cell A.fb n=none:=λl=>by rcases hn with h|h<;>rw[h]<;>first|exact(G.eD l).1|exact(G.eD l).2.1
  cases e:(bT kk 0 K i).cell A.fb n with
  |none=>rfl
  | some v=>
    by_cases ei:i=0
    . subst ei
      rw[ar]at e
      grind
    . rw[az _ _ ei,hk]at e;cases e
 have b1:∀Q:Addr,Q.block=A.fb->bH A.fo Q.off≠none -> ¬Z.Shun (.cell Q):=λQ r k=>G.jR Q ⟨r,(b0 _ k).imp id .inl⟩
 have b2:=ay.T7 C (b:=A.fb) (f:=bH A.fo) (λi=>?_) (λn v F i=>N i n (a7 n v F).1) b1 ⟨X,ce,o,?_,λn v F=>(a7 n v F).2⟩ (λm a Q O hl bw hf=>?_) G.fa.2.1
 . have b3:∀i,0<i -> ¬dD P A s i/\¬gy P A s i/\¬fq P A s i:=λi hi=>by
    refine⟨?_,?_,?_⟩
    . rintro(⟨h,_⟩|⟨a,a1,a2,a3⟩|⟨h,a3⟩)
      . omega
      . grind
      grind
    . rintro(⟨h,_⟩|⟨a,a1,a2,a3⟩|⟨h,a3⟩)
      . omega
      . grind
      grind
    . rintro(⟨h,_⟩|⟨a,a1,a2,a3⟩)
      . omega
      grind
   have hS:=b2.finish (P:=P) (gs:=gs') (g:=g) (q:=q) ab ⟨λi y hi d=>by
    rw[al i (by omega)]at d
    rw[ck hu];obtain⟨n1,n2,n3⟩:=b3 i hi;exact(z.rest i y d n1 n2 n3).2,λj hj=>by rw[ck hu];exact z.above j (by omega)⟩ (by rw[ck hu];exact d0)
   rw[ar,ar,az _ _ C,ar]at hS;exact⟨K,x,a,D,av.mono (D _),ax,hS⟩
 . by_cases e:i=Z.lk
   . subst e;rw[ar];rfl
   . rw[az _ _ e]
     by_cases U:i=0
     . subst U;rw[ar];simp only[ak.set,aaj A.d5];exact T 0
     . rw[az _ _ U];exact T i
 . rw[ar,<-Y];exact(D 0).sh _ _ H
 . have b4:touchAt t m=some a:=by
    rcases dU O with⟨r,_⟩|⟨op,W,r⟩
    . exact r
    grind
   exact E m a b4 (by rw[hl];rfl) (by grind)
def RY  E  (o:A.dir=false) (r:bG (cd P A Fin Z E) Z s f q kk OO J M gs w t) (hm:s.ms=.recv) (C:s.c=.gone) (U:gs[0]?=some g){N}(V:(rI P A Fin (MS.rem P A.n s).length (MS.rem P A.n s)).di (kk 0) (OO 0) g N)  sl :
 ∃ops W,runT P (crowd gs w sl) 0=(.next W,ops)/\∃gs' w' F k' O' g',W=crowd gs' w' F/\dN P Z.W0 k' O' g' gs' w' (t++ops)/\Fin k' O' g':=by
 have D:cZ P A Z s kk OO J M gs.size w t:=r.ex;obtain⟨c0,v0,m0,b⟩:=D.I.g8 (by rw[C];rfl);obtain⟨xs,tm,G⟩:=D.Ac o;rw[show s.c.eF=true by rw[C];rfl]at G
 have v:MS.rem P A.n s=[]:=by
  cases hr:MS.rem P A.n s with
  |nil=>rfl
  | cons a l=>
    have:a∈MS.rem P A.n s:=by grind
    obtain⟨H,X⟩:=tk.1 this;rw[b a H]at X;cases X
 rw[v]at V;obtain⟨_,g₂,z,H,_,e3,L,e4⟩:=V;have O:=(zA.1 U).1;obtain⟨_,_,_,_,_,_,Y,_⟩:=r.live _ (jb hm);have B:=crowd_recv_closed (P:=P) (sl:=sl) U (show stepG P (0==0) g w=_ from H w (r.cO.sat 0)) G (oQ λi x _ hx=>vH E r hx (λj h1 h2 h3=>by simp_all) _);rw[fL]at B;obtain⟨u,a7⟩:∃u:Trace,u=#[{g:=0,fn:=g₂.frame.fn,pos:=g₂.frame.place,act:=.recvClosed A.cF}]:=⟨_,rfl⟩;have e:runT P (crowd gs w sl) 0=(.next (crowd (gs.setIfInBounds 0 (g₂.finishComm P #[rcase A.cF z] (.recv true) 0 z false)) w sl),u):=by simp_all
 have Q:A.cF<w.heap.size:=(zA.1 G).1;have d:∀op∈u,op={g:=0,fn:=g₂.frame.fn,pos:=g₂.frame.place,act:=.recvClosed A.cF}:=λop h=>by simp_all
 have hu:kF u:=λop h=>by simp_all
 have R:u[0]?=some {g:=0,fn:=g₂.frame.fn,pos:=g₂.frame.place,act:=.recvClosed A.cF}:=by grind
 obtain⟨K,x,a,h1,h2,h3,hS⟩:=HL (gs':=gs.setIfInBounds 0 (g₂.finishComm P #[rcase A.cF z] (.recv true) 0 z false)) E r b (.inl C) hu (λop h=>by rw[d op h];rfl) (λop h=>by rw[d op h];exact Q) Y (λi S=>by
  rcases(D.hJ i).1 S with⟨a,T,a2,k⟩|⟨_,k⟩
  . rw[b a T]at k;cases k
  . rw[C]at k;cases k) (λp n hp hk=>by
  obtain⟨T,_,k⟩:=D.hM p hp;rcases k with⟨_,a4⟩|⟨_,a4⟩
  . simp_all
  . exact Bu (t:=t) hu (m:=0) (y:={g:=0,fn:=g₂.frame.fn,pos:=g₂.frame.place,act:=.recvClosed A.cF}) R a4 T rfl Y hk) (LF O) (λi S=>aam (za S)) (by simp) L
 exact⟨u,_,e,_,w,sl,_,_,_,rfl,hS,e4 _ x a (h1 0) h2 h3⟩
end
def tx(n:Nat)(f1 a:FuncId)(b c:String):Trace:=#[{g:=0,fn:=f1,pos:=b,act:=.go n},{g:=n,fn:=a,pos:=c,act:=.start}]
def ga{n f1 b c d op}(h:op∈tx n f1 b c d):op.act.touch?=none/\(op.act≠.mark .disable/\op.act≠.mark .enable)/\(∀B,op.act.low B)/\∀a,op.act≠.mark (.release a):=by
 simp only[tx,List.mem_toArray,aaD,abD,or_false]at h;rcases h with rfl|rfl<;>exact⟨rfl,⟨by simp,by simp⟩,λB=>trivial,by simp⟩
def bot_join  k :au.bot.join k=k:=rfl
section
variable{P:adh}{A:bN}{Fin:acy}{Z:Base}{s s':MS P}{f f':Nat->Node P}{q q':acZ}{kk kk':adg}{OO OO':adf}{J J' M M':acT}{gs gs':acC}{w w':World}{t u:Trace}{j m:Nat}{g g' g₂ child:acW}{z v:Value}
def xW{gs:acC}{g' child}(a:0<gs.size):(∀i,i≠0->i≠gs.size->((gs.setIfInBounds 0 g').push child)[i]?=gs[i]?)/\((gs.setIfInBounds 0 g').push child)[0]?=some g'/\((gs.setIfInBounds 0 g').push child)[gs.size]?=some child:=by grind
def Ag{gs}(b:gs[0]?=some g)(c:stepG P true g w=.spawn g' child w #[])  sl :
 runT P (crowd gs w sl) 0=(.next (crowd ((gs.setIfInBounds 0 g').push child) w sl),tx gs.size g.frame.fn child.frame.fn g.frame.place g.frame.place):=by
 have a:=runT_crowd_spawn (P:=P) (sl:=sl) (i:=0) b (show stepG P (0==0) g w=_ from c);rw[fL]at a;exact a
def DF  m :(pv P A Fin m).solo=false:=by
 cases m with
 |zero=>unfold pv;grind
 |succ m=>rfl
def qe(e:s.ms=.add m):dD P A s 0:=.inl ⟨rfl,by simp_all⟩
def xX(e:s.ms=.spawn m):dD P A s 0:=.inl ⟨rfl,by simp_all⟩
def Ah(a:s.c=.none)(e:s.ms=.add m):¬gy P A s 0:=by
 have:=A.hb;rintro(⟨_,h⟩|⟨l,b,d,f⟩|⟨_,h⟩)
 . simp_all
 . omega
 simp_all
def DG(e:s.ms=.add m):cD P A Fin s 0=pv P A Fin m:=by
 unfold cD
 simp_all
def IT  hZ  (K:bG (cd P A Fin Z hZ) Z s f q kk OO J M gs w t) (Y:s.ms=.spawn m) (hg:gs[0]?=some g){N}(ht:(FE P A Fin m).di (kk 0) (OO 0) g N)  sl :
 Goes P A Fin Z hZ s gs w t sl 0:=by
 have F:cZ P A Z s kk OO J M gs.size w t:=K.ex;have hb:=A.hb;obtain⟨rfl,g',child,hs,L,a7⟩:=ht;have O:=F.I.ms;rw[Y]at O;obtain⟨aL,D⟩:=O;have o:gs.size=A.b+s.sp:=by have:=F.size;rw[D]at this;simpa[jQ.isNone]using this
 have u:s.sp<A.n:=by omega
 have hj:A.n-(m+1)=s.sp:=by omega
 rw[hj]at L;obtain⟨Q⟩:=T.tree (P:=P) (m:=iv P A s.sp) rfl L;obtain⟨R⟩:=T.tree (DF (P:=P) (A:=A) (Fin:=Fin) m) a7;have a8:=(zA.1 hg).1;obtain⟨_,_,_,_,_,_,d0,_⟩:=K.live _ (xX Y);have dn:Deaf t gs.size=0:=K.above _ (aao _);have S:=Ag (sl:=sl) hg (hs w (K.cO.sat 0));have hu:kF (tx gs.size g.frame.fn child.frame.fn g.frame.place g.frame.place):=λop h=>(ga h).2.1
 have a9:∀n,Knows t 0 n->Knows (t++tx gs.size g.frame.fn child.frame.fn g.frame.place g.frame.place) gs.size n:=λn hn=>vA (t:=t) (c:=0) hu (m1:=0) (m2:=1) (x:={g:=0,fn:=g.frame.fn,pos:=g.frame.place,act:=.go gs.size}) (y:={g:=gs.size,fn:=child.frame.fn,pos:=g.frame.place,act:=.start}) rfl rfl rfl rfl d0 dn hn
 have k:s.w s.sp=.idle:=by have:=(F.I.idle s.sp u).2 (aao _);cases e:s.w s.sp<;>rw[e]at this<;>first|rfl|cases this
 have ab:¬bU P A s gs.size:=by
  rintro(h|⟨l,z,B⟩|⟨z,B⟩)
  . omega
  . omega
  omega
 obtain⟨fk,fO⟩:=F.De gs.size (by omega) ab
 obtain⟨X,hX⟩:∃X:Node P,X=⟨iv P A s.sp,kk 0,ak.bot,child,Q⟩:=⟨_,rfl⟩;obtain⟨s',d⟩:∃s',s'=s.kK s.sp (.run false X) (.add m) (s.sp+1):=⟨_,rfl⟩;have r:s'.w s.sp=.run false X:=by rw[d,fy]
 have U:∀{l:Nat},l≠s.sp->s'.w l=s.w l:=λh=>by rw[d,jA h]
 have C:s'.c=s.c:=by rw[d];rfl
 have H:s'.ms=.add m:=by rw[d];rfl
 have V:s'.sp=s.sp+1:=by rw[d];rfl
 have hI:bR A.n s':=by rw[d];refine F.I.kK u (by rw[k,Y];rfl) (by rw[k];rfl) rfl (by simp_all) rfl (by rw[k];rfl) rfl (.inr ⟨rfl,rfl⟩) (λh=>by cases h) ⟨by omega,D⟩
 have W:∀l,J l->dY P A s' l:=λl hl=>by
  rcases(F.hJ l).1 hl with⟨a,z,B,h3⟩|⟨z,B⟩
  . refine .inl ⟨a,z,B,?_⟩
    by_cases e:a=s.sp
    . subst e;rw[r];rfl
    simp_all
  . exact .inr ⟨z,by simp_all⟩
 have hP:=K.cO.hand (J':=dY P A s') (M':=M) (w':=w) (src:=0) (dst:=gs.size) (by omega) (by omega) a9 (λop h=>(ga h).1) (λop h=>(ga h).2.2.1 _) rfl ⟨⟨.refl _,rfl⟩,λ_ _=>rfl⟩ (λb=>.inl rfl) (λn a ha aO h=>h.elim (λ⟨j,z,B⟩=>.inr (.inl ⟨j,W j z,B.app _⟩)) (λ⟨p,z,B⟩=>.inr (.inr (.inl ⟨p,z,B.app _⟩))))
 rw[fk,bot_join]at hP;obtain⟨ad,al,av⟩:=xW (g':=g') (child:=child) a8
 have ax:cZ P A Z s' (bT kk gs.size (kk 0)) OO (dY P A s') M ((gs.setIfInBounds 0 g').push child).size w (t++tx gs.size g.frame.fn child.frame.fn g.frame.place g.frame.place):=by
  refine F.chan hI ⟨λ_ h=>absurd (C.trans D) h,λ_=>by simp_all,λ_=>by simp_all⟩ (by rw[d];rfl) (λ_ l _=>?_) (by rw[Array.size_push,aaZ,V,C,D];simp[jQ.isNone];omega) (by rw[C];exact F.Ac) (λ_ _=>rfl) (by rw[d];rfl) (by rw[d];rfl) (by rw[d];rfl) (by rw[d];rfl) (λl _=>?_) (λi b n v h=>?_) (az _ _ (by omega)) (λi=>aaE) (.inl C) (λop h=>⟨(ga h).1,(ga h).2.2.2⟩) (λi E=>?_) (λi ay hn=>?_)
  . by_cases e:l=s.sp
    . subst e;rw[r,k];exact .inr ⟨rfl,rfl⟩
    . rw[U e];exact .inl ⟨rfl,az _ _ (by omega)⟩
  . by_cases e:l=s.sp
    . subst e;rw[r,k];rfl
    grind
  . by_cases e:i=gs.size
    . subst e;rw[ar]at h;grind
    . rw[az _ _ e]at h;grind
  . rcases E with h0|⟨l,z,B⟩|⟨z,B⟩
    . exact .inl (.inl h0)
    . rw[V]at z
      by_cases e:l=s.sp
      . simp_all
      . exact .inl (.inr (.inl ⟨l,by omega,B⟩))
    simp_all
  . have aC:¬bU P A s i:=λh=>hn (by
     rcases h with h0|⟨l,z,B⟩|⟨z,B⟩
     . exact .inl h0
     . exact .inr (.inl ⟨l,by omega,B⟩)
     simp_all)
    have G:i≠gs.size:=λe=>hn (.inr (.inl ⟨s.sp,by omega,by omega⟩))
    rw[az _ _ G];exact F.De i ay aC
 have hL:MS.gh A.n s' s:=by rw[d];refine uS u ?_;rw[k,Y];have e1:(bp.run (P:=P) false X).cu=20:=rfl;have e2:(pJ.add m).cu=40*m+200:=rfl;have e3:(pJ.spawn m).cu=40*m+225:=rfl;omega
 have hS:gY A s s' (λi=>i=0\/i=gs.size):=⟨λl _ hl=>U (λe=>hl (.inr (by omega))),λ_=>C,λh=>absurd (.inl rfl) h,by rw[d];rfl,by rw[d];rfl⟩
 refine⟨_,_,S,s',bT (bT f 0 ⟨_,_,_,_,R⟩) gs.size X,q,bT kk gs.size (kk 0),OO,dY P A s',M,_,_,_,rfl,hL,?_⟩;refine K.IP hu hP ax (by simp) (λi=>i=0\/i=gs.size) (λi E=>ad i (λe=>E (.inl e)) (λe=>E (.inr e))) (lu hZ hS (λi E=>by rw[az _ _ (λe=>E (.inr e)),az _ _ (λe=>E (.inl e))]) (λ_ _=>rfl) (λi E _=>az _ _ (λe=>E (.inr e))) (λ_ _ _=>rfl) (λl _ _ h=>W l h)) (λi E=>?_)
 rcases E with rfl|rfl
 . refine⟨g',al,λ_=>?_,λh=>absurd h (Ah (C.trans D) H),λh=>absurd h (mP (by simp_all)),λh=>absurd (qe H) h⟩
   have G:(0:Nat)≠gs.size:=by omega
   rw[az _ _ G,ar,az _ _ G];refine⟨by omega,rfl,?_,rfl,rfl,R.running,by rw[ck hu];exact d0,.inl rfl,Dz⟩
   show pv P A Fin m=cD P A Fin s' 0;rw[DG H]
 . have aE:dD P A s' gs.size:=by rw[o];exact kj u r
   refine⟨child,av,λ_=>?_,λh=>absurd h (by rw[o];exact uM u r),λh=>absurd h (by rw[o];exact jS u r),λh=>absurd aE h⟩
   rw[ar,ar,hX];refine⟨by show gs.size<A.b+A.n+1;omega,rfl,?_,rfl,fO.symm,Q.running,by rw[ck hu];exact dn,.inr (.inl ⟨s.sp,u,o,by rw[r];rfl⟩),λl h X' z B h3=>?_⟩
   . show iv P A s.sp=cD P A Fin s' gs.size
     rw[o,nN u r]
   . obtain rfl:l=s.sp:=by omega
     rw[r]at h3;cases h3;rw[hX];exact vE.refl _
def IU  hZ  (r:A.dir=false) (O:bG (cd P A Fin Z hZ) Z s f q kk OO J M gs w t) (R:s.ms=.add 0) (hg:gs[0]?=some g){N}(ht:(pv P A Fin 0).di (kk 0) (OO 0) g N)  sl :
 Goes P A Fin Z hZ s gs w t sl 0:=by
 have u:cZ P A Z s kk OO J M gs.size w t:=O.ex;have hb:=A.hb;have D:=vC r;unfold pv at ht;rw[aaj (by simp_all)]at ht
 obtain⟨rfl,g',child,hs,a8,a9⟩:=ht;have S:=u.I.ms;rw[R]at S;obtain⟨G,B⟩:=S;have G:s.sp=A.n:=by omega
 have d:gs.size=A.b+A.n:=by have:=u.size;rw[B,G]at this;simpa[jQ.isNone]using this
 obtain⟨U⟩:=T.tree (P:=P) (m:=xK P A) rfl a8;obtain⟨V⟩:=T.tree (xU (P:=P) (A:=A) (Fin:=Fin) _ _) a9;have ab:=(zA.1 hg).1;obtain⟨_,_,_,_,_,_,d0,_⟩:=O.live _ (qe R);have dn:Deaf t gs.size=0:=O.above _ (aao _);have W:=Ag (sl:=sl) hg (hs w (O.cO.sat 0));have hu:kF (tx gs.size g.frame.fn child.frame.fn g.frame.place g.frame.place):=λop h=>(ga h).2.1
 have ad:∀n,Knows t 0 n->Knows (t++tx gs.size g.frame.fn child.frame.fn g.frame.place g.frame.place) gs.size n:=λn hn=>vA (t:=t) (c:=0) hu (m1:=0) (m2:=1) (x:={g:=0,fn:=g.frame.fn,pos:=g.frame.place,act:=.go gs.size}) (y:={g:=gs.size,fn:=child.frame.fn,pos:=g.frame.place,act:=.start}) rfl rfl rfl rfl d0 dn hn
 have al:¬bU P A s gs.size:=by
  rintro(h|⟨l,F,z⟩|⟨F,z⟩)
  . omega
  . omega
  simp_all
 obtain⟨fk,fO⟩:=u.De gs.size (by omega) al
 obtain⟨s',o⟩:∃s':MS P,s'={s with ms:=.recv,c:=.eC}:=⟨_,rfl⟩
 have K:s'.w=s.w:=by rw[o]
 have C:s'.c=.eC:=by rw[o]
 have L:s'.ms=.recv:=by rw[o]
 have av:s'.sp=s.sp:=by rw[o]
 obtain⟨v0,m0,Q⟩:=u.I.calm (by rw[B];rfl)
 have hI:bR A.n s':=by
  rw[o];refine⟨?_,u.I.g2,λh=>(by simp_all),u.I.g3,u.I.Hy,λi E h=>?_,⟨u.I.g5.1,λh=>(by simp_all)⟩,λh=>(by cases h),u.I.g7,λh=>(by cases h),λk h=>(by cases h),u.I.ok,rfl,u.I.sp,u.I.idle,⟨G,by simp⟩,λ_ h=>(by cases h),u.I.mu⟩
  . have:=u.I.g1
    rw[R]at this;exact this
  . have h:s.w i=.dn .d7:=h
    have:=Q i E;rw[h]at this;cases this
 have X:∀l,J l->dY P A s' l:=λl Q=>by
  rcases(u.hJ l).1 Q with⟨a,F,z,h3⟩|⟨F,z⟩
  . exact .inl ⟨a,F,z,by simp_all⟩
  . rw[B]at z;cases z
 have hP:=O.cO.hand (J':=dY P A s') (M':=M) (w':=w) (src:=0) (dst:=gs.size) (by omega) (by omega) ad (λop h=>(ga h).1) (λop h=>(ga h).2.2.1 _) rfl ⟨⟨.refl _,rfl⟩,λ_ _=>rfl⟩ (λb=>.inl rfl) (λn a ha b1 h=>h.elim (λ⟨j,F,z⟩=>.inr (.inl ⟨j,X j F,z.app _⟩)) (λ⟨p,F,z⟩=>.inr (.inr (.inl ⟨p,F,z.app _⟩))))
 rw[fk,bot_join]at hP;obtain⟨ax,ay,aC⟩:=xW (g':=g') (child:=child) ab;have Y:=u.Ac;rw[B]at Y
 have aE:cZ P A Z s' (bT kk gs.size (kk 0)) OO (dY P A s') M ((gs.setIfInBounds 0 g').push child).size w (t++tx gs.size g.frame.fn child.frame.fn g.frame.place g.frame.place):=by
  refine u.chan hI (BS r (by simp_all)) (by rw[o]) (λh=>by simp_all) (by rw[Array.size_push,aaZ,av,C,d,G,r];rfl) (by rw[C];exact Y) (λ_ _=>rfl) (by rw[o]) (by rw[o]) (by rw[o]) (by rw[o]) (λl _=>by rw[K]) (λi b n v h=>?_) (az _ _ (by omega)) (λi=>aaE) (.inr ⟨B,.inl C,λm R=>by simp_all⟩) (λop h=>⟨(ga h).1,(ga h).2.2.2⟩) (λi E=>?_) (λi aL hn=>?_)
  . by_cases e:i=gs.size
    . subst e;rw[ar]at h;grind
    . rw[az _ _ e]at h;grind
  . rcases E with h0|⟨l,F,z⟩|⟨F,z⟩
    . exact .inl (.inl h0)
    . exact .inl (.inr (.inl ⟨l,by omega,z⟩))
    simp_all
  . have aO:¬bU P A s i:=λh=>hn (by
     rcases h with h0|⟨l,F,z⟩|⟨F,z⟩
     . exact .inl h0
     . exact .inr (.inl ⟨l,by omega,z⟩)
     simp_all)
    have H:i≠gs.size:=λe=>hn (.inr (.inr ⟨by omega,by simp_all⟩))
    rw[az _ _ H];exact u.De i aL aO
 have hL:MS.gh A.n s' s:=by
  refine .inl ?_;rw[o];show pJ.recv.cu+sumTo A.n (λi=>(s.w i).cu)+jQ.eC.cu s.gc<s.ms.cu+sumTo A.n (λi=>(s.w i).cu)+s.c.cu s.gc
  rw[B,R];have e2:pJ.recv.cu=100:=rfl;have e3:jQ.eC.cu s.gc=14:=rfl;have e4:jQ.none.cu s.gc=0:=rfl;have e5:(pJ.add 0).cu=200:=rfl;omega
 have a7:MS.rem P A.n s'=List.range A.n:=by unfold MS.rem;rw[K];exact List.filter_eq_self.2 λl Q=>by rw[u.I.early (u.dd.trans r) B l (aai.1 Q)];rfl
 have hS:gY A s s' (λi=>i=0\/i=gs.size):=⟨λl _ Q=>by rw[K],λh=>absurd (.inr (by omega)) h,λh=>absurd (.inl rfl) h,by rw[o],by rw[o]⟩
 refine⟨_,_,W,s',bT (bT f 0 ⟨_,_,_,_,V⟩) gs.size ⟨_,_,_,_,U⟩,q,bT kk gs.size (kk 0),OO,dY P A s',M,_,_,_,rfl,hL,?_⟩;refine O.IP hu hP aE (by simp) (λi=>i=0\/i=gs.size) (λi E=>ax i (λe=>E (.inl e)) (λe=>E (.inr e))) (lu hZ hS (λi E=>by rw[az _ _ (λe=>E (.inr e)),az _ _ (λe=>E (.inl e))]) (λ_ _=>rfl) (λi E _=>az _ _ (λe=>E (.inr e))) (λ_ _ _=>rfl) (λl _ _ h=>X l h)) (λi E=>?_)
 rcases E with rfl|rfl
 . refine⟨g',ay,λ_=>?_,λh=>absurd h (tu r (.inl L)),λh=>absurd h (mP (by simp_all)),λh=>absurd (jb L) h⟩
   have H:(0:Nat)≠gs.size:=by omega
   rw[az _ _ H,ar,az _ _ H];refine⟨by omega,rfl,?_,rfl,rfl,V.running,by rw[ck hu];exact d0,.inl rfl,Dz⟩
   show rI P A Fin _ _=cD P A Fin s' 0;rw[nO L,a7,abT]
 . have b0:dD P A s' gs.size:=by rw[d,<-D];exact uO (.inr C)
   refine⟨child,aC,λ_=>?_,λh=>absurd h (by rw[d,<-D];exact HF r (.inr C)),λh=>absurd h (by rw[d,<-D];exact qR (BS r (by simp_all))),λh=>absurd b0 h⟩
   rw[ar,ar];refine⟨by show gs.size<A.b+A.n+1;omega,rfl,?_,rfl,fO.symm,U.running,by rw[ck hu];exact dn,.inr (.inr ⟨d.trans D.symm,by rw[C];rfl⟩),by rw[d,<-D];exact Q0⟩
   show xK P A=cD P A Fin s' gs.size;rw[d,<-D,HH r C]
def cA.UX(h:cA Z kk OO J M w t)(b:∀i,J i->J' i):cA Z kk OO J' M w t:=⟨h.sat,h.jv,h.nJ,h.Bt,h.clean,h.seen,λn a c d=>(h.acc n a c d).imp_right λx=>x.imp_left λ⟨j,e,f⟩=>⟨j,b j e,f⟩,h.n0,h.xw,h.lL,h.po,h.zh,h.mine⟩
def L4(C:gL P A.ng)(X:iF P A.ng)  F  (o:A.dir=true) (V:bG (cd P A Fin Z F) Z s f q kk OO J M gs w t) (G:s.ms=.add 0) (hg:gs[0]?=some g){N}(ht:(pv P A Fin 0).di (kk 0) (OO 0) g N)  sl :
 Goes P A Fin Z F s gs w t sl 0:=by
 have e:cZ P A Z s kk OO J M gs.size w t:=V.ex;have B:=bh (P:=P) (A:=A) (Fin:=Fin) (Z:=Z) F;have hb:=A.hb;have W:=LA o;unfold pv at ht;rw[aal o]at ht;obtain⟨rfl,c0,rest,a7,hF⟩:=ht;have H:=e.I.ms;rw[G]at H;obtain⟨K,p⟩:=H;have K:s.sp=A.n:=by omega
 obtain⟨_,_,_,_,_,_,d0,_⟩:=V.live _ (qe G);obtain⟨g2,⟨n,u⟩,E⟩:=pZ (P:=P) (n:=A.ng) (b:=A.gb) (kind:=.normal) (cs:=c0::rest) (Wd:=kW A) X C;cases n with
 |zero=>exact absurd rfl (Du C u E)
 | succ n=>
   obtain⟨g1,⟨aC,a8⟩,a9⟩:=u;have x:=runT_crowd_go (P:=P) (sl:=sl) (i:=0) hg (by rw[a7];exact a8 true w (B.wd e))
   rw[fL]at x;obtain⟨s',d⟩:∃s':MS P,s'={s with ms:=.off,c:=.wt .w0}:=⟨_,rfl⟩
   have r:s'.w=s.w:=by rw[d]
   have j:s'.c=.wt .w0:=by rw[d]
   have ab:s'.ms=.off:=by rw[d]
   have L:s'.sp=s.sp:=by rw[d]
   have Y:wh P A s':=⟨λ_ _=>ab,λ_=>by simp_all,λh=>by simp_all⟩
   obtain⟨v0,m0,Q⟩:=e.I.calm (by rw[p];rfl)
   have hI:bR A.n s':=by
    rw[d];refine⟨?_,e.I.g2,λh=>(by simp_all),e.I.g3,e.I.Hy,λi R h=>?_,⟨e.I.g5.1,λh=>(by simp_all)⟩,λh=>(by cases h),e.I.g7,λh=>(by cases h),λk h=>(by cases h),e.I.ok,rfl,e.I.sp,e.I.idle,⟨K,by simp⟩,λ_ h=>(by cases h),e.I.mu⟩
    . have:=e.I.g1
      rw[G]at this;exact this
    . have h:s.w i=.dn .d7:=h
      have:=Q i R;rw[h]at this;cases this
   have S:∀l,J l->dY P A s' l:=λl Q=>by
    rcases(e.hJ l).1 Q with⟨a,D,z,h3⟩|⟨D,z⟩
    . exact .inl ⟨a,D,z,by simp_all⟩
    . rw[p]at z;cases z
   have hP:cA Z kk OO (dY P A s') M w (t++#[]):=by rw[qS];exact V.cO.UX S
   have ad:cZ P A Z s' kk OO (dY P A s') M gs.size w (t++#[]):=by
    refine e.chan hI Y (by rw[d]) (λ_ l _=>.inl ⟨by rw[r],rfl⟩) (by rw[L,j,o,e.size,p];rfl) (λh=>by simp_all) (λ_ _=>rfl) (by rw[d]) (by rw[d]) (by rw[d]) (by rw[d]) (λl _=>by rw[r]) (λi b n v h=>⟨i,h⟩) rfl (λi=>aaE) (.inr ⟨p,.inr ⟨_,j⟩,λm G=>by simp_all⟩) (λop h=>by simp at h) (λi R=>.inl ?_) (λi al hn=>e.De i al λh=>hn ?_)
    . rcases R with h0|⟨l,D,z⟩|⟨D,_⟩
      . exact .inl h0
      . exact .inr (.inl ⟨l,by omega,z⟩)
      . exact .inl (D.trans W)
    . rcases h with h0|⟨l,D,z⟩|⟨D,_⟩
      . exact .inl h0
      . exact .inr (.inl ⟨l,by omega,z⟩)
      simp_all
   have hL:MS.gh A.n s' s:=by
    refine .inl ?_;rw[d];show pJ.off.cu+sumTo A.n (λi=>(s.w i).cu)+(jQ.wt .w0).cu s.gc<s.ms.cu+sumTo A.n (λi=>(s.w i).cu)+s.c.cu s.gc
    rw[p,G];have e2:pJ.off.cu=0:=rfl;have e3:(jQ.wt .w0).cu s.gc=13:=rfl;have e4:jQ.none.cu s.gc=0:=rfl;have e5:(pJ.add 0).cu=200:=rfl;omega
   have hS:fe A s s' 0:=⟨λl _ _=>by rw[r],λh=>absurd W.symm h,λh=>absurd rfl h,L,by rw[d],.inl λ_ _=>by rw[r]⟩
   have T:¬dD P A s' 0:=by have:=BT Y j;simp_all
   have av:¬fq P A s' 0:=by have:=qR Y;simp_all
   have ax:gy P A s' 0:=by have:=uN (P:=P) (A:=A) j;simp_all
   have U:=ti Y j;rw[W]at U
   have ay:Beside (cd P A Fin Z F) s s' f f q (upd q 0 n) kk kk OO OO J (dY P A s') w 0 g g1:=lT F hS (λ_ _=>rfl) (λi R=>upd_ne q n R) (λ_ _ _=>rfl) (λ_ _ _=>rfl) (λi _ h=>S i h) (.inl ⟨by simp_all,by simp_all⟩) (λ{i k O y} E=>B.kO (s:=s) (i:=i) (k:=k) (O:=O) (g:=y) E)
   refine⟨_,_,x,s',f,upd q 0 n,kk,OO,dY P A s',M,_,_,_,rfl,hL,?_⟩;refine bG.step B V hg (λop h=>by simp at h) hP ad (λl y Q E=>B.sV e Q _ _ E) ay ⟨λh=>absurd h T,λ_=>⟨T,?_,?_,g2,?_,?_⟩,λh=>absurd h av,λ_ h _=>absurd ax h⟩
   . omega
   . rw[qS,d0]
     show 0=dM P A s' 0;rw[U];rfl
   . refine .inr (.inr ⟨W.symm,?_⟩)
     rw[j];exact⟨c0,rest,E,by simp_all⟩
   . exact .inr (by rw[upd_same];exact a9)
def L5(C:gL P A.ng)(X:iF P A.ng)(hsl:∀  n   k   O   g gB ,ji P (λ_=>True) n g gB->Fin k O gB->Fin k O g)  R  (d:A.dir=true) (G:bG (cd P A Fin Z R) Z s f q kk OO J M gs w t) (S:s.c=.wt .wa) (hg:gs[0]?=some g) (T:Tr P A Fin (.wt .wa) (kk 0) (OO 0) g)  sl :
 ∃ops m',runT P (crowd gs w sl) 0=(.next m',ops)/\∃gs' w' U k' O' g',m'=crowd gs' w' U/\dN P Z.W0 k' O' g' gs' w' (t++ops)/\Fin k' O' g':=by
 have D:cZ P A Z s kk OO J M gs.size w t:=G.ex;have hb:=A.hb;have e0:=LA d;obtain⟨c0,rest,hM,hT⟩:=T;rw[aal d]at hT;obtain⟨V,hF⟩:=hT;obtain⟨H,W,hr,⟨k,F⟩⟩:=Uy (Wd:=λ_=>True) (main:=true) (w:=w) C X hM (by decide)
 have v:=runT_crowd_go (P:=P) (sl:=sl) (i:=0) hg W;obtain⟨u,E⟩:∃u:Trace,u=MemOp.ofEvents 0 g.frame.fn g.frame.place #[⟨.mark (.acquire ⟨A.gb,0,none⟩),false,true⟩]:=⟨_,rfl⟩;have z:∀op∈u,op=⟨0,g.frame.fn,g.frame.place,.mark (.acquire ⟨A.gb,0,none⟩)⟩:=λop h=>by rw[E,ofEvents_eq]at h;simpa[MemAct.ofEvent]using h
 have Y:u[0]?=some ⟨0,g.frame.fn,g.frame.place,.mark (.acquire ⟨A.gb,0,none⟩)⟩:=by rw[E,ofEvents_eq];simp[MemAct.ofEvent]
 rw[<-E]at v;obtain⟨_,_,_,m⟩:=D.I.g8 (by rw[S];rfl)
 have a7:=(zA.1 hg).1
 have d0:Deaf t 0=0:=by
  obtain⟨_,_,a8,_⟩:=G.walk _ (uN S);have r:(cd P A Fin Z R).deaf s A.cl=0:=by show dM P A s A.cl=0;rw[ti D.off S];rfl
  simp_all
 have hu:kF u:=λop h=>by grind
 have hG:A.gb<w.heap.size:=by obtain⟨c,e,r⟩:=D.zq;grind
 have L:∀i o,gs[i]?=some o->i≠0->woken P g H w o=o:=λi o ho h0=>by
  have nl:¬dD P A s i:=by
   rintro(⟨e,_⟩|⟨l,r,N,Q⟩|⟨e,_⟩)
   . exact h0 e
   . simp_all
   omega
  have nw:¬gy P A s i:=by
   rintro(⟨e,_⟩|⟨l,r,N,Q⟩|⟨e,_⟩)
   . exact h0 e
   . simp_all
   omega
  have nh:¬fq P A s i:=by
   rintro(⟨e,_⟩|⟨l,r,N,Q⟩)
   . exact h0 e
   simp_all
  exact woken_quitsD (G.rest i o ho nl nw nh).2
 obtain⟨K,x,a,r,N,Q,hS⟩:=HL (gs':=(gs.map (woken P g H w)).setIfInBounds 0 H) (g:=H) R G m (.inr e0) hu (λop h=>by rw[z op h];rfl) (λop h=>by rw[z op h];exact hG) d0 (λi hi=>by
  rcases(D.hJ i).1 hi with⟨a,a1,a2,B⟩|⟨B,_⟩
  . rw[m a a1]at B;cases B
  omega) (λp n hp hk=>by
  obtain⟨a1,a2,B⟩:=D.hM p hp
  rcases B with⟨B,_⟩|⟨B,_⟩
  . exact m9 (y:=⟨0,g.frame.fn,g.frame.place,.mark (.acquire ⟨A.gb,0,none⟩)⟩) hu Y rfl d0 B a1 (λk hk e=>by
     rcases qP e with⟨r,_⟩|⟨op,a9,r⟩
     . exact D.norel k _ (by omega) r
     grind) hk
  simp_all) (LF (by simp_all)) (λi hi=>by
  grind) (by simp) V
 exact⟨u,_,v,_,w,sl,_,_,_,rfl,hS,hsl _ _ _ _ _ F (hF K x a (r 0) (λj hj=>(r (A.b+j)).1 _ _ _ ((D.yZ d j hj).2 (by rw[m j hj];rfl))) N Q)⟩
def L6(C:gq P A.nm)(X:gu P A.nm)(F:mC P A.nm)  v  (a:A.dir=true) (H:bG (cd P A Fin Z v) Z s f q kk OO J M gs w t) (hj:j<A.n){Y}(p:s.w j=.un .ue Y) (hg:gs[A.b+j]?=some g) (K:Hz P A j (.un .ue Y) (kk (A.b+j)) (OO (A.b+j)) g)  sl :
 Goes P A Fin Z v s gs w t sl (A.b+j):=by
 have d:cZ P A Z s kk OO J M gs.size w t:=H.ex;have B:=bh (P:=P) (A:=A) (Fin:=Fin) (Z:=Z) v;have hb:=A.hb;have L:(A.b+j==0)=false:=by simp;omega
 obtain⟨kind,c,rest,hk,hM,hm,ab,Q⟩:=K;have hN:=Q (by simp)
 rw[show E5 P A Y.N=T P (kV P A) gM by simp[E5,a]]at hN
 obtain⟨R,S,hr,g2,z,D⟩:=BC (Wd:=λ_=>True) (main:=false) (w:=w) C X hM
 obtain⟨k,U⟩:=z.trans (lR F D hk);obtain⟨tr⟩:=T.tree (P:=P) (m:=kV P A) rfl hN;obtain⟨T,_⟩:=TT.pre U tr;obtain⟨x,r⟩:∃x:bp P,x=.yX:=⟨_,rfl⟩;have o:(s.aW j x s.sh).w j=.yX:=by rw[aX,r]
 have V:EvM A.fb A.fo #[⟨.mark .enable,false,true⟩]:=λe he=>by simp_all
 have E:=runT_crowd_go (P:=P) (sl:=sl) (i:=A.b+j) hg (by rw[L];exact S)
 have G:bU P A s (A.b+j):=iI d.I hj (by rw[p];rfl)
 obtain⟨y1,y2,y3⟩:=d.LM V G g.frame.fn g.frame.place;have u:∀op∈MemOp.ofEvents (A.b+j) g.frame.fn g.frame.place #[⟨.mark .enable,false,true⟩],op.g=A.b+j:=λop W=>by obtain⟨e,_,rfl⟩:=zU W;rfl
 have hJ:J (A.b+j):=(d.hJ _).2 (wE hj (by rw[p];rfl))
 have hP:=H.cO.sync (i:=A.b+j) (.inr hJ) u rfl ⟨⟨.refl _,rfl⟩,λ_ _=>rfl⟩ (λb=>.inl rfl) y2 y1
 have hI:bR A.n (s.aW j x s.sh):=d.I.wF hj (by rw[p];rfl) (by rw[r];rfl) (.inr (d.dd.trans a)) (by rw[r];rfl) (by rw[r,p];rfl)
 have hL:MS.gh A.n (s.aW j x s.sh) s:=tg hj (by rw[r,p];simp[bp.cu])
 have a7:=d.xO (x:=x) (sh:=s.sh) (w':=w) hj (by rw[r,p];rfl) (by rw[r,p];rfl) (λ_=>by rw[r,p];rfl) hI d.mu (λ_ _=>rfl) d.vD y3
 have hS:fe A s (s.aW j x s.sh) (A.b+j):=xO hj (.inr ⟨λhl=>by
  obtain⟨o1,o2,o3,o4,_⟩:=d.off.2.1 a
  rcases hl with⟨_,h⟩|⟨l,_,h1,_⟩|⟨_,h⟩
  . grind
  . omega
  simp_all,(d.off.2.1 a).2.1⟩)
 have a8:Beside (cd P A Fin Z v) s (s.aW j x s.sh) f (bT f (A.b+j) ⟨kV P A,kk (A.b+j),OO (A.b+j),R,T⟩) q q kk kk OO OO J J w (A.b+j) g R:=lT v hS (λi hi=>az _ _ hi) (λi hi=>rfl) (λ_ _ _=>rfl) (λ_ _ _=>rfl) (λ_ _ h=>h) (.inl ⟨id,id⟩) (λ{i k O y} D=>B.kO (s:=s) (i:=i) (k:=k) (O:=O) (g:=y) D)
 refine⟨_,_,E,s.aW j x s.sh,bT f (A.b+j) ⟨kV P A,kk (A.b+j),OO (A.b+j),R,T⟩,q,kk,OO,J,M,_,_,_,rfl,hL,?_⟩;refine bG.step B H hg u hP a7 (λl y hl D=>B.sV d hl _ _ D) a8 ⟨λ_=>?_,λh=>absurd h (oR hj (.inr o)),λh=>absurd h (uQ hj o),λh=>absurd (tj hj o) h⟩
 rw[ar];refine⟨by show A.b+j<A.b+A.n+1;omega,rfl,?_,rfl,rfl,hr,?_,.inr hJ,HK o⟩
 . show kV P A=cD P A Fin (s.aW j x s.sh) (A.b+j)
   rw[xT hj o]
 . obtain⟨_,_,a9,_⟩:=H.walk _ (iU (P:=P) (A:=A) (s:=s) hj (by rw[p];rfl))
   rw[Deaf_own,a9];show deafBehind (dM P A s (A.b+j)) _=0;rw[eI hj,p];rfl
end
section
variable{P:adh}{A:bN}{Fin:acy}{Z:Base}{s s':MS P}{f f':Nat->Node P}{q q':acZ}{kk kk':adg}{OO OO':adf}{J J' M M':acT}{gs gs':acC}{w w':World}{t u:Trace}{j m:Nat}{g g' g₂ child:acW}{z v:Value}
def BV  L  (z:bG (cd P A Fin Z L) Z s f q kk OO J M gs w t):∃(i:Nat) (g:acW),gs[i]?=some g/\g.status=.running:=by
 have o:cZ P A Z s kk OO J M gs.size w t:=z.ex;have B:=bh (P:=P) (A:=A) (Fin:=Fin) (Z:=Z) L;refine aaY λC=>?_
 have a:∀i,¬dD P A s i:=λi k=>by
  obtain⟨_,N,_,_,_,O,_⟩:=z.live i k
  grind
 have zZ:∀i,gy P A s i->RO P A s i:=λi D=>by
  obtain⟨_,_,_,x,x',N,O,R⟩:=z.walk i D
  rcases R with⟨h,_⟩|h
  . exact h
  . exact absurd ⟨i,x,N,h.first (B.kO O).1⟩ C
 have hb:=A.hb
 obtain⟨S,T,U,V,E⟩:s.sp=A.n/\s.c≠.none/\s.c≠.gone/\(∀j,j<A.n->s.w j≠.wait)/\s.ms.pend=0:=by
  have d:=o.I.ms;cases e:s.ms with
  |parked=>rw[e]at d;exact⟨d.1,d.2.1,d.2.2.1,d.2.2.2,rfl⟩
  |add l=>exact absurd (qe e) (a 0)
  |spawn l=>exact absurd (xX e) (a 0)
  |recv=>exact absurd (jb e) (a 0)
  | bE l p=>
    rw[e]at d
    rcases zZ 0 (FN e)with⟨l,_,_,r,F,_⟩|⟨_,h,_⟩
    . omega
    simp_all
  | off=>
    rw[e]at d
    have hd:A.dir=true:=by
     cases q:A.dir with
     |true=>rfl
     |false=>exact absurd e (o.off.2.2 q)
    refine⟨d.1,d.2,(o.off.2.1 hd).2.2.2.2,λj W D=>?_,rfl⟩
    obtain⟨_,_,_,_,_,_,_,h|⟨_,_,_,_,_,_,_,_,_,_,h⟩⟩:=z.held (A.b+j) (.inr ⟨j,W,rfl,D⟩)
    . omega
    simp_all
 have Q:s.c=.wt .w4/\s.gm=0:=by
  cases e:s.c with
  |none=>simp_all
  |gone=>simp_all
  |eC=>exact absurd (uO (.inr e)) (a _)
  |jw=>exact absurd (uO (.inl e)) (a _)
  | wt p=>
    rcases zZ _ (uN e)with⟨l,_,_,r,F,_⟩|⟨_,h,h'⟩
    . omega
    simp_all
 have m:∀l,l<A.n->gy P A s (A.b+l)->∃sv Y,s.w l=.lk (.gE sv) Y/\s.sh.ms=0:=λl k h=>by
  rcases zZ _ h with⟨l',sv,Y,r,F,h3,h4⟩|⟨r,_⟩
  . simp_all
  . omega
 have u:∀l,l<A.n->s.w l=.gone\/∃sv Y,s.w l=.lk (.gE sv) Y/\s.sh.ms=0:=λl k=>by
  have v:=o.I.idle l k;cases e:s.w l with
  |idle=>rw[e]at v;have:=v.1 rfl;omega
  |run h X=>exact absurd (kj k e) (a _)
  |lk p Y=>have:=m l k (.inr (.inl ⟨l,k,rfl,by simp_all⟩));simp_all
  |un p Y=>have:=m l k (.inr (.inl ⟨l,k,rfl,by simp_all⟩));simp_all
  |wait=>simp_all
  |yX=>exact absurd (tj k e) (a _)
  |dn p=>have:=m l k (mN k e);simp_all
  |gone=>simp_all
 have y:∀l,l<A.n->s.w l=.gone:=λl k=>by
  rcases u l k with h|⟨sv,Y,h,h0⟩
  . exact h
  . have r:=o.I.mu.alive (λi G=>by
     rcases u i G with h|⟨sv,Y,h,_⟩
     . exact .inl (by rw[h];rfl)
     . exact .inr ⟨sv,by rw[h];rfl⟩) h0 l k
    rw[h]at r;cases r
 have H:s.gc=0:=by
  have r:=o.I.g1;rw[E]at r
  have F:sumTo A.n (λj=>(s.w j).cnt)=0:=by
   have:∀n,n<=A.n->sumTo n (λj=>(s.w j).cnt)=0:=λn=>by
    induction n with
    |zero=>intro _;rfl
    | succ n ih=>
      intro hn;have e1:=ih (by omega)
      simp only[sumTo,e1,y n (by omega)]
      rfl
   simp_all
  omega
 have K:s.c.waits=true:=by rw[Q.1];rfl
 by_cases hv:s.gv=1
 . obtain⟨i,G,h⟩:=o.I.g7 hv H
   simp_all
 . have:=o.I.g2
   obtain⟨i,G,h⟩:=o.I.g6 K (by omega) Q.2
   simp_all
variable(C:gL P A.ng)(X:iF P A.ng)(CM:gq P A.nm)(XM:gu P A.nm)(F:mC P A.nm)
include C X CM XM F in
def IV  r   sl   i  {k O g N}  L   h   c
 (u:bG (cd P A Fin Z r) Z s f q kk OO J M gs w t) (U:dD P A s i) (Q:f i=⟨cD P A Fin s i,k,O,g,.di N L h c⟩):
 ∃ ops y,runT P (crowd gs w sl) i=(.next y,ops)/\
  ((∃s' f' q' kk' OO' J' M' gs' w' o,y=crowd gs' w' o/\MS.gh A.n s' s/\bG (cd P A Fin Z r) Z s' f' q' kk' OO' J' M' gs' w' (t++ops))\/
   (∃gs' w' o k' O' g',y=crowd gs' w' o/\dN P Z.W0 k' O' g' gs' w' (t++ops)/\Fin k' O' g')):=by
 have R:cZ P A Z s kk OO J M gs.size w t:=u.ex
 have goes:Goes P A Fin Z r s gs w t sl i->∃ops y,runT P (crowd gs w sl) i=(.next y,ops)/\
  ((∃s' f' q' kk' OO' J' M' gs' w' o,y=crowd gs' w' o/\MS.gh A.n s' s/\bG (cd P A Fin Z r) Z s' f' q' kk' OO' J' M' gs' w' (t++ops))\/
   (∃gs' w' o k' O' g',y=crowd gs' w' o/\dN P Z.W0 k' O' g' gs' w' (t++ops)/\Fin k' O' g')):=λ⟨ops,y,S,T⟩=>⟨ops,y,S,.inl T⟩
 obtain⟨_,d,_,B,D,_,_,_,_⟩:=u.live i U;rw[Q]at d B D;have d:gs[i]?=some g:=d;have B:k=kk i:=B;have D:O=OO i:=D;subst B D
 rcases U with⟨rfl,E⟩|⟨j,x,rfl,H⟩|⟨rfl,G⟩
 . cases e:s.ms with
   | add l=>
     rw[DG e]at h;cases l with
     | zero=>
       by_cases hd:A.dir=true
       . exact goes (L4 C X r hd u e d h sl)
       . exact goes (IU r (Bool.eq_false_iff.2 hd) u e d h sl)
     |succ l=>exact goes (LX C X r u e rfl rfl d h sl)
   |bE l p=>rw[e]at E;exact E.elim
   | spawn l=>
     have m:cD P A Fin s 0=FE P A Fin l:=by unfold cD;rw[aal rfl,e]
     rw[m]at h;exact goes (IT r u e d h sl)
   |parked=>rw[e]at E;exact E.elim
   |off=>rw[e]at E;exact E.elim
   | recv=>
     have a:A.dir=false:=by
      cases q:A.dir with
      |false=>rfl
      |true=>exact absurd e (R.off.2.1 q).1
     rw[nO e]at h;obtain⟨g₂,z,V,r2,r3,r4⟩:=LY h
     by_cases K:∃j,j<A.n/\s.w j=.wait
     . obtain⟨j,x,H⟩:=K
       exact goes (L0 r a u e x H d V h sl)
     . by_cases G:s.c=.gone
       . obtain⟨ops,y,S,gs',w',o,k',O',g',T,e3⟩:=RY r a u e G d h sl
         exact⟨ops,y,S,.inr ⟨gs',w',o,k',O',g',T,e3⟩⟩
       . exact goes (L1 r a u e (λj x H=>K ⟨j,x,H⟩) G d V r2 r3 r4 sl)
 . cases e:s.w j with
   | run b X0=>
     have m:=nN (Fin:=Fin) x e;have I:=h;rw[m]at I
     rcases I with I|I|⟨a,rfl,W,g₂,z,v,hs,hv,ht⟩
     . exact goes (IH CM XM F r u x e (Y:=⟨cD P A Fin s (A.b+j),_,_,g,N,L,h,c⟩) Q I sl)
     . exact goes (Dq CM XM F r u x e (Y:=⟨cD P A Fin s (A.b+j),_,_,g,N,L,h,c⟩) Q I sl)
     . have hb:b=false:=by
        cases b with
        |false=>rfl
        |true=>exact absurd W (R.zr j x (by rw[e];rfl))
       subst hb
       by_cases E:s.ms=.parked
       . exact goes (LZ r a u x e E d hs hv ht sl)
       . exact goes (PN r a u x e E d hs W hv ht sl)
   |yX=>have m:=xT (Fin:=Fin) x e;rw[m]at h;exact goes (IN C X r u x e d h sl)
   |_=>rw[e]at H;exact H.elim
 . have a:A.dir=false:=by
    cases q:A.dir with
    |false=>rfl
    | true=>
      obtain⟨_,_,o3,o4,_⟩:=R.off.2.1 q;cases e:s.c with
      |eC=>exact absurd e o3
      |jw=>exact absurd e o4
      |_=>rw[e]at G;exact G.elim
   cases e:s.c with
   |eC=>rw[HH a e]at h;exact goes (IM C X r u e rfl rfl d h a sl)
   | jw=>
     rw[HG a (by rw[e];simp)]at h
     exact goes (L2 r a u e d h sl)
   |_=>rw[e]at G;exact G.elim
def Ends(P:adh)(Fin:acy)(Z:Base)(gs:acC)(w:World)(t:Trace)(sl:acA)(i:Nat):Prop:=∃ops b,runT P (crowd gs w sl) i=(.next b,ops)/\∃gs' w' a c d g',b=crowd gs' w' a/\dN P Z.W0 c d g' gs' w' (t++ops)/\Fin c d g'
variable(hsl:∀(n:Nat) (k:au) (O:ak) (g gB:acW),ji P (λ_=>True) n g gB->Fin k O gB->Fin k O g)
include C X CM XM F hsl in
def IW  a   sl   i  {g}(b:bG (cd P A Fin Z a) Z s f q kk OO J M gs w t) (x:gy P A s i) (d:gs[i]?=some g) (k:UB P A Fin s i (kk i) (OO i) g):
 Goes P A Fin Z a s gs w t sl i\/FK P A s gs w sl i g\/Ends P Fin Z gs w t sl i:=by
 have z:cZ P A Z s kk OO J M gs.size w t:=b.ex;have hb:=A.hb;rcases x with⟨rfl,B⟩|⟨j,m,rfl,x⟩|⟨rfl,y⟩
 . cases e:s.ms with
   | bE l p=>
     rcases k with⟨_,h⟩|⟨l,n,D,_⟩|⟨n,h⟩
     . rw[e]at h;exact .inl (Dw C X a b e d h sl)
     . omega
     . have:=z.I.ms
       rw[e]at this;rw[this.2.1]at h;exact h.elim
   |_=>rw[e]at B;exact B.elim
 . rcases k with⟨n,_⟩|⟨l,n,D,h⟩|⟨n,_⟩
   . omega
   . obtain rfl:l=j:=by omega
     cases e:s.w l with
     | lk p Y=>
       rw[e]at h;by_cases o:p=.la
       . subst o;exact .inl (Pz CM XM F a b m e d h sl)
       . exact(Pw CM XM a b m e d h o sl).imp_right .inl
     | un p Y=>
       rw[e]at h;by_cases r:p=.ur
       . subst r;exact .inl (PA CM XM a b m e d h sl)
       . by_cases u:p=.ue
         . subst u
           by_cases hd:A.dir=true
           . exact .inl (L6 CM XM F a hd b m e d h sl)
           . exact .inl (Py CM XM F a b m e d h (Bool.eq_false_iff.2 hd) sl)
         . exact .inl (Px CM XM a b m e d h r u sl)
     |dn p=>rw[e]at h;exact .inl (PG C X a b m e d h sl)
     |_=>rw[e]at x;exact x.elim
   . omega
 . rcases k with⟨n,h⟩|⟨l,n,D,h⟩|⟨_,h⟩
   . have:s.c≠.none:=λq=>by rw[q]at y;exact y
     rw[z.off.1 (BR n) this]at h;exact h.elim
   . omega
   . cases e:s.c with
     | wt p=>
       rw[e]at h;by_cases v:p=.wa
       . subst v
         by_cases hd:A.dir=true
         . have E:=LA hd
           rw[E]at d h ⊢;exact .inr (.inr (L5 C X hsl a hd b e d h sl))
         . exact .inl (PJ C X a b e d h (Bool.eq_false_iff.2 hd) sl)
       . exact(PI C X a b e v d h sl).imp_right .inl
     |_=>rw[e]at y;exact y.elim
include C X CM XM F hsl in
def L7  b  (a:bG (cd P A Fin Z b) Z s f q kk OO J M gs w t)  sl :
 ∃N gs' w' d o k' O' g',runNT P N (crowd gs w sl) t=(.next (crowd gs' w' d),o)/\dN P Z.W0 k' O' g' gs' w' o/\Fin k' O' g':=
 La (bh (P:=P) (A:=A) (Fin:=Fin) (Z:=Z) b) Fin (λa=>BV b a) (by intro s f q kk OO J M gs w t sl i k O g N p h c a r u;exact IV C X CM XM F b sl i p h c a r u)
  (by
    intro s f q kk OO J M gs w t sl i g a v x j _;rcases IW C X CM XM F hsl b sl i a v x j with⟨ops,l,m,n⟩|⟨hd,e⟩|⟨ops,l,m,n⟩
    . exact⟨ops,l,m,.inl n⟩
    . exact⟨_,_,e,.inr (.inr ⟨hd,rfl,rfl⟩)⟩
    . exact⟨ops,l,m,.inr (.inl n)⟩) s _ f _ q kk OO J M gs w sl t rfl rfl a
end
def xY{F}:∀{n},(∀i,i<n->F i=0)->sumTo n F=0
 |0,_=>rfl
 |n+1,h=>by simp only[sumTo,xY (n:=n) λi a=>h i (by omega),h n (by omega)]
def IX  n :Mu.Inv n (λ_=>.out) ⟨.zero,0⟩:=by
 have a:∀(F:Mu.Pc->Nat),F .out=0->Mu.fB n (λ_=>F .out)=0:=λF b=>by rw[b];exact Mu.Bv n
 refine⟨⟨λi _=>trivial,?_,λ_=>⟨?_,?_,?_⟩,λh=>(by cases h),λ_ _ _ h=>absurd rfl h⟩,λh=>(by cases h),λi _ old sv h=>(by cases h)⟩
 . rw[a Mu.cj rfl];rfl
 . rw[a Mu.fI rfl,a Mu.cI rfl,a Mu.na rfl];rfl
 . rw[a Mu.dc rfl]
 . rw[a Mu.cH rfl,a Mu.cI rfl];rfl
def MS.start  P  (d:Bool) (n:Nat):MS P:=⟨d,.add n,0,λ_=>.idle,.none,⟨.zero,0⟩,0,0,0⟩
def IY  P   d   n :bR n (MS.start P d n):=by
 refine⟨?_,Nat.zero_le _,λh=>(by cases h),λj _ h=>(by rcases h with h|h<;>cases h),λi j _ _ h=>(by cases h),λj _ h=>(by cases h),⟨Nat.zero_le _,λh=>(by cases h)⟩,λh=>(by cases h),λh=>(by cases h),λh=>(by cases h),λk h=>(by cases h),λj _=>rfl,rfl,Nat.zero_le _,λj _=>⟨λ_=>Nat.zero_le _,λ_=>rfl⟩,⟨abx _,rfl⟩,λ_ _ j _=>rfl,IX n⟩;show 0=sumTo n (λ_=>0)+0;rw[xY λ_ _=>rfl]
structure gN where
 n:Nat
 dir:Bool
 cF:Nat
 fb:Nat
 fo:Nat
 gb:Nat
 mb:Nat
 GI:sz->Prop
 res:Nat->AV
 val:Nat->Value
 nm:C7
 ng:Pm
 hn:n<=900
 d1:cF≠fb
 d2:cF≠gb
 d3:cF≠mb
 d4:fb≠gb
 d5:fb≠mb
 d6:gb≠mb
def gN.at(A:gN)  b  (hb:0<b):bN:=⟨b,A.n,if A.dir then 0 else b+A.n,A.cF,A.fb,A.fo,A.gb,A.mb,A.GI,A.res,A.val,A.nm,A.ng,⟨hb,by split<;>simp⟩,A.hn,A.d1,A.d2,A.d3,A.d4,A.d5,A.d6⟩
def gN.xZ(A:gN)  b   hb :(A.at b hb).dir=A.dir:=by
 show((if A.dir=true then 0 else b+A.n)==0)=A.dir
 grind
def gN.rest(A:gN)(O:ak):ak:=λb=>if(A.dir=false/\b=A.cF)\/b=A.fb\/b=A.gb\/b=A.mb then none else O b
section
variable{P:adh}{Fin:acy}
def kX{w:World}{b i c e}(h:w.heap[b]?=some (.cells c e (0,0))):w.frozen? ⟨b,i,none⟩=false:=by simp[World.frozen?,h]
def mS{w:World}{b i c e v}(h:w.heap[b]?=some (.cells c e (0,0)))(a:c[i]?=some v):w.cell? ⟨b,i,none⟩=some v:=by simp[World.cell?,h,a]
def FP(A:gN)(C:gL P A.ng)(X:iF P A.ng)(CM:gq P A.nm)(XM:gu P A.nm)(F:mC P A.nm){k O g cg eg x a lp}
 (hF:A.dir=false->∃xF tm,O A.cF=some (.obj (.chan 0 #[] false xF xF tm))) (hG:O A.gb=some (.obj (.cells cg eg (0,0)))) (b8:cg[0]?=some (.int .u64 0)) (b9:cg[1]?=some (.int .u32 0)) (hL:O A.fb=some (.part lp)) (bm:lp A.fo=some (.int .i32 0)) (bw:lp (A.fo+1)=some (.int .u32 0)) (cv:A.dir=true->∀j,j<A.n->lp (A.fo+2+j)≠none) (hsl:∀  n   k   O   g gB ,ji P (λ_=>True) n g gB->Fin k O gB->Fin k O g)
 (hM:O A.mb=some x) (dj:kD k x a) (bA:A.GI a) (ht:∀b  hb ,T P (pv P (A.at b hb) Fin A.n) gM k (A.rest O) g):A9 P k O g Fin:=by
 intro W0 gs w sl t hS;have a9:∀b x,O b=some x->W0.heap.size<=b:=by obtain⟨_,_,_,_,_,_,_,_,_,h⟩:=hS;exact h
 have hb:0<gs.size:=by
  obtain⟨_,_,h0,_⟩:=hS
  grind
 obtain⟨B,J⟩:∃B,B=A.at gs.size hb:=⟨_,rfl⟩;obtain⟨lk,dm⟩:∃lk,lk=gs.size+A.n+1:=⟨_,rfl⟩;obtain⟨Z0,z1,z2,z3,z4,h0,⟨q,b0⟩,bB,R,c5⟩:=cA.start hS lk ⟨A.fb,A.fo,none⟩ (by omega)
 have z:Sat k O w:=by have:=R.sat 0;rwa [ar,ar]at this
 obtain⟨tr⟩:=T.tree (DF (P:=P) (A:=B) (Fin:=Fin) A.n) (by rw[J];exact ht gs.size hb)
 have V:(0:Nat)≠lk:=by omega
 have ab:∀i,aV O A.gb i:=λi=>.inl ⟨_,hG⟩
 have al:∀i,k.cell A.gb i=none:=λi=>by
  cases e:k.cell A.gb i with
  |none=>rfl
  |some v=>exact absurd (ab i) (z.apart _ _ _ e)
 have K:∀i,(i=A.fo\/i=A.fo+1\/(A.dir=true/\∃j,j<A.n/\i=A.fo+2+j))->aV O A.fb i:=λi D=>.inr (.inr ⟨_,hL,by grind⟩)
 have av:∀i,(i=A.fo\/i=A.fo+1\/(A.dir=true/\∃j,j<A.n/\i=A.fo+2+j))->k.cell A.fb i=none:=λi D=>by
  cases e:k.cell A.fb i with
  |none=>rfl
  |some v=>exact absurd (K i D) (z.apart _ _ _ e)
 have L:=z.obj _ _ hG;obtain⟨cl,el,S,_,b1⟩:=z.part _ _ hL
 have c6:∀b y,A.rest O b=some y->O b=some y/\(A.dir=false->b≠A.cF)/\b≠A.fb/\b≠A.gb/\b≠A.mb:=λb y h=>by
  unfold gN.rest at h
  simp_all
 obtain⟨kk,ax⟩:∃kk,kk=bT (bT (λ_=>au.bot) 0 k) lk k:=⟨_,rfl⟩
 obtain⟨OO,ay⟩:∃OO,OO=bT (bT (λ_=>ak.bot) 0 (A.rest O)) lk (ak.bot.set A.mb x):=⟨_,rfl⟩
 have aC:kk 0=k:=by rw[ax,az _ _ V,ar]
 have b2:kk lk=k:=by rw[ax,ar]
 have aE:∀i,i≠0->i≠lk->kk i=au.bot:=λi o h2=>by rw[ax,az _ _ h2,az _ _ o]
 have b3:OO 0=A.rest O:=by rw[ay,az _ _ V,ar]
 have b4:OO lk=ak.bot.set A.mb x:=by rw[ay,ar]
 have c7:∀i,i≠0->i≠lk->OO i=ak.bot:=λi o h2=>by rw[ay,az _ _ h2,az _ _ o]
 have G:∀i b y,OO i b=some y->(i=0/\O b=some y/\(A.dir=false->b≠A.cF)/\b≠A.fb/\b≠A.gb/\b≠A.mb)\/(i=lk/\b=A.mb/\y=x):=λi b y h=>by
  by_cases N:i=0
  . subst N;rw[b3]at h;grind
  . by_cases Q:i=lk
    . subst Q
      rw[b4]at h
      by_cases eb:b=A.mb
      . subst eb;simp only[ak.set,aan,kn]at h;grind
      . simp only[ak.set,aaj eb]at h;cases h
    . rw[c7 i N Q]at h;cases h
 have dr:∀i b n v,(kk i).cell b n=some v->k.cell b n=some v:=λi b n v h=>by
  by_cases N:i=0
  . grind
  . by_cases Q:i=lk
    . grind
    . rw[aE i N Q]at h;cases h
 have c9:cA Z0 kk OO (λ_=>False) (λ_=>False) w t:=by
  have h:=R.uA (u:=#[]) (w':=w) (kk':=kk) (OO':=OO) (J':=λ_=>False) (M':=λ_=>False) (λa b=>a=b\/(a=0/\b=lk)) rfl ⟨⟨.refl _,rfl⟩,λ_ _=>rfl⟩ (λb=>.inl rfl) (λop h=>by simp at h) (λi j e n y I hm hz hk=>?_) (λj b n v H=>?_) (λj b s H=>?_) (λj b y I=>?_) (λi j b y dx I=>?_)
   (λsaid=>by rw[qS];exact R.clean said) (λop M=>by simp at M) (λm op a M=>by simp at M) (λn a ha hm h=>?_)
  . grind
  . rw[qS]
    rcases e with rfl|⟨rfl,rfl⟩
    . exact hk
    . unfold Ip
      rw[z2,aal rfl,z1];obtain⟨op,M,_⟩:=touch_of I
      grind
  . by_cases N:j=0
    . subst N;rw[aC]at H;exact⟨0,.inl rfl,by rw[ar];exact H⟩
    . by_cases Q:j=lk
      . subst Q;rw[b2]at H;exact⟨0,.inr ⟨rfl,rfl⟩,by rw[ar];exact H⟩
      . rw[aE j N Q]at H;cases H
  . by_cases N:j=0
    . subst N;rw[aC]at H;exact⟨0,.inl rfl,by rw[ar];exact H⟩
    . by_cases Q:j=lk
      . subst Q;rw[b2]at H;exact⟨0,.inr ⟨rfl,rfl⟩,by rw[ar];exact H⟩
      . rw[aE j N Q]at H;cases H
  . rcases G j b y I with⟨rfl,o,_⟩|⟨rfl,rfl,rfl⟩
    . exact⟨0,.inl rfl,by rw[ar];exact o,λs W=>by rw[ar]at W;grind⟩
    . exact⟨0,.inr ⟨rfl,rfl⟩,by rw[ar];exact hM,λs W=>by rw[ar]at W;grind⟩
  . cases e:OO j b with
    |none=>rfl
    | some y'=>
      rcases G i b y I with⟨rfl,_,_,_,_,h5⟩|⟨rfl,o,_⟩
      . grind
      grind
  grind
 have ca:A.gb<w.heap.size:=(zA.1 L).1
 have f:∀i b,((A.dir=false/\b=A.cF)\/b=A.fb\/b=A.gb)->OO i b=none:=λi b hb=>by
  cases e:OO i b with
  |none=>rfl
  | some y=>
    rcases G i b y e with⟨_,_,o,h2,h3,_⟩|⟨_,o,_⟩
    . grind
    . rcases hb with⟨_,rfl⟩|rfl|rfl
      . exact absurd o A.d3
      . exact absurd o A.d5
      . exact absurd o A.d6
 have d:∀i b n,k.cell b n=none->(kk i).cell b n=none:=λi b n h=>by
  cases e:(kk i).cell b n with
  |none=>rfl
  |some v=>grind
 have hP:=c9.sS (λl=>∃c:Addr,l=.cell c/\c.spot=none/\c.block=A.gb/\(c.off=0\/c.off=1)) (λc ⟨c',e,_,o,_⟩=>by cases e;rw[o];exact⟨ca,λi=>⟨dX (f i _ (.inr (.inr rfl))),d i _ _ (al _)⟩⟩) (λr ⟨c',e,_⟩=>by cases e)
 obtain⟨Z,hZ⟩:∃Z:Base,Z=⟨λl=>Z0.Shun l\/∃c:Addr,l=.cell c/\c.spot=none/\c.block=A.gb/\(c.off=0\/c.off=1),Z0.N0,Z0.lk,Z0.la,Z0.W0⟩:=⟨_,rfl⟩
 rw[<-hZ]at hP;have aL:Z.lk=lk:=by grind
 have dy:Z.N0=t.size:=by grind
 have b5:Z.W0=W0:=by grind
 have Y:B.b+B.n+1<=Z.lk:=by rw[aL,J];show gs.size+A.n+1<=lk;omega
 have U:∀m b,touchAt t m=some b->b.loc.isMemory=true->b.kind≠.atomic->Knows t 0 m:=λm b hb hm hk=>by grind
 have a7:∀l,yY B l->l.isMemory=true:=λl hl=>by cases l<;>first|rfl|exact hl.elim
 have a8:∀i,bU P B (MS.start P A.dir A.n) i↔i=0:=λi=>by
  constructor
  . rintro(h|⟨l,o,_⟩|⟨_,o⟩)
    . exact h
    . exact absurd o (Nat.not_lt_zero _)
    . exact absurd rfl o
  . exact λh=>.inl h
 have cb:w.cell? ⟨A.gb,0,none⟩=some (.int .u64 (eE (0:Nat) 0)):=by rw[show eE ((0:Nat):Int) 0=0 by simp[eE]];exact mS L b8
 have E:B.dir=A.dir:=by rw[J];exact A.xZ _ _
 have cm:cZ P B Z (MS.start P A.dir A.n) kk OO (λ_=>False) (λ_=>False) gs.size w t:=by
  have cr:B.fo=A.fo/\B.fb=A.fb/\B.n=A.n:=by rw[J];exact⟨rfl,rfl,rfl⟩
  rw[J]at a8 a7 E cr ⊢
  refine⟨IY P A.dir A.n,rfl,E.symm,⟨λ_ h=>absurd rfl h,λ_=>by simp[MS.start],λ_=>by simp[MS.start]⟩,λhd j hj=>⟨λ_=>⟨λi=>d i _ _ (av _ (.inr (.inr ⟨E ▸ hd,j,hj,rfl⟩))),λm a ad ha _ _=>?_⟩,λh=>(by cases h)⟩,λhd=>?_,⟨mS S (b1 _ _ bm),mS S (b1 _ _ bw),λi=>kX S⟩,⟨cb,mS L b9,λi=>kX L⟩,⟨_,_,S⟩,⟨_,_,L⟩,λi=>⟨λhd=>f i _ (.inl ⟨E ▸ hd,rfl⟩),f i _ (.inr (.inr rfl))⟩,
   λi=>⟨d i _ _ (av _ (.inl rfl)),d i _ _ (av _ (.inr (.inl rfl))),d i _ _ (al _),d i _ _ (al _)⟩,λi y I=>?_,λj _ h=>(by cases h),λ_=>⟨x,a,?_,?_,bA⟩,λc hc=>⟨?_,λj _=>rfl⟩,λi=>⟨λh=>h.elim,?_⟩,λp hp=>hp.elim,λh=>(by cases h),λm b hb W hk i D=>?_,λm b hb W hk=>?_,λi D m b hm hb b6 hz=>?_,λm c hm h=>?_,λi o h2=>?_,λl hl h=>?_,λc hc h=>?_,by rw[b5];exact⟨λhd=>(by obtain⟨_,_,h⟩:=hF (E ▸ hd);exact a9 _ _ h),a9 _ _ hL,a9 _ _ hG⟩,?_,?_⟩
  . obtain⟨op,M,_⟩:=touch_of ha
    grind
  . obtain⟨xF,tm,h⟩:=hF (E ▸ hd)
    exact⟨xF,tm,z.obj _ _ h⟩
  . have I:OO i A.fb=some y:=I
    rw[f i A.fb (.inr (.inl rfl))]at I;cases I
  . show OO Z.lk A.mb=some x
    rw[aL,b4];simp[ak.set]
  . grind
  . rw[aL]at hc
    cases e:OO lk c with
    |none=>grind
    | some y=>
      rcases G lk c y e with⟨h,_⟩|⟨_,h,_⟩
      . omega
      . exact h
  . rintro(⟨j,_,_,h⟩|⟨_,h⟩)<;>cases h
  . grind
  . exact U m b hb (a7 _ W) (by grind)
  . rw[(a8 i).1 D]
    rcases c5 m b hb b6 with h|⟨h,_⟩
    . exact h
    . exact absurd (by rw[hZ];exact .inl h) hz
  . have:=lt_of_act? h
    omega
  . grind
  . obtain⟨c,rfl,b7⟩:=h
    obtain⟨W,hl⟩:=hl;rw[hZ];refine .inr ⟨c,rfl,W,b7,?_⟩
    rcases hl with⟨o,_⟩|⟨_,h2⟩
    . exact absurd (b7.symm.trans o).symm A.d4
    . exact h2
  . rw[hZ]at h
    rcases h with h|⟨c',e,_,h,_⟩
    . have:=(R.lL c h).2 0
      rw[ar]at this;exact this.1 (by rw[hc.1];exact K _ (hc.2.imp id (·.imp id λh=>⟨E ▸ h.1,h.2⟩)))
    grind
  . grind
  omega
 have e7:B.b=gs.size:=by rw[J];rfl
 have aO:∀i,i≠0 -> ¬dD P B (MS.start P A.dir A.n) i/\¬gy P B (MS.start P A.dir A.n) i/\¬fq P B (MS.start P A.dir A.n) i:=λi D=>by
  refine⟨?_,?_,?_⟩
  . rintro(⟨h,_⟩|⟨_,_,_,h⟩|⟨_,h⟩)
    . exact D h
    . exact h
    . exact h
  . rintro(⟨h,_⟩|⟨_,_,_,h⟩|⟨_,h⟩)
    . exact D h
    . exact h
    . exact h
  . rintro(⟨h,_⟩|⟨_,_,_,h⟩)
    . exact D h
    . cases h
 have hC:bG (cd P B Fin Z Y) Z (MS.start P A.dir A.n) (λ_=>⟨_,_,_,_,tr⟩) q kk OO (λ_=>False) (λ_=>False) gs w t:=by
  refine⟨rfl,hP,λi hl=>?_,λi hw=>?_,λi hh=>?_,λi y I n1 n2 n3=>?_,b0.above,cm⟩
  . have D:i=0:=aaY λh=>(aO i h).1 hl
    subst D;exact⟨by show 0<B.b+B.n+1;omega,h0,(by show pv P B Fin A.n=cD P B Fin (MS.start P A.dir A.n) 0;rfl),aC.symm,b3.symm,tr.running,bB,.inl rfl,Dz⟩
  . have D:i=0:=aaY λh=>(aO i h).2.1 hw
    subst D;exact absurd hw (Ah (s:=MS.start P A.dir A.n) (m:=A.n) rfl rfl)
  . have D:i=0:=aaY λh=>(aO i h).2.2 hh
    subst D;exact absurd hh (mP (by simp[MS.start]))
  . have D:i≠0:=λe=>n1 (by subst e;exact qe (s:=MS.start P A.dir A.n) (m:=A.n) rfl)
    exact⟨D,b0.old i y (by omega) I⟩
 rw[<-b5];exact L7 (by rw[J];exact C) (by rw[J];exact X) (by rw[J];exact CM) (by rw[J];exact XM) (by rw[J];exact F) hsl Y hC sl
end

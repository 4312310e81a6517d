import Derived.Conc.TokenTrace
import Derived.Test.YtkcceaplmgdnfaaGreatDoorC20
set_option linter.all false
namespace Go.bQ
section
open Go.Conc
open Go.ConcN (sumTo upd sumTo_upd upd_ne upd_same)
section
variable{P:acD}{A:qW P}{Z:Base}{s s':A.S}{f f':Nat->Node P}{q q':acs}{kk kk':acy}{OO OO':acx}{J J' M M':ack}{gs gs':abH}{w w':World}{t u:Trace}
structure Aside(A:qW P)(s s':A.S)(f f':Nat->Node P)(q q':acs)(kk kk':acy)(OO OO':acx)(J J':ack)(S:ack):Prop where
 ef:∀j,¬S j->f' j=f j
 eq:∀j,¬S j->q' j=q j
 ek:∀j,¬S j->j<A.top->kk' j=kk j
 eO:∀j,¬S j->j<A.top->OO' j=OO j
 eJ:∀j,¬S j->A.Live s j->J j->J' j
 live:∀j,¬S j->(A.Live s' j↔A.Live s j)
 walk:∀j,¬S j->(A.Walk s' j↔A.Walk s j)
 held:∀j,¬S j->(A.oe s' j↔A.oe s j)
 mo:∀j,¬S j->A.Live s j->A.mo s' j=A.mo s j
 at':∀j k O x,¬S j->A.Walk s j->A.At s j k O x->A.At s' j k O x
 deaf:∀j,¬S j->A.Walk s j->A.deaf s' j=A.deaf s j
 zM:∀j,¬S j->A.Walk s j->A.zM s j->A.zM s' j
 Su:∀j k O x,¬S j->A.oe s j->A.EO s j k O x->A.EO s' j k O x
 tie:∀j x,¬S j->A.Live s j->A.Oo s j x->A.Oo s' j x
theorem bF.H9(m:bF A Z s f q kk OO J M gs w t)(K:ku u)(L:cA Z kk' OO' J' M' w' (t++u))(C:A.Ex s' kk' OO' J' M' gs'.size w' (t++u))(D:gs.size<=gs'.size)(S:ack)(E:∀i,¬S i->gs'[i]?=gs[i]?)
 (a:Aside A s s' f f' q q' kk kk' OO OO' J J' S) (v:∀i,S i->∃n,gs'[i]?=some n/\Self P A s' f' q' kk' OO' J' (t++u) i n):bF A Z s' f' q' kk' OO' J' M' gs' w' (t++u):=by
 have y:∀j,Deaf (t++u) j=Deaf t j:=λj=>cj K j
 refine⟨m.lk,L,λj c=>?_,λj c=>?_,λj c=>?_,λj x z F G H=>?_,λj c=>by rw[y];exact m.above j (KD D c),C⟩
 . by_cases e:S j
   . obtain⟨n,B,l⟩:=v j e
     obtain⟨d,g,k⟩:=l.live c
     simp_all
   . have b:=(a.live j e).1 c
     obtain⟨d,g,pm,k,p,r,o,I⟩:=m.live j b;rw[a.ef j e,a.ek j e d,a.eO j e d,y j,a.mo j e b,E j e];exact⟨d,g,pm,k,p,r,o,I.1.imp id (a.eJ j e b),a.tie j _ e b I.2⟩
 . by_cases e:S j
   . obtain⟨n,B,l⟩:=v j e
     obtain⟨d,g,k,V,p,r⟩:=l.walk c
     grind
   . have b:=(a.walk j e).1 c
     obtain⟨d,g,k,x,N,p,r,o⟩:=m.walk j b;refine⟨λh=>d ((a.live j e).1 h),g,by rw[y j,a.deaf j e b];exact k,x,N,by simp_all,?_,?_⟩
     . rw[a.ek j e g,a.eO j e g];exact a.at' j _ _ _ e b r
     . rw[a.eq j e]
       rcases o with⟨O,Q,R⟩|o
       . exact .inl ⟨a.zM j e b O,Q,R⟩
       . exact .inr o
 . by_cases e:S j
   . obtain⟨n,B,l⟩:=v j e
     obtain⟨d,g,k,p,r,o⟩:=l.held c
     simp_all
   . have b:=(a.held j e).1 c
     obtain⟨d,g,k,p,x,W,T,U⟩:=m.held j b;refine⟨λh=>d ((a.live j e).1 h),λh=>g ((a.walk j e).1 h),k,by simp_all,x,by simp_all,T,?_⟩;rw[a.ek j e k,a.eO j e k];exact a.Su j _ _ _ e b U
 . by_cases e:S j
   . obtain⟨n,B,l⟩:=v j e
     rw[B]at z;obtain rfl:=ZM z;exact l.rest F G H
   . rw[a.eq j e,y j]
     rw[E j e]at z;exact m.rest j x z (λh=>F ((a.live j e).2 h)) (λh=>G ((a.walk j e).2 h)) (λh=>H ((a.held j e).2 h))
theorem bF.quiet(B:zN A)(a:bF A Z s f q kk OO J M gs w t){i:Nat}{x:aco}(d:gs[i]?=some x)(n:¬A.oe s i)(c:Nat)(b:Bool):offersAt x c b=[]:=by
 by_cases g:A.Live s i
 . obtain⟨_,j,_,_,_,k,_⟩:=a.live i g
   rw[d]at j;obtain rfl:=ZM j;exact offersAt_of_not_blocked (by simp_all) _ _
 by_cases l:A.Walk s i
 . obtain⟨_,_,_,y,o,m,k,e⟩:=a.walk i l
   rw[d]at m;obtain rfl:=ZM m;obtain⟨p,r⟩:=B.kJ k;rcases e with⟨_,rfl,_⟩|e
   . show offersAt (blk o) c b=[]
     unfold offersAt blk
     simp_all
   . exact offersAt_of_not_blocked (by rw[e.first p];decide) _ _
 . have h:=(a.rest i x d g l n).2
   refine offersAt_of_not_blocked ?_ _ _;rcases h.status with h|h<;>rw[h]<;>decide
end
section
variable{P:acD}{A:bJ}{Fin:abz}{Z:Base}{s s':MS P}{f f':Nat->Node P}{q q':acs}{kk kk':acy}{OO OO':acx}{J J' M M':ack}{gs gs':abH}{w w':World}{t u:Trace}{i:Nat}
structure ia{P:acD}(A:bJ)(s s':MS P)(S:ack):Prop where
 w:∀l,l<A.n -> ¬S (A.b+l)->s'.w l=s.w l
 c:¬S A.cl->s'.c=s.c
 ms:¬S 0->s'.ms=s.ms/\MS.rem P A.n s'=MS.rem P A.n s
 sh:s'.sh.ms=s.sh.ms
 gm:s'.gm=s.gm
variable{S:ack}
theorem ia.live(h:ia A s s' S){j:Nat}(hj:¬S j):dA P A s' j↔dA P A s j:=by
 constructor<;>rintro(⟨b,a⟩|⟨l,a,d,e⟩|⟨b,a⟩)
 . subst b;exact .inl ⟨rfl,by rw[<-(h.ms hj).1];exact a⟩
 . subst d;exact .inr (.inl ⟨l,a,rfl,by rw[<-h.w l a hj];exact e⟩)
 . subst b;exact .inr (.inr ⟨rfl,by rw[<-h.c hj];exact a⟩)
 . subst b;exact .inl ⟨rfl,by rw[(h.ms hj).1];exact a⟩
 . subst d;exact .inr (.inl ⟨l,a,rfl,by rw[h.w l a hj];exact e⟩)
 . subst b;exact .inr (.inr ⟨rfl,by rw[h.c hj];exact a⟩)
theorem ia.walk(h:ia A s s' S){j:Nat}(hj:¬S j):gu P A s' j↔gu P A s j:=by
 constructor<;>rintro(⟨b,a⟩|⟨l,a,d,e⟩|⟨b,a⟩)
 . subst b;exact .inl ⟨rfl,by rw[<-(h.ms hj).1];exact a⟩
 . subst d;exact .inr (.inl ⟨l,a,rfl,by rw[<-h.w l a hj];exact e⟩)
 . subst b;exact .inr (.inr ⟨rfl,by rw[<-h.c hj];exact a⟩)
 . subst b;exact .inl ⟨rfl,by rw[(h.ms hj).1];exact a⟩
 . subst d;exact .inr (.inl ⟨l,a,rfl,by rw[h.w l a hj];exact e⟩)
 . subst b;exact .inr (.inr ⟨rfl,by rw[h.c hj];exact a⟩)
theorem ia.held(h:ia A s s' S){j:Nat}(hj:¬S j):fq P A s' j↔fq P A s j:=by
 constructor<;>rintro(⟨b,a⟩|⟨l,a,c,d⟩)
 . subst b;exact .inl ⟨rfl,by rw[<-(h.ms hj).1];exact a⟩
 . subst c;exact .inr ⟨l,a,rfl,by rw[<-h.w l a hj];exact d⟩
 . subst b;exact .inl ⟨rfl,by rw[(h.ms hj).1];exact a⟩
 . subst c;exact .inr ⟨l,a,rfl,by rw[h.w l a hj];exact d⟩
theorem lf(B:A.b+A.n+1<=Z.lk)(d:ia A s s' S)(C:∀j,¬S j->f' j=f j)(D:∀j,¬S j->q' j=q j)(E:∀j,¬S j->j<A.b+A.n+1->kk' j=kk j)(F:∀j,¬S j->j<A.b+A.n+1->OO' j=OO j)(G:∀j,¬S j->dA P A s j->J j->J' j):
 Aside (bY P A Fin Z B) s s' f f' q q' kk kk' OO OO' J J' S:=by
 have hb:=A.hb;refine⟨C,D,E,F,G,λj a=>d.live a,λj a=>d.walk a,λj a=>d.held a,λj a H=>?_,λj k O y a _ v=>?_,λj a x=>?_,λj a x hd=>?_,λj k O y a _ v=>?_,λj y a _ I=>?_⟩
 . show ck P A Fin s' j=ck P A Fin s j
   unfold ck;by_cases p:j=0
   . subst p
     simp only[if_true,(d.ms a).1,(d.ms a).2]
   rcases H with⟨g,_⟩|⟨l,i,m,_⟩|⟨g,_⟩
   . omega
   . subst m
     have e:A.b+l-A.b=l:=by omega
     have r:¬A.b+l=0:=by omega
     have t:A.b+l<A.b+A.n:=by omega
     simp only[if_neg r,if_pos t,e,d.w l i a]
   . have t:¬j<A.b+A.n:=by omega
     simp only[if_neg p,if_neg t,d.c (g ▸ a)]
 . rcases v with⟨g,h⟩|⟨l,i,m,o⟩|⟨g,h⟩
   . subst g;exact .inl ⟨rfl,by rw[(d.ms a).1];exact h⟩
   . subst m;exact .inr (.inl ⟨l,i,rfl,by rw[d.w l i a];exact o⟩)
   . subst g;exact .inr (.inr ⟨rfl,by rw[d.c a];exact h⟩)
 . show dL P A s' j=dL P A s j
   unfold dL;rcases x with⟨g,L⟩|⟨l,i,m,_⟩|⟨g,_⟩
   . subst g
     rw[if_pos rfl,if_pos rfl,(d.ms a).1]
     grind
   . subst m
     have e:A.b+l-A.b=l:=by omega
     have r:¬A.b+l=0:=by omega
     have t:A.b+l<A.b+A.n:=by omega
     simp only[if_neg r,if_pos t,e,d.w l i a]
   . have K:=d.c (g ▸ a)
     by_cases r:j=0
     . subst r
       simp only[if_true,(d.ms a).1,K]
     simp_all
 . rcases hd with⟨l,sv,Y,i,m,o,u⟩|⟨g,o,u⟩
   . subst m;exact .inl ⟨l,sv,Y,i,rfl,by rw[d.w l i a];exact o,by rw[d.sh];exact u⟩
   . subst g;exact .inr ⟨rfl,by rw[d.c a];exact o,by rw[d.gm];exact u⟩
 . rcases v with⟨g,g₂,z,i,m,o,u⟩|h
   . subst g;exact .inl ⟨rfl,g₂,z,i,m,o,by rw[(d.ms a).2];exact u⟩
   . exact .inr h
 . exact λl b X i m o=>I l b X i m (by subst m;rw[<-o];exact(d.w l i a).symm)
theorem vg(c:A.b+A.n+1<=Z.lk)(d:bF (bY P A Fin Z c) Z s f q kk OO J M gs w t){x:aco}(e:gs[i]?=some x)(h:s.ms≠.parked\/i≠0):offersAt x A.cF false=[]:=by
 have B:=bd (P:=P) (A:=A) (Fin:=Fin) (Z:=Z) c;have hb:=A.hb;by_cases a:fq P A s i
 . obtain⟨_,_,_,_,y,g,r,m⟩:=d.held i a
   rw[e]at g;obtain rfl:=ZM g;rcases m with⟨u,_⟩|⟨j,k,o,g₂,z,v,p,_⟩
   . rcases a with⟨_,k⟩|⟨l,k,o,_⟩
     . simp_all
     . omega
   . rw[p,offersAt_parked_send']
 . exact d.quiet B e a _ _
theorem vh(d:A.b+A.n+1<=Z.lk)(e:bF (bY P A Fin Z d) Z s f q kk OO J M gs w t){x:aco}(g:gs[i]?=some x)(h:∀j,j<A.n->i=A.b+j->s.w j≠.wait)(r:Nat):offersAt x r true=[]:=by
 have B:=bd (P:=P) (A:=A) (Fin:=Fin) (Z:=Z) d;have hb:=A.hb;by_cases a:fq P A s i
 . obtain⟨_,_,_,_,y,k,o,m⟩:=e.held i a
   rw[g]at k;obtain rfl:=ZM k;rcases m with⟨p,g₂,z,c,_⟩|⟨j,u,v,_⟩
   . rw[c,offersAt_parked_recv']
   . rcases a with⟨c,_⟩|⟨l,c,C,D⟩
     . omega
     simp_all
 . exact e.quiet B g a _ _
theorem oy{i:Nat}{c:Nat}{b:Bool}(h:∀(j:Nat) (g:aco),j≠i->gs[j]?=some g->offersAt g c b=[]):partners (gs.setIfInBounds i ph) c b=[]:=
 partners_nil λj g a=>by
  rcases getElem?_stand gs i j g a with⟨_,rfl⟩|⟨d,a⟩
  . exact offersAt_ph ..
  grind
end
section
variable{Z:Base}{kk:acy}{OO:acx}{J J' M M':ack}{w w':World}{t u:Trace}
theorem cA.hand(h:cA Z kk OO J M w t){src dst:Nat}(k:src≠Z.lk)(l:dst≠Z.lk)(o:∀n,Knows t src n->Knows (t++u) dst n)(q:∀op∈u,op.act.touch?=none)(r:∀op∈u,op.act.low w.heap.size)(z:w'.heap.size=w.heap.size)(A:Calm Z w w')(hb:∀b,Kept kk OO w w' b)
 (f:∀n a,touchAt t n=some a->a.loc.isMemory=true->((∃j,J j/\Knows t j n)\/(∃p,M p/\Before t n p))->Told Z J' M' (t++u) n a):
 cA Z (bS kk dst ((kk dst).join (kk src))) OO J' M' w' (t++u):=by
 refine h.tR (λa b=>a=b\/(a=src/\b=dst)) z A hb r (λa b e n y _ _ _ d=>?_) (λj b n v c=>?_) (λj b s c=>?_) (λj b x B=>⟨j,.inl rfl,B,λs i=>?_⟩) h.jl
  (λsaid=>?_) (λop g a f=>by simp_all) (λm op a g f=>by grind) f
 . rcases e with rfl|⟨rfl,rfl⟩
   . exact d.app u
   . exact(od l).2 (o n ((od k).1 d))
 . by_cases e:j=dst
   . subst e
     rw[ao]at c;rcases ah.nD c with c|c
     . simp_all
     simp_all
   . rw[au _ _ e]at c;simp_all
 . by_cases e:j=dst
   . subst e
     rw[ao]at c;rcases ah.Gq c with c|c
     . simp_all
     simp_all
   . rw[au _ _ e]at c;simp_all
 . by_cases e:j=dst
   . subst e;rw[ao];exact(ah.sx _ _).sh b s i
   . rw[au _ _ e];exact i
 . exact noRace_appendMute (h.clean said) q
end
end
section
open Go.Conc
open Go.ConcN (sumTo upd sumTo_upd upd_ne upd_same)
variable{P:acD}
def MS.kF(s:MS P)(j:Nat)(x:bn P)(m1:om)(sp1:Nat):MS P:={s with w:=λi=>if i=j then x else s.w i,ms:=m1,sp:=sp1}
section
variable{s:MS P}{j n:Nat}{x:bn P}{m1:om}{sp1:Nat}
theorem fy:(s.kF j x m1 sp1).w j=x:=by simp[MS.kF]
theorem ju{i:Nat}(h:i≠j):(s.kF j x m1 sp1).w i=s.w i:=by simp[MS.kF,h]
theorem O0:(λi=>((s.kF j x m1 sp1).w i).pc)=Mu.set (λi=>(s.w i).pc) j x.pc:=by
 funext i;by_cases h:i=j
 . subst h;rw[fy,Mu.ak]
 . rw[ju h,Mu.ai _ _ h]
theorem Da(F:bn P->Nat)(hj:j<n):sumTo n (λi=>F ((s.kF j x m1 sp1).w i))+F (s.w j)=sumTo n (λi=>F (s.w i))+F x:=by
 have e:(λi=>F ((s.kF j x m1 sp1).w i))=upd (λi=>F (s.w i)) j (F x):=by
  funext i;by_cases h:i=j
  . subst h;rw[fy,upd_same]
  . rw[ju h,upd_ne _ _ h]
 rw[e];have:=sumTo_upd (λi=>F (s.w i)) (F x) id hj
 simp_all
theorem bO.kF(I:bO n s)(hj:j<n)(E:x.cnt+m1.pend=(s.w j).cnt+s.ms.pend)(g:(s.w j).last=false)(d:x.last=false)(v:s.w j≠.gone)(m:x.ok=true)(o:x.pc=(s.w j).pc)(hi:x.jq=false)
 (k:(sp1=s.sp/\(s.w j).jq=false)\/(sp1=s.sp+1/\j=s.sp)) (y:x.iF=true->s.c≠.none)
 (q:match (generalizing:=false) m1 with
   |.add l=>sp1+l=n/\s.c=.none
   |.bu l p=>sp1+l=n/\s.c=.none/\1<=l/\(p=.a0\/p=.a2\/p=.a4\/p=.ae)
   |.spawn l=>sp1+l+1=n/\s.c=.none
   |.recv=>sp1=n/\s.c≠.none
   |.parked=>sp1=n/\s.c≠.none/\s.c≠.gone/\∀i,i<n->(s.kF j x m1 sp1).w i≠.wait
   |.off=>sp1=n/\s.c≠.none):bO n (s.kF j x m1 sp1):=by
 have t:=Da (s:=s) (x:=x) (m1:=m1) (sp1:=sp1) bn.cnt hj
 have f:∀{i:Nat},((s.kF j x m1 sp1).w i).last=(s.w i).last:=λ{i}=>by
  by_cases e:i=j
  . subst e;rw[fy,g,d]
  . rw[ju e]
 have dn:∀{i:Nat}{p:vS},(p=.d5\/p=.d6\/p=.d7)->((s.kF j x m1 sp1).w i=.dn p↔s.w i=.dn p):=λ{i p} u=>by
  by_cases e:i=j
  . subst e
    rw[fy];constructor<;>intro h
    . rw[h]at d;rcases u with rfl|rfl|rfl<;>cases d
    . rw[h]at g;rcases u with rfl|rfl|rfl<;>cases g
  . rw[ju e]
 refine⟨?_,I.g2,I.Ev,λi hi h=>?_,λi l hi g h b=>?_,λi hi h=>?_,⟨I.g5.1,λh=>?_⟩,λh b r=>?_,λh b=>?_,λh=>?_,I.g9,λi a=>?_,I.Sr,?_,λi a=>?_,q,λhd h i a=>?_,?_⟩
 . have:=I.g1
   show s.gc=sumTo n (λi=>((s.kF j x m1 sp1).w i).cnt)+m1.pend;omega
 . exact I.g3 i hi (h.imp (dn (.inl rfl)).1 (dn (.inr (.inl rfl))).1)
 . rw[f]at h b;exact I.GM i l hi g h b
 . exact I.g4 i hi ((dn (.inr (.inr rfl))).1 h)
 . obtain⟨z,A,B,F⟩:=I.g5.2 h
   exact⟨z,A,B,λi hi=>by simp_all⟩
 . obtain⟨i,hi,C⟩:=I.g6 h b r
   grind
 . obtain⟨i,hi,C⟩:=I.g7 h b
   grind
 . exact absurd ((I.g8 h).2.2.2 j hj) v
 . by_cases e:i=j
   . subst e;rw[fy];exact m
   . rw[ju e];exact I.ok i a
 . have:=I.sp
   show sp1<=n;omega
 . show ((s.kF j x m1 sp1).w i).jq=true↔sp1<=i
   by_cases e:i=j
   . subst e
     rw[fy,hi];rcases k with⟨h,b⟩|⟨h,b⟩
     . have:=I.idle i a
       simp_all
     simp_all
   . rw[ju e]
     rcases k with⟨h,b⟩|⟨h,b⟩
     . rw[h];exact I.idle i a
     . rw[I.idle i a];omega
 . by_cases e:i=j
   . subst e;rw[fy]
     cases D:x.iF with
     |false=>rfl
     |true=>exact absurd h (y D)
   . rw[ju e];exact I.early hd h i a
 . rw[O0,o,js (λi=>(s.w i).pc)];exact I.mu
theorem uq(hj:j<n)(h:x.cx+m1.cx<(s.w j).cx+s.ms.cx):MS.gg n (s.kF j x m1 sp1) s:=by
 have:=Da (s:=s) (x:=x) (m1:=m1) (sp1:=sp1) bn.cx hj;refine .inl ?_;show m1.cx+sumTo n (λi=>((s.kF j x m1 sp1).w i).cx)+s.c.cx s.gc<s.ms.cx+sumTo n (λi=>(s.w i).cx)+s.c.cx s.gc;omega
end
section
variable{A:bJ}{Z:Base}{s s':MS P}{kk kk':acy}{OO:acx}{J J' M:ack}{gsz gsz':Nat}{w w':World}{t u:Trace}
theorem c8.chan(h:c8 P A Z s kk OO J M gsz w t)(hI:bO A.n s')(I:vH P A s')(T:s'.d=s.d)(D:A.dir=true->∀l,l<A.n->(s'.w l).iv=(s.w l).iv/\kk' (A.b+l)=kk (A.b+l)\/(s'.w l).rel=false/\(s.w l).iv=false)(G:gsz'=A.b+s'.sp+(if s'.c.isNone||A.dir then 0 else 1))(U:A.dir=false->∃x tm,w'.heap[A.cF]?=some (.chan 0 #[] s'.c.ez x x tm))(j:∀b,b≠A.cF->w'.heap[b]?=w.heap[b]?)
 (V:s'.sh=s.sh) (W:s'.gc=s.gc) (X:s'.gv=s.gv) (Y:s'.gm=s.gm) (K:∀l,l<A.n->(s'.w l).owns=(s.w l).owns) (a9:∀i b n v,(kk' i).cell b n=some v->∃l,(kk l).cell b n=some v) (L:kk' Z.lk=kk Z.lk)
 (a7:∀i,J' i↔dU P A s' i) (z:s'.c=s.c\/(s.c=.none/\(s'.c=.er\/∃q,s'.c=.wt q)/\∀m,Knows t 0 m->Knows (t++u) A.cl m)) (hu:∀op∈u,op.act.touch?=none/\∀a,op.act≠.mark (.release a))
 (E:∀i,bT P A s' i->bT P A s i\/(∀m,Knows t 0 m->Knows (t++u) i m)) (N:∀i,i≠Z.lk -> ¬bT P A s' i->kk' i=ah.bot/\OO i=aj.bot):
 c8 P A Z s' kk' OO J' M gsz' w' (t++u):=by
 have k:∀{m:Nat}{a:Touch},touchAt (t++u) m=some a->touchAt t m=some a:=λ{m a} r=>by
  rcases dR r with⟨o,_⟩|⟨op,O,o⟩
  . exact o
  simp_all
 have g:∀i b n,(∀l,(kk l).cell b n=none)->(kk' i).cell b n=none:=λi b n hn=>by
  cases e:(kk' i).cell b n with
  |none=>rfl
  |some v=>grind
 have H:s'.c=.gone->s.c=.gone:=λe=>by simp_all
 refine⟨hI,G,T.trans h.dd,I,λhd l B=>⟨λQ=>?_,λhr=>?_⟩,U,by rw[V];exact h.mu.same (.of_heap (j _ (za A.d1))),by rw[W,X,Y];exact h.gr.same (.of_heap (j _ (za A.d2))),by rw[j _ (za A.d1)];exact h.vd,by rw[j _ (za A.d2)];exact h.yZ,h.gy,
  λi=>⟨g i _ _ λl=>(h.eu l).1,g i _ _ λl=>(h.eu l).2.1,g i _ _ λl=>(h.eu l).2.2.1,g i _ _ λl=>(h.eu l).2.2.2⟩,λi y hy=>?_,λl B a8=>h.y7 l B (by simp_all),λa8=>?_,λc z=>?_,
  a7,λp hp=>?_,λz=>h.mE u (H z),λm a r R S i hi=>?_,λm a r R S=>?_,λi hi m a hm r F hz=>?_,h.jr u (λop O=>(hu op O).2),N,h.sA,h.jQ,h.eY,h.la,by simp;exact KD h.n0 (aah _ _)⟩
 . have Q:(s.w l).iv=false:=(D hd l B).elim (λe=>e.1 ▸ Q) (·.2)
   exact⟨λi=>g i _ _ ((h.yL hd l B).1 Q).1,λm a ad r=>((h.yL hd l B).1 Q).2 m a ad (k r)⟩
 . rcases D hd l B with⟨e1,e2⟩|⟨e,_⟩
   . rw[e2];exact(h.yL hd l B).2 (by rw[bn.rel,<-e1,<-K l B];exact hr)
   simp_all
 . obtain⟨l,f,h3,h4,h5,h6⟩:=h.tok i y hy
   exact⟨l,f,h3,h4,by grind,h6⟩
 . rw[L];exact h.N3 λl B=>by simp_all
 . obtain⟨h3,h4⟩:=h.N4 c z
   simp_all
 . obtain⟨o,h2,h3⟩:=h.vf u p hp
   grind
 . rcases E i hi with o|o
   . exact(h.quiet m a (k r) R S i o).app u
   . exact o m (h.quiet m a (k r) R S 0 (.inl rfl))
 . have h0:=h.said m a (k r) R S
   rcases z with z|⟨z,C,o⟩
   . rw[z];exact h0.app u
   . rw[z]at h0
     rcases C with C|⟨_,C⟩<;>rw[C]<;>exact o m h0
 . have al:m<t.size:=ZO hm h.n0
   rcases E i hi with o|o
   . exact(h.old i o m a hm (k r) F hz).app u
   . exact o m (h.old 0 (.inl rfl) m a hm (k r) F hz)
end
end
open Go.Conc
open Go.ConcN (sumTo upd sumTo_upd upd_ne upd_same)
section
variable{P:acD}{A:bJ}{Fin:abz}{Z:Base}{s s':MS P}{f f':Nat->Node P}{q q':acs}{kk kk':acy}{OO OO':acx}{J J' M M':ack}{gs gs':abH}{w w':World}{t u:Trace}{j:Nat}{g g₂:aco}{z v:Value}
theorem sP{l:Nat}:l∈MS.rem P A.n s↔l<A.n/\(s.w l).iF=false:=by
 unfold MS.rem
 grind
theorem O3{m1:om}{sp1:Nat}(hj:j<A.n)(h:(s.w j).iF=false):MS.rem P A.n (s.kF j .yJ m1 sp1)=(MS.rem P A.n s).erase j/\(MS.rem P A.n s).length=(MS.rem P A.n (s.kF j .yJ m1 sp1)).length+1:=by
 have e:MS.rem P A.n (s.kF j .yJ m1 sp1)=(MS.rem P A.n s).erase j:=by
  unfold MS.rem;rw[List.Nodup.erase_eq_filter (List.Nodup.sublist List.filter_sublist List.nodup_range),List.filter_filter];refine aaA λi _=>?_
  by_cases a:i=j
  . subst a;rw[fy];simp[bn.iF]
  . rw[ju a];simp[a]
 refine⟨e,?_⟩;have b:j∈MS.rem P A.n s:=sP.2 ⟨hj,h⟩
 grind
theorem xy(hj:j<A.n)(e:s.w j=.wait):¬dA P A s (A.b+j):=by
 have:=A.hb;rintro(⟨e,_⟩|⟨l,a,c,d⟩|⟨e,_⟩)
 . omega
 . simp_all
 . omega
theorem oz(hj:j<A.n)(e:s.w j=.wait\/s.w j=.yJ):¬gu P A s (A.b+j):=by
 have:=A.hb;rintro(⟨e,_⟩|⟨l,a,c,d⟩|⟨e,_⟩)
 . omega
 . grind
 . omega
theorem xz(hj:j<A.n)(e:s.w j=.yJ):ck P A Fin s (A.b+j)=kP P A:=by
 have:=A.hb;unfold ck
 grind
theorem fL(g:Nat)(fn:FuncId)(pos:String):MemOp.ofEvents g fn pos #[]=#[]:=by rw[ofEvents_eq];simp
theorem qz(t:Trace):t++(#[]:Trace)=t:=by simp
theorem Db:ku #[]:=λop h=>by simp at h
theorem O4(E:A.b+A.n+1<=Z.lk)(k:A.dir=false)(C:bF (bY P A Fin Z E) Z s f q kk OO J M gs w t)(hj:j<A.n){W:Node P}(o:s.w j=.run false W)(X:s.ms≠.parked)(S:gs[A.b+j]?=some g)
 (Y:∀w,Sat (kk (A.b+j)) (OO (A.b+j)) w->stepG P false g w=.comm g₂ #[scase A.cF v z] true .send w #[]) (hO:OO (A.b+j) A.fb=none) (hv:V (kk (A.b+j)) v (A.res j)) (ht:T P (kP P A) gN (kk (A.b+j)) (OO (A.b+j)) (Go.Conc.served g₂ undef)) (sl:abC):
 Goes P A Fin Z E s gs w t sl (A.b+j):=by
 have m:c8 P A Z s kk OO J M gs.size w t:=C.ex;have hb:=A.hb;have F:(A.b+j==0)=false:=by simp;omega
 obtain⟨c,tm,U⟩:=m.zT k
 have G:s.c.ez=false:=by
  cases e:s.c with
  |gone=>have:=(m.I.g8 (by rw[e];rfl)).2.2.2 j hj;simp_all
  |_=>rfl
 rw[G]at U;have H:=(Array.getElem?_eq_some_iff.1 S).1;obtain⟨_,_,_,_,_,_,hd,_⟩:=C.live _ (kg hj o)
 have K:∀L∈(#[scase A.cF v z]:Array CommCase),NoWays w (gs.setIfInBounds (A.b+j) ph) L:=λL a7=>by
  have:L=scase A.cF v z:=by simp_all
  subst this;exact ways_send_none U (by simp) (oy λi x _ hx=>vg E C hx (.inl X))
 have p:=crowd_waits (P:=P) (sl:=sl) S (by rw[F];exact Y w (C.cO.sat _)) K
 rw[fL]at p;have N:∀i,¬(i=A.b+j)->(gs.setIfInBounds (A.b+j) (parked g₂ #[scase A.cF v z] .send))[i]?=gs[i]?:=λi D=>LK (za D)
 have r:(gs.setIfInBounds (A.b+j) (parked g₂ #[scase A.cF v z] .send))[A.b+j]?=some (parked g₂ #[scase A.cF v z] .send):=zH H;have hP:cA Z kk OO J M w (t++#[]):=by rw[qz];exact C.cO
 obtain⟨s',a⟩:∃s',s'=s.kF j .wait s.ms s.sp:=⟨_,rfl⟩;have d:s'.w j=.wait:=by rw[a,fy]
 have O:∀{l:Nat},l≠j->s'.w l=s.w l:=λh=>by rw[a,ju h]
 have hI:bO A.n s':=by
  rw[a];refine m.I.kF hj (by rw[o];rfl) (by rw[o];rfl) rfl (by grind) rfl (by rw[o];rfl) rfl (.inl ⟨rfl,by rw[o];rfl⟩) (λh=>by cases h) ?_
  have:=m.I.ms
  grind
 have u:∀l,l<A.n->(s'.w l).iF=(s.w l).iF:=λl _=>by
  by_cases e:l=j
  . subst e;rw[d,o];rfl
  grind
 have y:∀l,(s'.w l).busy=(s.w l).busy:=λl=>by
  by_cases e:l=j
  . subst e;rw[d,o];rfl
  grind
 have Q:c8 P A Z s' kk OO J M (gs.setIfInBounds (A.b+j) (parked g₂ #[scase A.cF v z] .send)).size w (t++#[]):=by
  refine m.chan hI (Bz k (by rw[a];exact m.off.2.2 k)) (by rw[a];rfl) (λh=>by simp_all) (by rw[aac,a];exact m.size) (by rw[a];exact m.zT) (λ_ _=>rfl) (by rw[a];rfl) (by rw[a];rfl) (by rw[a];rfl) (by rw[a];rfl) (λl _=>?_) (λi b n v h=>⟨i,h⟩) rfl (λi=>?_) (.inl (by rw[a];rfl)) (λop h=>by simp at h) (λi D=>.inl ?_) (λi R hn=>m.CS i R λh=>hn ?_)
  . by_cases e:l=j
    . subst e;rw[d,o];rfl
    grind
  . rw[m.hJ i]
    unfold dU;simp only[y,show s'.c=s.c by rw[a];rfl]
  . rw[a]at D;exact D
  . rw[a];exact h
 have hL:MS.gg A.n s' s:=by rw[a];exact uq hj (by rw[o];simp[bn.cx])
 have hS:ia A s s' (λi=>i=A.b+j):=⟨λl _ hl=>O (by omega),λ_=>by rw[a];rfl,λ_=>⟨by rw[a];rfl,xv u⟩,by rw[a];rfl,by rw[a];rfl⟩
 refine⟨_,_,p,s',f,q,kk,OO,J,M,_,_,_,rfl,hL,?_⟩;refine C.H9 Db hP Q (by simp) (λi=>i=A.b+j) N (lf E hS (λ_ _=>rfl) (λ_ _=>rfl) (λ_ _ _=>rfl) (λ_ _ _=>rfl) (λ_ _ _ h=>h)) (λi D=>?_)
 subst D;have B:fq P A s' (A.b+j):=.inr ⟨j,hj,rfl,d⟩;refine⟨_,r,λh=>absurd h (xy hj d),λh=>absurd h (oz hj (.inl d)),λ_=>⟨xy hj d,oz hj (.inl d),?_,by simp_all,rfl,.inr ⟨j,hj,rfl,g₂,z,v,rfl,hv,hO,ht,k⟩⟩,λ_ _ h=>absurd B h⟩
 omega
def mK(a b c s r cap:Nat)(f1 d:FuncId)(e f:String):Trace:=#[{g:=a,fn:=f1,pos:=e,act:=.send c s},{g:=b,fn:=d,pos:=f,act:=.recv c r cap},{g:=a,fn:=f1,pos:=e,act:=.sendDone c s},{g:=b,fn:=d,pos:=f,act:=.recvDone c r}]
theorem ki{a b c s r cap:Nat}{f1 d:FuncId}{e f:String}{op:MemOp}(h:op∈mK a b c s r cap f1 d e f):op.act.touch?=none/\(op.act≠.mark .disable/\op.act≠.mark .enable)/\(∀B,c<B->op.act.low B)/\∀a,op.act≠.mark (.release a):=by
 simp only[mK,List.mem_toArray,aax,aaE,or_false]at h;rcases h with rfl|rfl|rfl|rfl<;>exact⟨rfl,⟨by simp,by simp⟩,λB g=>g,by simp⟩
theorem sQ{w:World}{c cap s r:Nat}{buf:abY}{cl tm:Bool}{d:Nat}(a:ChanAt w c){b:Nat}:
 ((w.at d).setChan c cap buf cl s r tm).heap[b]?=if b=c then some (.chan cap buf cl s r tm)else w.heap[b]?:=by
 obtain⟨_,_,_,_,_,_,h⟩:=a;have e:=(Array.getElem?_eq_some_iff.1 h).1;simp only[World.setChan,World.at]
 grind
theorem xA(m:Nat)(R:acr):(rf P A Fin m R).solo=false:=by cases m<;>rfl
theorem nJ(e:s.ms=.recv):ck P A Fin s 0=rf P A Fin (MS.rem P A.n s).length (MS.rem P A.n s):=by
 unfold ck
 simp_all
theorem iV(e:s.ms=.recv):dA P A s 0:=.inl ⟨rfl,by simp_all⟩
theorem sR(hd:A.dir=false)(e:s.ms=.recv\/s.ms=.parked):¬gu P A s 0:=by
 have:=A.hb;have:=vb hd;rintro(⟨_,h⟩|⟨l,a,b,c⟩|⟨h,_⟩)
 . grind
 . omega
 . omega
theorem Dc{x:Node P}:OF P A s 0 x:=λj h X a b _=>by have:=A.hb;omega
theorem GZ{x:Node P}(e:s.w j=.yJ):OF P A s (A.b+j) x:=λl h X a c d=>by simp_all
theorem handed(Y:A.b+A.n+1<=Z.lk)(u:A.dir=false)(H:bF (bY P A Fin Z Y) Z s f q kk OO J M gs w t)(hj:j<A.n)(K:s.ms=.recv\/s.ms=.parked)(L:s.w j=.wait\/∃X0,s.w j=.run false X0)(bm:(s.w j).cx+s.ms.cx=119){c:Nat}{tm:Bool}{gw gm:aco}{v:Value}(d:Nat)
 (hF:w.heap[A.cF]?=some (.chan 0 #[] false c c tm)) (dj:Deaf t (A.b+j)=0) (d0:Deaf t 0=0)
 (a7:gs'.size=gs.size) (hw:gs'[A.b+j]?=some gw) (hm:gs'[0]?=some gm) (ho:∀i,i≠0->i≠A.b+j->gs'[i]?=gs[i]?)
 (hv:V (kk (A.b+j)) v (A.res j)) (a8:T P (kP P A) gN (kk (A.b+j)) (OO (A.b+j)) gw)
 (a9:∀k',(kk 0).Le k'->V k' v (A.res j)->T P (rf P A Fin ((MS.rem P A.n s).length-1) ((MS.rem P A.n s).erase j)) gN k' (OO 0) gm) (f1 N:FuncId) (O Q:String):
 ∃s' f' kk',MS.gg A.n s' s/\bF (bY P A Fin Z Y) Z s' f' q kk' OO J M gs' ((w.at d).setChan A.cF 0 #[] false (c+1) (c+1) tm) (t++mK (A.b+j) 0 A.cF c c 0 f1 N O Q):=by
 have C:c8 P A Z s kk OO J M gs.size w t:=H.ex;have hb:=A.hb;have B:ChanAt w A.cF:=⟨_,_,_,_,_,_,hF⟩;have ad:A.cF<w.heap.size:=(Array.getElem?_eq_some_iff.1 hF).1;have X:ku (mK (A.b+j) 0 A.cF c c 0 f1 N O Q):=λop h=>(ki h).2.1
 have al:(kk (A.b+j)).Le ((kk 0).join (kk (A.b+j))):=ah.xa (H.cO.sat 0) (H.cO.sat _);have av:=a9 _ (ah.sx _ _) (hv.mono al);obtain⟨R⟩:=T.tree (xA (P:=P) (A:=A) (Fin:=Fin) _ _) av;obtain⟨S⟩:=T.tree (P:=P) (m:=kP P A) rfl a8;have bw:=K
 have U:s.sp=A.n/\s.c≠.none:=by
  have:=C.I.ms
  grind
 have ax:s.c.ez=false:=by
  cases e:s.c with
  |gone=>have:=(C.I.g8 (by rw[e];rfl)).2.2.2 j hj;simp_all
  |_=>rfl
 have hP:cA Z (bS kk 0 ((kk 0).join (kk (A.b+j)))) OO J M ((w.at d).setChan A.cF 0 #[] false (c+1) (c+1) tm) (t++mK (A.b+j) 0 A.cF c c 0 f1 N O Q):=by
  refine H.cO.hand (src:=A.b+j) (dst:=0) (by omega) (by omega) (λn hn=>?_) (λop h=>(ki h).1) (λop h=>(ki h).2.2.1 _ ad) (by simp[World.setChan,World.at]) ⟨⟨.refl _,rfl⟩,λb hb=>by have:=C.eY.1 u;simp only[World.setChan,World.at];grind⟩ (λb=>?_) (λn a ha hm h=>h.elim (λ⟨j,h1,h2⟩=>.inr (.inl ⟨j,h1,h2.app _⟩)) (λ⟨p,h1,h2⟩=>.inr (.inr (.inl ⟨p,h1,h2.app _⟩))))
  . exact xe (t:=t) X (m1:=0) (m2:=3) (c:=A.cF) (k:=c) (x:={g:=A.b+j,fn:=f1,pos:=O,act:=.send A.cF c}) (y:={g:=0,fn:=N,pos:=Q,act:=.recvDone A.cF c}) rfl rfl rfl rfl dj d0 hn
  . unfold Kept
    rw[sQ B]
    by_cases E:b=A.cF
    . subst E
      exact .inr (.inl ⟨B,⟨_,_,_,_,_,_,by rw[sQ B,if_pos rfl]⟩,λi=>(C.gy i).1 u⟩)
    grind
 have ay:(s.w j).iF=false:=by rcases L with h|⟨_,h⟩<;>rw[h]<;>rfl
 obtain⟨s',o⟩:∃s',s'=s.kF j .yJ .recv s.sp:=⟨_,rfl⟩;obtain⟨D,aC⟩:=O3 (A:=A) (s:=s) (m1:=.recv) (sp1:=s.sp) hj ay;rw[<-o]at D aC;have r:s'.w j=.yJ:=by rw[o,fy]
 have aE:∀{l:Nat},l≠j->s'.w l=s.w l:=λh=>by rw[o,ju h]
 have F:s'.c=s.c:=by rw[o];rfl
 have G:s'.ms=.recv:=by rw[o];rfl
 have aL:(s.w j).busy=true/\(s.w j).cnt=1/\(s.w j).last=false/\(s.w j).pc=.out/\(s.w j).jq=false/\s.w j≠.gone/\(s.w j).owns=false:=by rcases L with h|⟨_,h⟩<;>rw[h]<;>simp[bn.busy,bn.cnt,bn.last,bn.pc,bn.jq,bn.owns]
 obtain⟨b1,b2,b3,b4,b5,b6,b7⟩:=aL
 have hI:bO A.n s':=by rw[o];refine C.I.kF hj (by rw[b2];rcases K with e|e<;>rw[e]<;>rfl) b3 rfl b6 rfl (by rw[b4];rfl) rfl (.inl ⟨rfl,b5⟩) (λ_=>U.2) U
 have aO:∀l,(s'.w l).busy=(s.w l).busy:=λl=>by
  by_cases e:l=j
  . subst e;rw[r,b1];rfl
  grind
 have b0:c8 P A Z s' (bS kk 0 ((kk 0).join (kk (A.b+j)))) OO J M gs'.size ((w.at d).setChan A.cF 0 #[] false (c+1) (c+1) tm) (t++mK (A.b+j) 0 A.cF c c 0 f1 N O Q):=by
  refine C.chan hI (Bz u (by simp_all)) (by rw[o];rfl) (λh=>by simp_all) (by rw[a7,o];exact C.size) (λ_=>⟨c+1,tm,by rw[sQ B,if_pos rfl,F,ax]⟩) (λb E=>by rw[sQ B,if_neg E]) (by rw[o];rfl) (by rw[o];rfl) (by rw[o];rfl) (by rw[o];rfl) (λl _=>?_) (λi b n v h=>?_) (au _ _ (by omega)) (λi=>?_) (.inl F) (λop h=>⟨(ki h).1,(ki h).2.2.2⟩) (λi z=>.inl ?_) (λi b8 hn=>?_)
  . by_cases e:l=j
    . subst e;rw[r,b7];rfl
    grind
  . by_cases e:i=0
    . subst e
      rw[ao]at h;exact(ah.nD h).elim (λh=>⟨0,h⟩) (λh=>⟨_,h⟩)
    . rw[au _ _ e]at h;grind
  . rw[C.hJ i]
    unfold dU
    simp_all
  . rw[o]at z;exact z
  . have W:¬bT P A s i:=λh=>hn (by rw[o];exact h)
    rw[au _ _ (λe=>W (.inl e))]
    exact C.CS i b8 W
 have hL:MS.gg A.n s' s:=by rw[o];refine uq hj ?_;have e1:(bn.yJ (P:=P)).cx=18:=rfl;have e2:om.recv.cx=100:=rfl;omega
 have hS:ia A s s' (λi=>i=0\/i=A.b+j):=⟨λl _ hl=>aE (λe=>hl (.inr (by omega))),λ_=>F,λh=>absurd (.inl rfl) h,by rw[o];rfl,by rw[o];rfl⟩
 refine⟨s',bS (bS f 0 ⟨_,_,_,_,R⟩) (A.b+j) ⟨_,_,_,_,S⟩,bS kk 0 ((kk 0).join (kk (A.b+j))),hL,?_⟩;refine H.H9 X hP b0 (by omega) (λi=>i=0\/i=A.b+j) (λi z=>ho i (λe=>z (.inl e)) (λe=>z (.inr e))) (lf Y hS (λi z=>by rw[au _ _ (λe=>z (.inr e)),au _ _ (λe=>z (.inl e))]) (λ_ _=>rfl) (λi z _=>au _ _ (λe=>z (.inl e))) (λ_ _ _=>rfl) (λ_ _ _ h=>h)) (λi z=>?_)
 rcases z with rfl|rfl
 . refine⟨gm,hm,λ_=>?_,λh=>absurd h (sR u (.inl G)),λh=>absurd h (mJ (by simp_all)),λh=>absurd (iV G) h⟩
   have b9:(0:Nat)≠A.b+j:=by omega
   rw[au _ _ b9,ao,ao];refine⟨by show 0<A.b+A.n+1;omega,rfl,?_,rfl,rfl,R.running,by rw[cj X];exact d0,.inl rfl,Dc⟩
   show rf P A Fin _ _=ck P A Fin s' 0;rw[nJ G,D]
   simp_all
 . refine⟨gw,hw,λ_=>?_,λh=>absurd h (oz hj (.inr r)),λh=>absurd h (um hj r),λh=>absurd (sO hj r) h⟩
   rw[ao,au _ _ (by omega)]
   refine⟨by show A.b+j<A.b+A.n+1;omega,rfl,?_,rfl,rfl,S.running,by rw[cj X];exact dj,.inr ((C.hJ _).2 (.inl ⟨j,hj,rfl,b1⟩)),GZ r⟩
   show kP P A=ck P A Fin s' (A.b+j);rw[xz hj r]
end
section
variable{P:acD}{A:bJ}{Fin:abz}{Z:Base}{s s':MS P}{f f':Nat->Node P}{q q':acs}{kk kk':acy}{OO OO':acx}{J J' M M':ack}{gs gs':abH}{w w':World}{t u:Trace}{j:Nat}{g g₂:aco}{z v:Value}
theorem Ia{k:ah}{O:aj}{g g₂ a:aco}{z y:Value}(h:dK P A k O g g₂ z)(c:dK P A k O g a y)(b:Sat k O w):a=g₂/\y=z:=by
 have e:=(h w b).symm.trans (c w b);simp only[GStep.comm.injEq,rcase]at e
 simp_all
theorem E9{g g':aco}{cs a:Array CommCase}{sh b:CommShape}(h:parked g cs sh=parked g' a b):(∀v,Go.Conc.served g v=Go.Conc.served g' v)/\cs=a/\sh=b/\g.frame=g'.frame:=by
 refine⟨λv=>?_,?_,?_,?_⟩
 . show Go.Conc.served (parked g cs sh) v=Go.Conc.served (parked g' a b) v;rw[h]
 . have:=congrArg (λx:aco=>x.offers) h
   simp only[parked,kn,zG]at this;exact this.1
 . have:=congrArg (λx:aco=>x.offers) h
   simp only[parked,kn,zG]at this;exact this.2
 . show(parked g cs sh).frame=(parked g' a b).frame;rw[h]
theorem zX{k:ah}{O:aj}{g g₂:aco}{z:Value}{m:Nat}{R:acr}{N:abz}(h:(rf P A Fin (m+1) R).de k O g N)(b:dK P A k O g g₂ z)(c:Sat k O w){j:Nat}(hj:j∈R):
 ∀k' v,k.Le k'->V k' v (A.res j)->T P (rf P A Fin m (R.erase j)) gN k' O (g₂.finishComm P #[rcase A.cF z] (.recv true) 0 v true):=by
 obtain⟨_,a,y,d,f,i,e⟩:=h;obtain⟨rfl,rfl⟩:=Ia b d c;exact e j hj
theorem Lb{m:Nat}{R:acr}{k:ah}{O:aj}{g:aco}{N:abz}(h:(rf P A Fin m R).de k O g N):
 ∃g₂ z,dK P A k O g g₂ z/\dK P A k O g₂ g₂ z/\g₂.status=.running/\(rf P A Fin m R).de k O g₂ gN:=by
 cases m with
 |zero=>obtain⟨_,g₂,z,c,a,b,d⟩:=h;exact⟨g₂,z,c,a,b,rfl,g₂,z,a,a,b,d⟩
 |succ m=>obtain⟨_,g₂,z,c,a,b,d⟩:=h;exact⟨g₂,z,c,a,b,rfl,g₂,z,a,a,b,d⟩
theorem xB(hj:j<A.n)(h:(s.w j).iF=false):∃m,(MS.rem P A.n s).length=m+1:=by
 have:j∈MS.rem P A.n s:=sP.2 ⟨hj,h⟩;have:=List.length_pos_of_mem this
 simp_all
theorem Dd(I:bO A.n s)(hj:j<A.n)(h:s.w j≠.gone):s.c.ez=false:=by
 cases e:s.c with
 |gone=>exact absurd ((I.g8 (by rw[e];rfl)).2.2.2 j hj) h
 |_=>rfl
theorem Lc(y:A.b+A.n+1<=Z.lk)(d:A.dir=false)(h:bF (bY P A Fin Z y) Z s f q kk OO J M gs w t)(hj:j<A.n){H:Node P}(B:s.w j=.run false H)(C:s.ms=.parked)(K:gs[A.b+j]?=some g)
 (U:∀w,Sat (kk (A.b+j)) (OO (A.b+j)) w->stepG P false g w=.comm g₂ #[scase A.cF v z] true .send w #[]) (W:V (kk (A.b+j)) v (A.res j)) (X:T P (kP P A) gN (kk (A.b+j)) (OO (A.b+j)) (Go.Conc.served g₂ undef)) (sl:abC):
 Goes P A Fin Z y s gs w t sl (A.b+j):=by
 have L:c8 P A Z s kk OO J M gs.size w t:=h.ex;have hb:=A.hb;have D:(A.b+j==0)=false:=by simp;omega
 obtain⟨c,tm,E⟩:=L.zT d;rw[Dd L.I hj (by grind)]at E
 have Y:=(Array.getElem?_eq_some_iff.1 K).1;obtain⟨_,_,_,_,_,_,hd,_⟩:=h.live _ (kg hj B);obtain⟨_,_,_,d0,gp,F,_,p5⟩:=h.held 0 (.inl ⟨rfl,C⟩);obtain⟨_,gm,N,rfl,p6,p7,O⟩|⟨l,h1,h2,_⟩:=p5
 . have a:=stand_get (i:=A.b+j) (show(0:Nat)≠A.b+j by omega) F
   have o:partners (gs.setIfInBounds (A.b+j) ph) A.cF false=[(0,0)]:=by
    rw[partners_one a (λk x hk G=>?_),offersAt_parked_recv,if_pos rfl]
    . rfl
    . rcases getElem?_stand gs (A.b+j) k x G with⟨_,rfl⟩|⟨a7,G⟩
      . exact offersAt_ph ..
      . exact vg y h G (.inr hk)
   have e:=crowd_send_meets (P:=P) (sl:=sl) K (by rw[D];exact U w (h.cO.sat _)) E (by omega) F o
   rw[fL]at e;have p:(s.w j).iF=false:=by rw[B];rfl
   obtain⟨m,r⟩:=xB (A:=A) (s:=s) hj p;rw[r]at O;have Q:0<gs.size:=(Array.getElem?_eq_some_iff.1 F).1
   obtain⟨s',f',kk',hL,u⟩:=handed y d h hj (.inr C) (.inr ⟨H,B⟩) (by rw[B,C];rfl) (gs':=(gs.setIfInBounds 0 (gm.finishComm P #[rcase A.cF N] (.recv true) 0 v true)).setIfInBounds (A.b+j) (g₂.finishComm P #[scase A.cF v z] .send 0 undef false)) (gw:=Go.Conc.served g₂ undef) (gm:=gm.finishComm P #[rcase A.cF N] (.recv true) 0 v true) w.drawn E hd d0 (by simp)
    (by rw[zH (by simp_all)];rfl) (by simp_all)
    (λi R S=>by grind) W X
    (λk' R S=>by rw[r];exact zX O p6 (h.cO.sat 0) (sP.2 ⟨hj,p⟩) k' v R S) g₂.frame.fn gm.frame.fn g₂.frame.place gm.frame.place
   refine⟨_,_,e,s',f',q,kk',OO,J,M,_,_,sl,rfl,hL,?_⟩;rw[show w.at w.drawn=w from rfl]at u
   simpa[mK]using u
 . omega
theorem Lf(G:A.b+A.n+1<=Z.lk)(v:A.dir=false)(u:bF (bY P A Fin Z G) Z s f q kk OO J M gs w t)(hm:s.ms=.recv)(hj:j<A.n)(hw:s.w j=.wait)(hg:gs[0]?=some g)
 (hs:dK P A (kk 0) (OO 0) g g₂ z){N:abz}(ht:(rf P A Fin (MS.rem P A.n s).length (MS.rem P A.n s)).de (kk 0) (OO 0) g N) (sl:abC):
 Goes P A Fin Z G s gs w t sl 0:=by
 have hE:c8 P A Z s kk OO J M gs.size w t:=u.ex;have hb:=A.hb;obtain⟨c,tm,hF⟩:=hE.zT v;rw[Dd hE.I hj (by grind)]at hF
 have al:=(Array.getElem?_eq_some_iff.1 hg).1;obtain⟨_,_,_,_,_,_,d0,_⟩:=u.live _ (iV hm)
 have h:∀{i:Nat}{x:aco},gs[i]?=some x->i≠0->fq P A s i->∃a,a<A.n/\i=A.b+a/\s.w a=.wait/\∃p B o,x=parked p #[scase A.cF o B] .send/\V (kk i) o (A.res a)/\T P (kP P A) gN (kk i) (OO i) (Go.Conc.served p undef):=λ{i x} F H D=>by
  obtain⟨_,_,_,_,y,r1,r2,r3⟩:=u.held i D;rw[F]at r1;obtain rfl:=ZM r1
  rcases r3 with⟨h0,_⟩|⟨a,h1,h2,p,B,o,h3,h4,_,h5,_⟩
  . omega
  . refine⟨a,h1,h2,?_,p,B,o,h3,h4,h5⟩
    rcases D with⟨h6,_⟩|⟨l,h6,h7,h8⟩
    . omega
    simp_all
 obtain⟨_,_,_,_,x0,e0,_⟩:=u.held (A.b+j) (.inr ⟨j,hj,rfl,hw⟩);obtain⟨a0,_,_,_,av,ax,ay,rfl,_⟩:=h e0 (by omega) (.inr ⟨j,hj,rfl,hw⟩)
 have a7:partners (gs.setIfInBounds 0 ph) A.cF true≠[]:=λe=>by
  have:(A.b+j,0)∈partners (gs.setIfInBounds 0 ph) A.cF true:=mem_partners.2 ⟨_,stand_get (by omega) e0,by rw[offersAt_parked_send,if_pos rfl];simp⟩
  simp_all
 have a8:∀i k,(i,k)∈partners (gs.setIfInBounds 0 ph) A.cF true->k=0/\i≠0/\∃x,gs[i]?=some x/\fq P A s i:=λi k K=>by
  obtain⟨x,F,L⟩:=mem_partners.1 K
  rcases getElem?_stand gs 0 i x F with⟨_,rfl⟩|⟨hi,F⟩
  . rw[offersAt_ph]at L;cases L
  . by_cases D:fq P A s i
    . obtain⟨a,_,_,_,p,B,o,rfl,_⟩:=h F hi D
      rw[offersAt_parked_send,if_pos rfl]at L
      simp_all
    . rw[u.quiet (bd (P:=P) (A:=A) (Fin:=Fin) (Z:=Z) G) F D]at L;cases L
 have O:∀i k,(i,k)∈partners (gs.setIfInBounds 0 ph) A.cF true->k=0/\i≠0/\∃p o B Q,gs[i]?=some (parked p #[scase A.cF o B] Q):=λi k K=>by grind
 obtain⟨i,p,o,B,Q,d,H,E,C⟩:=crowd_recv_meets_some (P:=P) (sl:=sl) hg (show stepG P (0==0) g w=_ from hs w (u.cO.sat 0)) hF a7 O
 rw[fL]at C
 have r:fq P A s i:=aaa λD=>by have:=u.quiet (bd (P:=P) (A:=A) (Fin:=Fin) (Z:=Z) G) E D A.cF true;rw[offersAt_parked_send,if_pos rfl]at this;cases this
 obtain⟨a,a2,rfl,a3,aC,aE,a9,R,S,e3⟩:=h E H r;obtain⟨i1,i2,i3,i4⟩:=E9 R
 have i5:o=a9:=by
  have:=congrArg (λx:Array CommCase=>x[0]?) i2
  simp[scase]at this;exact this.1
 subst i3;subst i5;obtain⟨_,_,_,dj,_⟩:=u.held _ r;have U:=(Array.getElem?_eq_some_iff.1 E).1;have W:(s.w a).iF=false:=by rw[a3];rfl
 obtain⟨m,X⟩:=xB (A:=A) (s:=s) a2 W;have Y:=ht;rw[X]at Y
 obtain⟨s',f',kk',hL,ad⟩:=handed G v u a2 (.inl hm) (.inl a3) (by rw[a3,hm];rfl) (gs':=(gs.setIfInBounds (A.b+a) (p.finishComm P #[scase A.cF o B] .send 0 undef false)).setIfInBounds 0 (g₂.finishComm P #[rcase A.cF z] (.recv true) 0 o true)) (gw:=Go.Conc.served p undef) (gm:=g₂.finishComm P #[rcase A.cF z] (.recv true) 0 o true) d hF dj d0 (by simp)
  (by rw[LK (by omega),zH U];rfl) (by grind)
  (λi R S=>by rw[LK (za R),LK (za S)]) S (by grind)
  (λk' R S=>by rw[X];exact zX Y hs (u.cO.sat 0) (sP.2 ⟨a2,W⟩) k' o R S) p.frame.fn g₂.frame.fn p.frame.place g₂.frame.place
 refine⟨_,_,C,s',f',q,kk',OO,J,M,_,_,sl,rfl,hL,?_⟩;simpa[mK]using ad
theorem sS(hd:A.dir=false)(a:s.ms=.parked):¬dA P A s 0:=by
 have:=A.hb;have:=vb hd;rintro(⟨_,h⟩|⟨l,b,c,d⟩|⟨h,_⟩)
 . simp_all
 . omega
 . omega
theorem Lg(K:A.b+A.n+1<=Z.lk)(k:A.dir=false)(C:bF (bY P A Fin Z K) Z s f q kk OO J M gs w t)(L:s.ms=.recv)(E:∀j,j<A.n->s.w j≠.wait)(F:s.c≠.gone)(U:gs[0]?=some g)
 (X:dK P A (kk 0) (OO 0) g g₂ z) (N:dK P A (kk 0) (OO 0) g₂ g₂ z) (Y:g₂.status=.running) (ht:(rf P A Fin (MS.rem P A.n s).length (MS.rem P A.n s)).de (kk 0) (OO 0) g₂ gN) (sl:abC):
 Goes P A Fin Z K s gs w t sl 0:=by
 have d:c8 P A Z s kk OO J M gs.size w t:=C.ex;have hb:=A.hb;obtain⟨c,tm,V⟩:=d.zT k
 have G:s.c.ez=false:=by
  cases e:s.c.ez with
  |true=>exact absurd (rO.1 e) F
  |false=>rfl
 rw[G]at V;have O:=(Array.getElem?_eq_some_iff.1 U).1;obtain⟨_,_,_,_,_,_,d0,_⟩:=C.live _ (iV L)
 have H:∀Q∈(#[rcase A.cF z]:Array CommCase),NoWays w (gs.setIfInBounds 0 ph) Q:=λQ a7=>by
  have:Q=rcase A.cF z:=by simp_all
  subst this;exact ways_recv_none V (oy λi x _ hx=>vh K C hx (λj h1 h2=>E j h1) _)
 have p:=crowd_waits (P:=P) (sl:=sl) U (show stepG P (0==0) g w=_ from X w (C.cO.sat 0)) H
 rw[fL]at p;have R:∀i,¬(i=0)->(gs.setIfInBounds 0 (parked g₂ #[rcase A.cF z] (.recv true)))[i]?=gs[i]?:=λi D=>LK (za D)
 have r:(gs.setIfInBounds 0 (parked g₂ #[rcase A.cF z] (.recv true)))[0]?=some (parked g₂ #[rcase A.cF z] (.recv true)):=zH O;have hP:cA Z kk OO J M w (t++#[]):=by rw[qz];exact C.cO
 obtain⟨s',a⟩:∃s',s'=s.m9 .parked s.gc:=⟨_,rfl⟩;have m:s'.ms=.parked:=by rw[a];rfl
 have o:s'.w=s.w:=by rw[a];rfl
 have u:s'.c=s.c:=by rw[a];rfl
 have y:=d.I.ms;rw[L]at y
 have hI:bO A.n s':=by rw[a];exact⟨by have:=d.I.g1;rw[L]at this;exact this,d.I.g2,d.I.Ev,d.I.g3,d.I.GM,d.I.g4,d.I.g5,d.I.g6,d.I.g7,d.I.g8,d.I.g9,d.I.ok,d.I.Sr,d.I.sp,d.I.idle,⟨y.1,y.2,F,E⟩,d.I.early,d.I.mu⟩
 have S:c8 P A Z s' kk OO J M (gs.setIfInBounds 0 (parked g₂ #[rcase A.cF z] (.recv true))).size w (t++#[]):=by
  refine d.chan hI (Bz k (by simp_all)) (by rw[a];rfl) (λh=>by simp_all) (by rw[aac,a];exact d.size) (by simp_all) (λ_ _=>rfl) (by rw[a];rfl) (by rw[a];rfl) (by rw[a];rfl) (by rw[a];rfl) (λl _=>by rw[o]) (λi b n v h=>⟨i,h⟩) rfl (λi=>?_) (.inl u) (λop h=>by simp at h) (λi D=>.inl ?_) (λi T hn=>d.CS i T λh=>hn ?_)
  . rw[d.hJ i]
    unfold dU;rw[o,u]
  . rw[a]at D;exact D
  . rw[a];exact h
 have hL:MS.gg A.n s' s:=by
  refine .inl ?_;rw[a];show om.parked.cx+sumTo A.n (λi=>(s.w i).cx)+s.c.cx s.gc<s.ms.cx+sumTo A.n (λi=>(s.w i).cx)+s.c.cx s.gc
  rw[L];have e1:om.parked.cx=99:=rfl;have e2:om.recv.cx=100:=rfl;omega
 have W:MS.rem P A.n s'=MS.rem P A.n s:=xv λl _=>by rw[o]
 have hS:ia A s s' (λi=>i=0):=⟨λl _ hl=>by rw[o],λ_=>u,λh=>absurd rfl h,by rw[a];rfl,by rw[a];rfl⟩
 refine⟨_,_,p,s',f,q,kk,OO,J,M,_,_,_,rfl,hL,?_⟩;refine C.H9 Db hP S (by simp) (λi=>i=0) R (lf K hS (λ_ _=>rfl) (λ_ _=>rfl) (λ_ _ _=>rfl) (λ_ _ _=>rfl) (λ_ _ _ h=>h)) (λi D=>?_)
 subst D;have B:fq P A s' 0:=.inl ⟨rfl,m⟩;refine⟨_,r,λh=>absurd h (sS k m),λh=>absurd h (sR k (.inr m)),λ_=>⟨sS k m,sR k (.inr m),?_,by simp_all,rfl,.inl ⟨rfl,g₂,z,rfl,N,Y,by simp_all⟩⟩,λ_ _ h=>absurd B h⟩
 omega
end
def iL(c:Nat):aca:=#[⟨.obj c,false,true⟩,⟨.obj c,true,true⟩]
theorem mL(i:Nat)(fn:FuncId)(pos:String)(c:Nat):MemOp.ofEvents i fn pos (iL c)=#[{g:=i,fn:=fn,pos:=pos,act:=.access ⟨.obj c,false,true⟩},{g:=i,fn:=fn,pos:=pos,act:=.close c}]:=by rw[ofEvents_eq];simp[iL,MemAct.ofEvent]
theorem fE{i:Nat}{fn:FuncId}{pos:String}{c:Nat}{op:MemOp}(h:op∈MemOp.ofEvents i fn pos (iL c)):op.g=i/\(op.act≠.mark .disable/\op.act≠.mark .enable)/\(∀a,op.act.touch?=some a->a.loc=.obj c/\a.kind=.atomic)/\(∀B,c<B->op.act.low B)/\∀a,op.act≠.mark (.release a):=by
 rw[mL]at h;simp only[List.mem_toArray,aax,aaE,or_false]at h;rcases h with rfl|rfl
 . exact⟨rfl,⟨by simp,by simp⟩,λa b=>by simp only[MemAct.touch?,kn]at b;grind,λB d=>d,by simp⟩
 . exact⟨rfl,⟨by simp,by simp⟩,λa b=>(by cases b),λB d=>d,by simp⟩
section
variable{P:acD}{A:bJ}{Fin:abz}{Z:Base}{s s':MS P}{f f':Nat->Node P}{q q':acs}{kk kk':acy}{OO OO':acx}{J J' M M':ack}{gs gs':abH}{w w':World}{t u:Trace}{j:Nat}{g g₂:aco}{z v:Value}
theorem dK.again{k:ah}{O:aj}{g g₂:aco}{z a:Value}(h:dK P A k O g g₂ z)(c:g.status=.running)(sh:CommShape):dK P A k O {parked g #[rcase A.cF a] sh with status:=.running} g₂ z:=λw b=>by
 rw[stepG_tries];have:({g with status:=.running}:aco)=g:=by cases g;simp_all
 rw[this];exact h w b
theorem Ib{m:Nat}{R:acr}{k:ah}{O:aj}{g:aco}{z:Value}{sh:CommShape}{N:abz}(h:(rf P A Fin m R).de k O g N)(e:g.status=.running):
 T P (rf P A Fin m R) gN k O {parked g #[rcase A.cF z] sh with status:=.running}:=by
 refine .de gN rfl ?_ (λ_ _ _ h=>h.elim);cases m with
 |zero=>obtain⟨_,g₂,y,a,b,c,d⟩:=h;exact⟨rfl,g₂,y,a.again e sh,b,c,d⟩
 |succ m=>obtain⟨_,g₂,y,a,b,c,d⟩:=h;exact⟨rfl,g₂,y,a.again e sh,b,c,d⟩
theorem cA.shut(h:cA Z kk OO J M w t){i c:Nat}{x:Nat}{tm:Bool}(F:∀l,J l->l=i)(G:∀p,¬M p)(u:w.heap[c]?=some (.chan 0 #[] false x x tm))(H:∀l,OO l c=none)(I:∀n b,touchAt t n=some b->b.loc=.obj c->b.kind=.plain->Knows t i n)(B:Z.W0.heap.size<=c)(fn:FuncId)(pos:String):
 cA Z kk OO (λ_=>False) (λp=>p=t.size+1) {w with heap:=w.heap.setIfInBounds c (.chan 0 #[] true x x tm)} (t++MemOp.ofEvents i fn pos (iL c)):=by
 have q:c<w.heap.size:=(Array.getElem?_eq_some_iff.1 u).1;have k:(MemOp.ofEvents i fn pos (iL c))[1]?=some {g:=i,fn:=fn,pos:=pos,act:=.close c}:=by rw[mL];rfl
 have f:∀b,(w.heap.setIfInBounds c (.chan 0 #[] true x x tm))[b]?=if b=c then some (.chan 0 #[] true x x tm)else w.heap[b]?:=λb=>by grind
 refine h.tR (λa b=>a=b) (by simp) ⟨⟨.refl _,rfl⟩,λb hb=>by grind⟩ (λb=>?_) (λop d=>(fE d).2.2.2.1 _ q) (λa b e n y _ _ _ K=>by subst e;exact K.app _) (λj b n v h=>⟨j,rfl,h⟩) (λj b s h=>⟨j,rfl,h⟩) (λj b x h=>⟨j,rfl,h,λ_ h=>h⟩) h.jl
  (λsaid=>noRace_append (h.clean said) (λop d=>(fE d).1) λn a r op d b hb u=>?_) (λop d a r C=>?_) (λm op a d r C=>?_) (λn a r C L=>?_)
 . show Kept kk OO w _ b
   unfold Kept;rw[f]
   by_cases z:b=c
   . subst z
     exact .inr (.inl ⟨⟨_,_,_,_,_,_,u⟩,⟨_,_,_,_,_,_,by rw[f,if_pos rfl]⟩,H⟩)
   grind
 . obtain⟨D,N⟩:=(fE d).2.2.1 b hb
   obtain⟨P,_,_,Q⟩:=u
   simp_all
 . obtain⟨D,N⟩:=(fE d).2.2.1 a r
   rw[D];exact⟨q,λl o R=>by simp_all⟩
 . refine .inr (.inr (.inl ⟨t.size+1,rfl,?_⟩))
   have A:m=0:=by
    rw[mL]at d
    match m,d with
    |0,_=>rfl
    |1,d=>simp at d;subst d;simp[MemAct.touch?]at r
    |m+2,d=>simp at d
   subst A;exact .inr (hb_po (by omega) (du (m:=0) d) (du (m:=1) k) (fE (ZV d)).1)
 . rcases L with⟨l,E,O⟩|⟨p,E,_⟩
   . obtain rfl:=F l E
     exact .inr (.inr (.inl ⟨t.size+1,rfl,lG (m:=1) O k rfl⟩))
   simp_all
theorem Lh(hZ:A.b+A.n+1<=Z.lk)(r:A.dir=false)(V:bF (bY P A Fin Z hZ) Z s f q kk OO J M gs w t)(hw:s.c=.jo)(hg:gs[A.cl]?=some g){N:abz}(ht:(rN P A).de (kk A.cl) (OO A.cl) g N)(sl:abC):
 Goes P A Fin Z hZ s gs w t sl A.cl:=by
 have d:c8 P A Z s kk OO J M gs.size w t:=V.ex;have hb:=A.hb;obtain⟨rfl,E,nq,b3,hs,hq⟩:=ht;have b2:=vb r;obtain⟨x,tm,hF⟩:=d.zT r;have av:s.c.ez=false:=by rw[hw];rfl
 rw[av]at hF;obtain⟨c0,v0,m0,G⟩:=d.I.g8 (by rw[hw];rfl)
 have S:s.sp=A.n/\(s.ms=.recv\/s.ms=.parked):=by
  have:=d.I.ms;cases e:s.ms with
  |recv=>simp_all
  |parked=>simp_all
  |add l=>simp_all
  |bu l p=>simp_all
  |spawn l=>simp_all
  |off=>exact absurd e (d.off.2.2 r)
 have b4:=(Array.getElem?_eq_some_iff.1 hg).1;obtain⟨_,_,_,_,_,_,hd,_⟩:=V.live _ (uj (.inl hw));have ax:(A.cl==0)=false:=by simp;omega
 have b5:A.cF<w.heap.size:=(Array.getElem?_eq_some_iff.1 hF).1;have H:=runT_crowd_go (P:=P) (sl:=sl) (i:=A.cl) hg (by rw[ax];exact hs w x x tm (V.cO.sat _) hF)
 obtain⟨w',ay⟩:∃w',w'={w with heap:=w.heap.setIfInBounds A.cF (.chan 0 #[] true x x tm)}:=⟨_,rfl⟩
 have hP:=V.cO.shut (i:=A.cl) (c:=A.cF) (x:=x) (tm:=tm) (λl U=>by
  rcases(d.hJ l).1 U with⟨j,B,C,F⟩|⟨B,_⟩
  . rw[G j B]at F;cases F
  . exact B) (λp hp=>by
  obtain⟨_,_,F⟩:=d.hM p hp
  simp_all) hF (λl=>(d.gy l).1 r) (λn b hb U X=>d.quiet n b hb (by rw[U];exact⟨rfl,r⟩) X _ (GR (by grind))) (d.eY.1 r) g.frame.fn g.frame.place
 rw[<-ay]at H hP
 change runT P (crowd gs w sl) A.cl=(_,MemOp.ofEvents A.cl g.frame.fn g.frame.place (iL A.cF))at H
 have hu:ku (MemOp.ofEvents A.cl g.frame.fn g.frame.place (iL A.cF)):=λop h=>(fE h).2.1
 have u:∀b,w'.heap[b]?=if b=A.cF then some (.chan 0 #[] true x x tm)else w.heap[b]?:=λb=>by grind
 have b6:E.status≠.blocked/\E.status≠.waiting:=by rcases hq.status with h|h<;>rw[h]<;>simp
 have aC:∀o,woken P g E w' o=o.again w':=λo=>by
  unfold Go.Conc.woken
  simp_all
 have al:∀i o,gs[i]?=some o->i≠0->i≠A.cl->woken P g E w' o=o:=λi o ho R hn=>by
  have nl:¬dA P A s i:=by
   rintro(⟨e,_⟩|⟨l,B,C,F⟩|⟨e,_⟩)
   . exact R e
   . simp_all
   omega
  have nw:¬gu P A s i:=by
   rintro(⟨e,_⟩|⟨l,B,C,F⟩|⟨e,_⟩)
   . exact R e
   . simp_all
   omega
  have nh:¬fq P A s i:=by
   rintro(⟨e,_⟩|⟨l,B,C,F⟩)
   . exact R e
   simp_all
  exact woken_quitsD (V.rest i o ho nl nw nh).2
 have aE:∀i,¬(i=0\/i=A.cl)->((gs.map (woken P g E w')).setIfInBounds A.cl E)[i]?=gs[i]?:=λi D=>by grind
 have Y:((gs.map (woken P g E w')).setIfInBounds A.cl E)[A.cl]?=some E:=zH (by grind)
 obtain⟨s',v⟩:∃s':MS P,s'={s with c:=.gone,ms:=.recv}:=⟨_,rfl⟩
 have a7:s'.ms=.recv:=by rw[v]
 have K:s'.w=s.w:=by rw[v]
 have L:s'.c=.gone:=by rw[v]
 have a8:MS.rem P A.n s'=MS.rem P A.n s:=xv λl _=>by rw[K]
 obtain⟨d0,g0,aL,tr,_⟩:Deaf t 0=0/\∃g0,((gs.map (woken P g E w')).setIfInBounds A.cl E)[0]?=some g0/\∃tr:TT P (rf P A Fin (MS.rem P A.n s).length (MS.rem P A.n s)) (kk 0) (OO 0) g0,True:=by
  rw[LK (by omega),aaq]
  rcases S.2 with hm|hm
  . obtain⟨_,p1,pm,pk,pO,p2,p3,_⟩:=V.live 0 (iV hm)
    have pm:(f 0).m=ck P A Fin s 0:=pm;rw[nJ hm]at pm;refine⟨p3,(f 0).g,by rw[p1,ZR,woken_run p2],?_⟩
    rw[<-pm,<-pk,<-pO];exact⟨(f 0).t,trivial⟩
  . obtain⟨_,_,_,p3,gp,p4,_,p5⟩:=V.held 0 (.inl ⟨rfl,hm⟩)
    rcases p5 with⟨_,gm,zm,rfl,p6,p7,p8⟩|⟨l,B,C,_⟩
    . rw[p4]
      refine⟨p3,_,rfl,?_⟩;rw[aC,again_recv_closed (by rw[u,if_pos rfl])]
      obtain⟨tr⟩:=T.tree (xA (P:=P) (A:=A) (Fin:=Fin) _ _) (Ib (z:=zm) (sh:=.recv true) p8 p7);exact⟨tr,trivial⟩
    . omega
 have hI:bO A.n s':=by
  rw[v];refine⟨?_,d.I.g2,λh=>(by grind),d.I.g3,d.I.GM,λi D h=>(by grind),⟨d.I.g5.1,λh=>(by grind)⟩,λh=>(by cases h),d.I.g7,λ_=>⟨c0,v0,m0,G⟩,λk h=>(by cases h),d.I.ok,rfl,d.I.sp,d.I.idle,⟨S.1,by simp⟩,λ_ h=>(by cases h),d.I.mu⟩
  have:=d.I.g1;show s.gc=sumTo A.n (λj=>(s.w j).cnt)+om.recv.pend
  rcases S.2 with e|e<;>rw[e]at this<;>exact this
 have W:(MemOp.ofEvents A.cl g.frame.fn g.frame.place (iL A.cF))[1]?=some {g:=A.cl,fn:=g.frame.fn,pos:=g.frame.place,act:=.close A.cF}:=by rw[mL];rfl
 have O:(t++MemOp.ofEvents A.cl g.frame.fn g.frame.place (iL A.cF)).act? (t.size+1)=some (.close A.cF)/\(t++MemOp.ofEvents A.cl g.frame.fn g.frame.place (iL A.cF)).heard (t.size+1):=⟨act?_of (du (m:=1) W),heard_new (m:=1) hu W hd⟩
 have a9:∀i,bT P A s' i->bT P A s i:=λi D=>by
  rcases D with R|⟨j,B,C⟩|⟨B,C⟩
  . exact .inl R
  . exact .inr (.inl ⟨j,by grind,C⟩)
  . exact .inr (.inr ⟨B,by grind⟩)
 have ad:∀i,bT P A s i->bT P A s' i:=λi D=>by
  rcases D with R|⟨j,B,C⟩|⟨B,C⟩
  . exact .inl R
  . exact .inr (.inl ⟨j,by grind,C⟩)
  . exact .inr (.inr ⟨B,by grind⟩)
 have b7:∀op∈MemOp.ofEvents A.cl g.frame.fn g.frame.place (iL A.cF),∀a,op.act.touch?=some a->a.kind=.atomic:=λop Q a ha=>((fE Q).2.2.1 a ha).2
 have aO:c8 P A Z s' kk OO (λ_=>False) (λp=>p=t.size+1) ((gs.map (woken P g E w')).setIfInBounds A.cl E).size w' (t++MemOp.ofEvents A.cl g.frame.fn g.frame.place (iL A.cF)):=by
  refine⟨hI,?_,by rw[v];exact d.dd,Bz r (by grind),λh=>by simp_all,λ_=>⟨x,tm,by rw[u,if_pos rfl,L];rfl⟩,?_,?_,?_,?_,d.gy,d.eu,λi y hy=>?_,λl U b0=>d.y7 l U (by grind),λb0=>d.N3 λl U=>by grind,λc hc=>?_,λi=>?_,λp hp=>?_,λ_=>⟨t.size+1,rfl,O⟩,λm a ha hs X i D=>d.j8 _ (λop Q a ha _ X=>by grind) m a ha hs X i (a9 i D),λm a ha hs X=>?_,λi D=>d.pK _ i (a9 i D),d.jr _ (λop Q=>(fE Q).2.2.2.2),λi b1 hn=>d.CS i b1 λh=>hn (ad i h),d.sA,d.jQ,d.eY,d.la,by simp;exact KD d.n0 (aah _ _)⟩
  . have:=d.size
    rw[hw]at this;rw[L];simp only[aac,Array.size_map,jm.isNone]at this ⊢
    grind
  . rw[show s'.sh=s.sh by rw[v]];exact d.mu.same (.of_heap (by rw[u,if_neg (za A.d1)]))
  . rw[show s'.gc=s.gc by rw[v],show s'.gv=s.gv by rw[v],show s'.gm=s.gm by rw[v]];exact d.gr.same (.of_heap (by rw[u,if_neg (za A.d2)]))
  . rw[u,if_neg (za A.d1)];exact d.vd
  . rw[u,if_neg (za A.d2)];exact d.yZ
  . rw[K];exact d.tok i y hy
  . rw[K];exact d.N4 c hc
  . refine⟨λh=>h.elim,?_⟩
    rintro(⟨j,B,C,F⟩|⟨B,C⟩)
    . rw[K,G j B]at F;cases F
    . rw[L]at C;cases C
  . subst hp
    exact⟨O.2,by have:=d.n0;omega,.inr ⟨L,O.1⟩⟩
  . have R:=d.oo _ (λop Q a ha _ X=>by grind) m a ha hs X
    rw[hw]at R;rw[L];exact R
 have hL:MS.gg A.n s' s:=by
  refine .inl ?_;rw[v];show om.recv.cx+sumTo A.n (λi=>(s.w i).cx)+jm.gone.cx s.gc<s.ms.cx+sumTo A.n (λi=>(s.w i).cx)+s.c.cx s.gc
  rw[hw];have e2:om.recv.cx=100:=rfl;have e3:jm.gone.cx s.gc=0:=rfl;have e4:jm.jo.cx s.gc=3:=rfl;have e5:99<=s.ms.cx:=by rcases S.2 with e|e<;>rw[e]<;>simp[om.cx]
  omega
 have hS:ia A s s' (λi=>i=0\/i=A.cl):=⟨λl _ U=>by rw[K],λh=>absurd (.inr rfl) h,λh=>absurd (.inl rfl) h,by rw[v],by rw[v]⟩
 refine⟨_,_,H,s',bS f 0 ⟨_,_,_,_,tr⟩,upd q A.cl nq,kk,OO,λ_=>False,(λp=>p=t.size+1),_,_,_,rfl,hL,?_⟩
 refine V.H9 hu hP aO (by simp) (λi=>i=0\/i=A.cl) aE (lf hZ hS (λi D=>au _ _ (λe=>D (.inl e))) (λi D=>upd_ne q nq (λe=>D (.inr e))) (λ_ _ _=>rfl) (λ_ _ _=>rfl) (λi D U _=>?_)) (λi D=>?_)
 . rcases U with⟨e,_⟩|⟨l,B,C,F⟩|⟨e,_⟩
   . omega
   . grind
   omega
 . rcases D with rfl|rfl
   . refine⟨g0,aL,λ_=>?_,λh=>absurd h (sR r (.inl a7)),λh=>absurd h (mJ (by grind)),λh=>absurd (iV a7) h⟩
     rw[ao];refine⟨by omega,rfl,?_,rfl,rfl,tr.running,by rw[cj hu];exact d0,.inl rfl,Dc⟩
     show rf P A Fin _ _=ck P A Fin s' 0;rw[nJ a7,a8]
   . refine⟨E,Y,λh=>absurd h ?_,λh=>absurd h ?_,λh=>absurd h (qy (Bz r (by grind))),λ_ _ _=>⟨by omega,by rw[upd_same,cj hu,hd];exact hq⟩⟩
     . rintro(⟨e,_⟩|⟨l,B,C,F⟩|⟨_,F⟩)
       . omega
       . omega
       grind
     . rintro(⟨e,_⟩|⟨l,B,C,F⟩|⟨_,F⟩)
       . omega
       . omega
       grind
end

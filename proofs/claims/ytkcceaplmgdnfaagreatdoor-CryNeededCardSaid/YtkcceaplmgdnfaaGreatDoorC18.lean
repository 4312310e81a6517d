import Derived.Test.YtkcceaplmgdnfaaGreatDoorC17
set_option linter.all false
namespace Go.bQ
open Go.Conc
open Go.ConcN (sumTo upd sumTo_upd upd_ne upd_same)
section
variable{P:acD}
theorem Bu {y:Sy} {s:jJ} {fr:Frame} {f:FuncId} {l:acA} {e:abY->Sem Value} {cs:acb} (b:FR y s fr) (h:bb s=some (f,l)) (c:Ext P f e):mayWake P (G fr cs)=true:=by
 obtain⟨ops,i,rest,kk,o,as,d,g,p,j,q,a,r⟩:=dq b h;obtain⟨fn,k,t,u,v,w⟩:=c.ex;have m:fr.mode = .run:=by rw[a];rfl
 have n:fr.todo = .inRegion ops (i :: rest) :: kk:=by rw[a];rfl
 unfold mayWake;simp only[G,m,n,g,ZR,j,Frame.eval,k,Option.any_some]
 grind
theorem HY{n:yV}{b o:Nat}{kind:acv}{cs:acb}{g:aco}(C:gn P n)(X:gq P n)(h:nT P n b o kind .give cs g):mayWake P g=true:=by
 obtain⟨c,y,fr,d,e,i,a,f,rfl⟩:=h;rcases e with rfl|rfl
 . exact Bu a (C.VJ b o kind) X.oh
 . exact Bu a (C.VK b o kind) X.oh
theorem ot{b o:Nat}{w w':World}(h:MW b o w w')(a:∃c e,w.heap[b]?=some (.cells c e (0,0))):
 w'.heap.size=w.heap.size/\(∀r,r≠b->w'.heap[r]?=w.heap[r]?)/\∃c e c',w.heap[b]?=some (.cells c e (0,0))/\w'.heap[b]?=some (.cells c' e (0,0))/\c'.size=c.size/\∀n,n≠o->n≠o+1->c'[n]?=c[n]?:=by
 obtain⟨c,e,a⟩:=a;rcases h.2 with h|⟨i,v,f,g,h⟩
 . grind
 . refine⟨by simp_all,λr d=>?_,c,e,c.setIfInBounds i v,a,?_,by simp,λn j k=>?_⟩
   . rw[h];simp only[World.setCell,ZX,if_neg (za d)]
   . rw[h];simp[World.setCell,ZX,a]
   grind
end
section
variable{P:acD}{A:bJ}{Z:Base}{s:MS P}{kk:acy}{OO:acx}{J M:ack}{gsz:Nat}{w w':World}{t:Trace}{j:Nat}{x:bn P}{sh:Mu.Sh}
theorem c8.calm(h:c8 P A Z s kk OO J M gsz w t)(a:MW A.fb A.fo w w'):Calm Z w w':=by obtain⟨d,c,_⟩:=ot a h.vd;have:=h.eY.2.1;exact⟨a.1,λb hb=>c b (by omega)⟩
theorem c8.kept(h:c8 P A Z s kk OO J M gsz w t)(a:MW A.fb A.fo w w'):∀b,Kept kk OO w w' b:=λb=>by
 obtain⟨u,d,c,e,f,j,k,l,v⟩:=ot a h.vd;by_cases hb:b=A.fb
 . subst hb
   refine .inr (.inr ⟨c,f,e,j,k,l,λi x m=>by obtain⟨_,g,_,_,_,rfl,o⟩:=h.tok i x m;exact⟨g,rfl,λn p=>by have:=(o n p).2;unfold bJ.cell at this;grind⟩,λn=>?_⟩);by_cases q:n=A.fo
   . subst q;exact .inr λi=>(h.eu i).1
   . by_cases r:n=A.fo+1
     . subst r;exact .inr λi=>(h.eu i).2.1
     simp_all
 . exact .inl (d b hb)
theorem c8.TM(h:c8 P A Z s kk OO J M gsz w t){n:Nat}(a:n=A.fo\/n=A.fo+1):Ki kk OO w.heap.size (.cell ⟨A.fb,n,none⟩):=by
 have b:A.fb<w.heap.size:=by obtain⟨c,e,f⟩:=h.vd;grind
 refine⟨b,λi=>⟨λd=>?_,?_⟩⟩
 . obtain⟨_,_,_,_,e⟩:=h.OG d
   have e:n=A.fo+2+_:=e;omega
 . rcases a with rfl|rfl
   . exact(h.eu i).1
   . exact(h.eu i).2.1
theorem nH{b o:Nat}{e:Event}(d:(e.loc=.mark .disable\/e.loc=.mark .enable)\/∃i,(i=o\/i=o+1)/\e.loc=.cell ⟨b,i,none⟩/\e.sync=true):
 (∀a,(MemAct.ofEvent e).touch?=some a->a.kind=.atomic/\∃i,(i=o\/i=o+1)/\a.loc=.cell ⟨b,i,none⟩)/\(∀a,MemAct.ofEvent e≠.mark (.release a))/\∀B,b<B->(MemAct.ofEvent e).low B:=by
 obtain⟨loc,wr,j⟩:=e;rcases d with(h|h)|⟨i,k,h,c⟩
 . simp only at h;subst h
   simp[MemAct.ofEvent,MemAct.touch?,MemAct.low]
 . simp only at h;subst h
   simp[MemAct.ofEvent,MemAct.touch?,MemAct.low]
 . simp only at h c;subst h;subst c
   refine⟨λa f=>?_,by simp[MemAct.ofEvent],λB g=>by simpa[MemAct.ofEvent,MemAct.low,Loc.low]using g⟩;simp only[MemAct.ofEvent,MemAct.touch?,kn]at f
   grind
theorem c8.K0(h:c8 P A Z s kk OO J M gsz w t){es:aca}(p:EvM A.fb A.fo es){i:Nat}(hi:bT P A s i)(fn:FuncId)(pos:String):
 Bt kk OO w.heap.size t i (MemOp.ofEvents i fn pos es)/\(∀op∈MemOp.ofEvents i fn pos es,op.act.low w.heap.size)/\∀op∈MemOp.ofEvents i fn pos es,(∀a,op.act.touch?=some a->a.kind=.atomic/\yK A a.loc)/\∀a,op.act≠.mark (.release a):=by
 have v:A.fb<w.heap.size:=by obtain⟨c,e,f⟩:=h.vd;grind
 refine⟨λop d a k=>?_,λop d=>?_,λop d=>?_⟩<;>obtain⟨e,l,rfl⟩:=Go.Conc.mem_ofEvents d<;>obtain⟨o,q,x⟩:=nH (p e l)
 . obtain⟨f,n,g,j⟩:=o a k
   refine⟨f,λ_=>by rw[j];exact h.TM g,λm b hb r u=>h.quiet m b hb ?_ u i hi⟩
   rw[r,j];exact⟨rfl,.inl ⟨rfl,g⟩⟩
 . grind
 . refine⟨λa k=>?_,q⟩
   obtain⟨f,n,g,j⟩:=o a k;exact⟨f,by rw[j];exact⟨rfl,.inl ⟨rfl,g⟩⟩⟩
end
structure eZ{P:acD}(A:bJ)(s s':MS P)(i:Nat):Prop where
 w:∀l,l<A.n->A.b+l≠i->s'.w l=s.w l
 c:i≠A.cl->s'.c=s.c
 ms:i≠0->s'.ms=s.ms
 sp:s'.sp=s.sp
 d:s'.d=s.d
 iF:(∀l,l<A.n->(s'.w l).iF=(s.w l).iF)\/((dA P A s 0->∃m,s.ms=.add m\/s.ms=.spawn m)/\s.ms≠.parked)
section
variable{P:acD}{A:bJ}{Fin:abz}{Z:Base}{s s':MS P}{f f':Nat->Node P}{q q':acs}{kk kk':acy}{OO OO':acx}{J J' M:ack}{gs:abH}{gsz:Nat}{w w':World}{t u:Trace}{i:Nat}{g g1:aco}
theorem xv(h:∀l,l<A.n->(s'.w l).iF=(s.w l).iF):MS.rem P A.n s'=MS.rem P A.n s:=by unfold MS.rem;exact aaA λl a=>by grind
theorem eZ.live(h:eZ A s s' i){j:Nat}(hj:j≠i):dA P A s' j↔dA P A s j:=by
 constructor<;>rintro(⟨b,a⟩|⟨l,a,d,f⟩|⟨b,a⟩)
 . exact .inl ⟨b,by rw[<-h.ms (λe=>hj (b.trans e.symm))];exact a⟩
 . exact .inr (.inl ⟨l,a,d,by rw[<-h.w l a (λe=>hj (d.trans e))];exact f⟩)
 . exact .inr (.inr ⟨b,by rw[<-h.c (λe=>hj (b.trans e.symm))];exact a⟩)
 . exact .inl ⟨b,by rw[h.ms (λe=>hj (b.trans e.symm))];exact a⟩
 . exact .inr (.inl ⟨l,a,d,by rw[h.w l a (λe=>hj (d.trans e))];exact f⟩)
 . exact .inr (.inr ⟨b,by rw[h.c (λe=>hj (b.trans e.symm))];exact a⟩)
theorem eZ.walk(h:eZ A s s' i){j:Nat}(hj:j≠i):gu P A s' j↔gu P A s j:=by
 constructor<;>rintro(⟨b,a⟩|⟨l,a,d,f⟩|⟨b,a⟩)
 . exact .inl ⟨b,by rw[<-h.ms (λe=>hj (b.trans e.symm))];exact a⟩
 . exact .inr (.inl ⟨l,a,d,by rw[<-h.w l a (λe=>hj (d.trans e))];exact f⟩)
 . exact .inr (.inr ⟨b,by rw[<-h.c (λe=>hj (b.trans e.symm))];exact a⟩)
 . exact .inl ⟨b,by rw[h.ms (λe=>hj (b.trans e.symm))];exact a⟩
 . exact .inr (.inl ⟨l,a,d,by rw[h.w l a (λe=>hj (d.trans e))];exact f⟩)
 . exact .inr (.inr ⟨b,by rw[h.c (λe=>hj (b.trans e.symm))];exact a⟩)
theorem eZ.held(h:eZ A s s' i){j:Nat}(hj:j≠i):fq P A s' j↔fq P A s j:=by
 constructor<;>rintro(⟨b,a⟩|⟨l,a,c,d⟩)
 . exact .inl ⟨b,by rw[<-h.ms (λe=>hj (b.trans e.symm))];exact a⟩
 . exact .inr ⟨l,a,c,by rw[<-h.w l a (λe=>hj (c.trans e))];exact d⟩
 . exact .inl ⟨b,by rw[h.ms (λe=>hj (b.trans e.symm))];exact a⟩
 . exact .inr ⟨l,a,c,by rw[h.w l a (λe=>hj (c.trans e))];exact d⟩
theorem lN(K:A.b+A.n+1<=Z.lk)(t:eZ A s s' i)(L:∀j,j≠i->f' j=f j)(M:∀j,j≠i->q' j=q j)(N:∀j,j≠i->j<A.b+A.n+1->kk' j=kk j)(Q:∀j,j≠i->j<A.b+A.n+1->OO' j=OO j)(R:∀j,j≠i->J j->J' j)
 (o:((s.sh.ms=0->s'.sh.ms=0)/\(s.gm=0->s'.gm=0))\/(mayWake P g=true/\(g1.status=.running\/g1.status=.finished))) (S:∀{i k O y},TL P A Fin s i k O y->y.status=.running/\y.offers=none):
 Beside (bY P A Fin Z K) s s' f f' q q' kk kk' OO OO' J J' w' i g g1:=by
 have hb:=A.hb;have wl:∀{j l:Nat},l<A.n->j≠i->j=A.b+l->s'.w l=s.w l:=λ{j l} E a e=>t.w l E (λh=>a (e.trans h))
 have x:∀{j:Nat},j≠i->j=0->s'.ms=s.ms:=λa e=>t.ms (λh=>a (e.trans h.symm))
 have H:∀{j:Nat},j≠i->j=A.cl->s'.c=s.c:=λa e=>t.c (λh=>a (e.trans h.symm))
 refine⟨L,M,N,Q,λj a _ h=>R j a h,λj a=>t.live a,λj a=>t.walk a,λj a=>t.held a,λj a E=>?_,λj k O y a _ F=>?_,λj a I=>?_,λj a I hd=>?_,λj k O y a T F=>?_,λj y a _ U=>?_⟩
 . show ck P A Fin s' j=ck P A Fin s j
   unfold ck;by_cases d:j=0
   . rcases t.iF with u|⟨u,_⟩
     . simp only[if_pos d,x a d,xv u]
     . subst d
       obtain⟨m,e|e⟩:=u E<;>simp only[if_true,x a rfl,e]
   rcases E with⟨G,_⟩|⟨l,p,r,_⟩|⟨G,_⟩
   . omega
   . have e:j-A.b=l:=by omega
     grind
   grind
 . rcases F with⟨d,h⟩|⟨l,p,r,B⟩|⟨d,h⟩
   . exact .inl ⟨d,by grind⟩
   . exact .inr (.inl ⟨l,p,r,by grind⟩)
   . exact .inr (.inr ⟨d,by grind⟩)
 . show dL P A s' j=dL P A s j
   unfold dL;rcases I with⟨d,h1⟩|⟨l,p,r,_⟩|⟨d,_⟩
   . grind
   . grind
   grind
 . rcases o with⟨o,v⟩|⟨hm,u⟩
   . refine .inl ?_
     rcases hd with⟨l,sv,Y,p,r,B,C⟩|⟨d,B,C⟩
     . exact .inl ⟨l,sv,Y,p,r,by grind,o C⟩
     . exact .inr ⟨d,by grind,v C⟩
   . refine .inr λy V=>?_
     obtain⟨W,a2⟩:=S V;have H:(mayWake P g && g1.status !=.blocked && g1.status !=.waiting)=true:=by grind
     unfold Go.Conc.woken;rw[if_pos H,zO W a2]
 . rcases F with⟨d,D,z,p,r,B,C⟩|h
   . rcases t.iF with u|⟨_,u⟩
     . exact .inl ⟨d,D,z,p,r,B,by rw[xv u];exact C⟩
     . rcases T with⟨_,h7⟩|⟨l,_,h7,_⟩
       . simp_all
       . omega
   . exact .inr h
 . exact λl b X p r B=>U l b X p r (by grind)
variable{j:Nat}{x:bn P}{sh:Mu.Sh}
theorem xu(hj:j<A.n)(h:x.iF=(s.w j).iF\/((dA P A s 0->∃m,s.ms=.add m\/s.ms=.spawn m)/\s.ms≠.parked)):eZ A s (s.aT j x sh) (A.b+j):=⟨λl _ a=>cy (by omega),λ_=>rfl,λ_=>rfl,rfl,rfl,h.imp_left λh l _=>by
 by_cases e:l=j
 . subst e;rw[aU,h]
 . rw[cy e]⟩
theorem pL(c:A.b+A.n+1<=Z.lk)(hj:j<A.n)(d:x.iF=(s.w j).iF)(e:∀i,i≠A.b+j->f' i=f i)(l:∀i,i≠A.b+j->q' i=q i)(m:∀i,i≠A.b+j->i<A.b+A.n+1->kk' i=kk i)(o:∀i,i≠A.b+j->i<A.b+A.n+1->OO' i=OO i)(p:∀i,i≠A.b+j->J i->J' i)
 (a:(s.sh.ms=0->sh.ms=0)\/(mayWake P g=true/\g1.status=.running)) (r:∀{i k O y},TL P A Fin s i k O y->y.status=.running/\y.offers=none):
 Beside (bY P A Fin Z c) s (s.aT j x sh) f f' q q' kk kk' OO OO' J J' w' (A.b+j) g g1:=
 lN c (xu hj (.inl d)) e l m o p (a.imp (λh=>⟨h,id⟩) λh=>⟨h.1,.inl h.2⟩) r
theorem mF(c:A.b+A.n+1<=Z.lk)(hj:j<A.n)(d:(s.w j).work=true)(e:x.work=true)(h:∀i,i≠A.b+j->f' i=f i)(l:∀i,i≠A.b+j->q' i=q i)(m:∀i,i≠A.b+j->i<A.b+A.n+1->kk' i=kk i)(o:∀i,i≠A.b+j->i<A.b+A.n+1->OO' i=OO i)(p:∀i,J i->J' i)
 (a:(s.sh.ms=0->sh.ms=0)\/(mayWake P g=true/\g1.status=.running)) (r:∀{i k O y},TL P A Fin s i k O y->y.status=.running/\y.offers=none):
 Beside (bY P A Fin Z c) s (s.aT j x sh) f f' q q' kk kk' OO OO' J J' w' (A.b+j) g g1:=
 pL c hj (by rw[(bz e).2.2.1,(bz d).2.2.1]) h l m o (λi _=>p i) a r
end
def bn.j9{P:acD}:bn P->Bool
 |.lk ..=>true|.un ..=>true|_=>false
theorem iO{P:acD}{x:bn P}(h:x.j9=true):x.work=true:=by cases x<;>simp_all [bn.j9,bn.work]
section
variable{P:acD}{A:bJ}{Fin:abz}{Z:Base}{s:MS P}{f:Nat->Node P}{q:acs}{kk:acy}{OO:acx}{J M:ack}{gs:abH}{w w':World}{t:Trace}{j:Nat}{x:bn P}{sh:Mu.Sh}{g g1:aco}
theorem vU(hj:j<A.n)(h:(s.w j).busy=true):dU P A s (A.b+j):=.inl ⟨j,hj,rfl,h⟩
theorem iG(I:bO A.n s)(hj:j<A.n)(h:(s.w j).jq=false):bT P A s (A.b+j):=by
 refine .inr (.inl ⟨j,?_,rfl⟩);have:=I.idle j hj
 simp_all
theorem iP(hj:j<A.n)(h:(s.w j).j9=true):gu P A s (A.b+j):=.inr (.inl ⟨j,hj,rfl,by cases e:s.w j<;>simp_all [bn.j9]⟩)
theorem mG(hj:j<A.n)(h:(s.w j).j9=true):¬dA P A s (A.b+j):=by
 have:=A.hb;rintro(⟨e,_⟩|⟨l,a,c,d⟩|⟨e,_⟩)
 . omega
 . obtain rfl:l=j:=by omega
   cases e:s.w l<;>simp_all [bn.j9]
 . omega
theorem pM(hj:j<A.n)(h:(s.w j).j9=true):¬fq P A s (A.b+j):=by
 have:=A.hb;rintro(⟨e,_⟩|⟨l,c,d,a⟩)
 . omega
 . obtain rfl:l=j:=by omega
   rw[a]at h;cases h
theorem eF(hj:j<A.n):dL P A s (A.b+j)=(s.w j).deaf:=by
 have:=A.hb;unfold dL
 grind
theorem CY(u:A.b+A.n+1<=Z.lk)(L:bF (bY P A Fin Z u) Z s f q kk OO J M gs w t)(hj:j<A.n)(K:(s.w j).work=true){d:Nat}(N:Deaf t (A.b+j)=d)(Q:¬fq P A s (A.b+j))(h2:x.j9=true)(ho:x.owns=(s.w j).owns)(R:A.dir=true->x.iv=(s.w j).iv)(hI:bO A.n (s.aT j x sh))(hL:MS.gg A.n (s.aT j x sh) s)
 (hg:gs[A.b+j]?=some g){es:aca}(S:stepG P false g w=.go g1 w' es) (o:MW A.fb A.fo w w') (T:ShM A.fb A.fo w' sh) (U:EvM A.fb A.fo es) (hd:deafBehind d es=x.deaf)
 (hs:∃n g',jb P (kQ A) n g1 g'/\GN P A j x (kk (A.b+j)) (OO (A.b+j)) g') (v:(s.sh.ms=0->sh.ms=0)\/(mayWake P g=true/\g1.status=.running)) (sl:abC):
 ∃ops m',runT P (crowd gs w sl) (A.b+j)=(.next m',ops)/\∃s' f' q' kk' OO' J' M' gs' z V,m'=crowd gs' z V/\MS.gg A.n s' s/\bF (bY P A Fin Z u) Z s' f' q' kk' OO' J' M' gs' z (t++ops):=by
 obtain⟨n,g',C,W⟩:=hs;have hb:=A.hb;have B:=bd (P:=P) (A:=A) (Fin:=Fin) (Z:=Z) u;have w2:=iO h2;have p:c8 P A Z s kk OO J M gs.size w t:=L.ex;have X:(A.b+j==0)=false:=by simp;omega
 have D:=runT_crowd_go (P:=P) (sl:=sl) (i:=A.b+j) hg (by rw[X];exact S)
 have E:bT P A s (A.b+j):=iG p.I hj (bz K).2.2.2.2.1;obtain⟨y1,y2,y3⟩:=p.K0 U E g.frame.fn g.frame.place;have m:∀op∈MemOp.ofEvents (A.b+j) g.frame.fn g.frame.place es,op.g=A.b+j:=λop Y=>by obtain⟨e,_,rfl⟩:=Go.Conc.mem_ofEvents Y;rfl
 obtain⟨m1,m2,c,e,c',m3,m4,_⟩:=ot o p.vd;have hP:=L.cO.sync (i:=A.b+j) (.inr ((p.hJ _).2 (vU hj (bz K).2.2.2.2.2.1))) m m1 (p.calm o) (p.kept o) y2 y1;have F:c8 P A Z (s.aT j x sh) kk OO J M gs.size w' (t++MemOp.ofEvents (A.b+j) g.frame.fn g.frame.place es):=p.work hj K w2 ho R hI T m2 ⟨c',e,m4⟩ y3
 have r:Beside (bY P A Fin Z u) s (s.aT j x sh) f f q (upd q (A.b+j) n) kk kk OO OO J J w' (A.b+j) g g1:=mF u hj K w2 (λ_ _=>rfl) (λi hi=>upd_ne q n hi) (λ_ _ _=>rfl) (λ_ _ _=>rfl) (λ_ h=>h) v (λ{i k O y} hA=>B.kJ (s:=s) (i:=i) (k:=k) (O:=O) (g:=y) hA)
 have a:((s.aT j x sh).w j).j9=true:=by rw[aU];exact h2
 refine⟨_,_,D,s.aT j x sh,f,upd q (A.b+j) n,kk,OO,J,M,_,_,_,rfl,hL,?_⟩;refine bF.step B L hg m hP F (λl y G hA=>?_) r ⟨λG=>absurd G (mG hj a),λ_=>⟨mG hj a,?_,?_,g',?_,?_⟩,λhh=>absurd hh (pM hj a),λ_ hn _=>absurd (iP hj a) hn⟩
 . have H:l≠A.b+j:=λe=>Q (e ▸ G)
   exact B.sC F ((r.held l H).2 G) _ _ (r.Su l _ _ _ H G hA)
 . show A.b+j<A.b+A.n+1;omega
 . rw[Deaf_own,N]
   show deafBehind d es=dL P A (s.aT j x sh) (A.b+j);rw[eF hj,aU];exact hd
 . exact .inr (.inl ⟨j,hj,rfl,by rw[aU];exact W⟩)
 . exact .inr (by rw[upd_same];exact C)
theorem xw(d:A.b+A.n+1<=Z.lk)(u:bF (bY P A Fin Z d) Z s f q kk OO J M gs w t)(hj:j<A.n)(e:(s.w j).j9=true)(y:x.j9=true)(z:x.owns=(s.w j).owns)(h:A.dir=true->x.iv=(s.w j).iv)(B:bO A.n (s.aT j x sh))(C:MS.gg A.n (s.aT j x sh) s)
 (D:gs[A.b+j]?=some g){es:aca}(i:stepG P false g w=.go g1 w' es) (k:MW A.fb A.fo w w') (l:ShM A.fb A.fo w' sh) (m:EvM A.fb A.fo es) (hd:deafBehind (s.w j).deaf es=x.deaf)
 (E:∃n g',jb P (kQ A) n g1 g'/\GN P A j x (kk (A.b+j)) (OO (A.b+j)) g') (a:(s.sh.ms=0->sh.ms=0)\/(mayWake P g=true/\g1.status=.running)) (sl:abC):
 ∃ops v,runT P (crowd gs w sl) (A.b+j)=(.next v,ops)/\∃s' f' q' kk' OO' J' M' gs' c o,v=crowd gs' c o/\MS.gg A.n s' s/\bF (bY P A Fin Z d) Z s' f' q' kk' OO' J' M' gs' c (t++ops):=by
 have p:=iP (P:=P) (A:=A) (s:=s) hj e;obtain⟨_,_,r,_⟩:=u.walk _ p;exact CY d u hj (iO e) (r.trans (eF hj)) (pM hj e) y z h B C D i k l m hd E a sl
end
namespace Mu
section
variable{n:Nat}{pcs:Nat->Pc}{s:Sh}{i:Nat}
theorem OI{f:Pc->Nat}(h:∀p,f p<=1)(pcs:Nat->Pc)(n:Nat):fB n (λi=>f (pcs i))<=n:=by
 have:=EN (f:=λi=>f (pcs i)) (c:=1) (λi=>h _) n;omega
theorem Inv.V3(h:Inv n pcs s):s.w.N<=n+1/\s.ms<=1:=by
 have b:=OI (f:=cJ) (λp=>by cases p<;>simp[cJ]) pcs n
 cases e:s.w.S with
 | false=>
   obtain⟨c,_,a⟩:=h.j2 e;have:s.w.K.toNat<=1:=by cases s.w.K<;>simp
   omega
 | true=>
   obtain⟨_,_,a,d⟩:=h.j3 e;have:(!s.w.L).toNat<=1:=by cases s.w.L<;>simp
   omega
theorem Inv.OJ(h:Inv n pcs s)(hi:i<n)(a:pcs i=.held):s.w.L=true:=by
 have:cd (pcs i)<=fB n (λj=>cd (pcs j)):=iN (λj=>cd (pcs j)) hi;rw[h.j1,a,show cd .held=1 from rfl]at this
 grind
theorem Inv.Q2(h:Inv n pcs s)(hi:i<n){old:Wd}{sv:Bool}(a:pcs i=.add old sv):s.w.L=false/\s.w.S=true/\s.w.N≠0:=by
 have:dg (pcs i)<=fB n (λj=>dg (pcs j)):=iN (λj=>dg (pcs j)) hi;rw[a,show dg (.add old sv)=1 from rfl]at this;cases e:s.w.S with
 |false=>obtain⟨_,b,_⟩:=h.j2 e;omega
 | true=>
   obtain⟨_,_,c,d⟩:=h.j3 e
   grind
end
def Bv:Pc->Bool
 |.rd _=>true|.sq ..=>true|.sw ..=>true|.ko ..=>true|.gE _=>true|.tq=>true|.up _=>true|.add ..=>true|.held=>true|_=>false
def E4:Pc->Bool
 |.out=>true|.ja _=>true|.vC=>true|.give=>true|_=>false
theorem Qa(old:Wd)(l:Lo):Bv (nx old l)=true:=by unfold nx;split<;>rfl
theorem TN{old:Wd}{l:Lo}{p:Pc}(h:p∈hd old l):Bv p=true:=by
 unfold hd at h;rw[aaG]at h;rcases h with h|h
 . split at h
   . rw[lb]at h;subst h;split<;>rfl
   . cases h
 . rw[lb]at h;subst h;rfl
theorem TO{p q:Pc}{s s':Sh}(b:p=.iq\/(Bv p=true/\p≠.held))(h:(q,s')∈mv p s)(e:q≠.bad):Bv q=true:=by
 rcases b with rfl|⟨b,c⟩
 . simp only[mv]at h
   split at h<;>(rw[lb,zG]at h;obtain⟨rfl,rfl⟩:=h;rfl)
 cases p<;>simp only[Bv,zR]at b
 case rd l=>simp only[mv,lb,zG]at h;obtain⟨rfl,rfl⟩:=h;exact Qa _ _
 case sq old l=>simp only[mv,abd,zG]at h;obtain⟨a,d,rfl,rfl⟩:=h;exact TN d
 case sw old l=>simp only[mv]at h;split at h<;>(rw[lb,zG]at h;obtain⟨rfl,rfl⟩:=h;rfl)
 case ko old l=>
  simp only[mv]at h;split at h
  . simp_all
  split at h
  . rw[lb,zG]at h;obtain⟨rfl,rfl⟩:=h;split<;>rfl
  . rw[lb,zG]at h;obtain⟨rfl,rfl⟩:=h;rfl
 case gE sv=>
  simp only[mv]at h;split at h
  . cases h
  . rw[lb,zG]at h;obtain⟨rfl,rfl⟩:=h;split<;>rfl
 case tq=>
  simp only[mv,aax,zG,aaE,or_false]at h;rcases h with⟨rfl,rfl⟩|⟨rfl,rfl⟩<;>rfl
 case up sv=>
  simp only[mv]at h;split at h
  . split at h
    . simp_all
    . rw[lb,zG]at h;obtain⟨rfl,rfl⟩:=h;rfl
  . rw[lb,zG]at h;obtain⟨rfl,rfl⟩:=h;exact Qa _ _
 case add old sv=>simp only[mv,lb,zG]at h;obtain⟨rfl,rfl⟩:=h;rfl
 simp_all
theorem TP{p q:Pc}{s s':Sh}(a:p=.held\/(E4 p=true/\p≠.out))(h:(q,s')∈mv p s)(c:q≠.bad):E4 q=true:=by
 rcases a with rfl|⟨a,b⟩
 . simp only[mv]at h
   split at h
   . simp_all
   . rw[lb,zG]at h
     obtain⟨rfl,rfl⟩:=h;split
     . rfl
     split
     . rfl
     split<;>rfl
 cases p<;>simp only[E4,zR]at a
 case out=>simp_all
 case ja old=>simp only[mv]at h;split at h<;>(rw[lb,zG]at h;obtain⟨rfl,rfl⟩:=h;rfl)
 case vC=>simp only[mv,lb,zG]at h;obtain⟨rfl,rfl⟩:=h;split<;>rfl
 case give=>simp only[mv,lb,zG]at h;obtain⟨rfl,rfl⟩:=h;rfl
theorem Qb{p q:Pc}{s s':Sh}(b:p≠.give)(h:(q,s')∈mv p s)(a:s.ms=0):s'.ms=0:=by
 cases p<;>simp only[mv]at h
 case out=>cases h
 case bad=>cases h
 case give=>simp_all
 case sq=>grind
 case tq=>grind
 all_goals repeat' split at h
 all_goals first
  |(cases h;done)
  |(rw[lb,zG]at h;obtain⟨_,rfl⟩:=h;first|exact a|(show s.ms-1=0;omega))
end Mu
def ug:sE->Bool
 |.iq=>true|.rd _=>true|.sq ..=>true|.sw ..=>true|.ko ..=>true|.gE _=>true|.tq=>true|.up _=>true|.add ..=>true|.held=>true|.ja _=>true|.vC=>true|.give=>true
 |_=>false
theorem K1{q:Mu.Pc}{p:sE}(h:To q p):p.abs=q:=by cases h<;>rfl
theorem TR{q:Mu.Pc}{p:sE}(h:To q p)(a:Mu.Bv q=true):CQ p=true/\p≠.ld/\p≠.la:=by cases h<;>simp_all [Mu.Bv,CQ]
theorem TS{q:Mu.Pc}{p:sE}(h:To q p)(a:Mu.E4 q=true):yY p=true/\p≠.Gy/\p≠.ur/\p≠.ud:=by cases h<;>simp_all [Mu.E4,yY]
theorem K2{q:Mu.Pc}{p:sE}(h:To q p):q≠.bad:=by cases h<;>simp
section
variable{P:acD}{nm:yV}(C:gn P nm)(X:gq P nm){n:Nat}{pcs:Nat->Mu.Pc}{s:Mu.Sh}{i:Nat}{p:sE}{b o:Nat}{kind:acv}{Wd:abZ}{cs:acb}{g:aco}{w:World}{main:Bool}
include C X in
theorem CZ(I:Mu.Inv n pcs s)(hi:i<n)(v:n<=900)(c:pcs i=p.abs)(f:ug p=true)(a:ShM b o w s)(h:nT P nm b o kind p cs g):
 lK P nm b o kind Wd cs g w main p.abs s\/((∃sv,p=.gE sv)/\s.ms=0/\stepG P main g w=.go {g with status:=.blocked} w #[]):=by
 obtain⟨x,k⟩:=I.V3;have hb:s.w.N<=1000:=by omega
 have j:∀{q s'},(q,s')∈Mu.mv (pcs i) s->Mu.loc q:=λ{q s'} f=>by
  have:=(I.step hi f).j0 i hi
  rwa [Mu.ak]at this
 have d:Mu.loc (pcs i):=I.j0 i hi;rw[c]at j d;cases p<;>simp only[ug,zR]at f
 case iq=>exact .inl (HP C X a h)
 case rd l=>exact .inl (Ox C X a hb (j (q:=Mu.nx s.w l) (s':=s) (by simp[sE.abs,Mu.mv])) h)
 case sq old l=>exact .inl (Oy C X a d h)
 case sw old l=>exact .inl (Oz C X a d h)
 case ko old l=>exact .inl (KM C X a d h)
 case gE sv=>
  by_cases e:s.ms=0
  . exact .inr ⟨⟨sv,rfl⟩,e,CP C X a e h⟩
  . exact .inl (HQ C X a e h)
 case tq=>exact .inl (OA C X a h)
 case up sv=>exact .inl (OB C X a hb (λq s' m=>j m) h)
 case add old sv=>obtain⟨r,t,u⟩:=I.Q2 hi c;exact .inl (KN C X a hb r t u h)
 case held=>exact .inl (HR C X a hb (I.OJ hi c) h)
 case ja old=>exact .inl (HS C X a h)
 case vC=>exact .inl (KO C X a hb h)
 case give=>exact .inl (HT C X a (by omega) h)
end
section
variable{P:acD}{A:bJ}{Fin:abz}{Z:Base}{s:MS P}{f:Nat->Node P}{q:acs}{kk:acy}{OO:acx}{J M:ack}{gs:abH}{w:World}{t:Trace}{j:Nat}{g:aco}
def Goes(P:acD)(A:bJ)(Fin:abz)(Z:Base)(f:A.b+A.n+1<=Z.lk)(s:MS P)(gs:abH)(w:World)(t:Trace)(sl:abC)(i:Nat):Prop:=∃ops e,runT P (crowd gs w sl) i=(.next e,ops)/\∃s' f' q' kk' OO' J' g a c d,e=crowd a c d/\MS.gg A.n s' s/\bF (bY P A Fin Z f) Z s' f' q' kk' OO' J' g a c (t++ops)
def E5(P:acD)(A:bJ)(s:MS P)(gs:abH)(w:World)(sl:abC)(i:Nat)(g:aco):Prop:=QZ P A s i/\runT P (crowd gs w sl) i=(.next (crowd (gs.setIfInBounds i (blk g)) w sl),#[])
theorem C0(e:gs[A.b+j]?=some g)(a:stepG P false g w=.go {g with status:=.blocked} w #[])(sl:abC):runT P (crowd gs w sl) (A.b+j)=(.next (crowd (gs.setIfInBounds (A.b+j) (blk g)) w sl),#[]):=by
 have hb:=A.hb;have c:(A.b+j==0)=false:=by simp;omega
 have h:=runT_crowd_go (P:=P) (sl:=sl) (i:=A.b+j) e (by rw[c];exact a)
 have d:woken P g {g with status:=.blocked} w=id:=funext λo=>by unfold Go.Conc.woken;simp
 rw[d,Array.map_id]at h;exact h
variable(C:gn P A.nm)(X:gq P A.nm)
include C X in
theorem OK(G:A.b+A.n+1<=Z.lk)(H:bF (bY P A Fin Z G) Z s f q kk OO J M gs w t)(hj:j<A.n){p:sE}{Y:vG P}(a:s.w j=.lk p Y)(K:gs[A.b+j]?=some g)(V:GN P A j (.lk p Y) (kk (A.b+j)) (OO (A.b+j)) g)(W:p≠.la)(sl:abC):
 Goes P A Fin Z G s gs w t sl (A.b+j)\/E5 P A s gs w sl (A.b+j) g:=by
 have m:c8 P A Z s kk OO J M gs.size w t:=H.ex;have a7:CQ p=true:=by have:=m.I.ok j hj;rw[a]at this;exact this
 have L:(s.w j).j9=true:=by rw[a];rfl
 have v:=iO L;have l:(s.w j).pc=p.abs:=by rw[a];rfl
 have hn:=A.hn;have hb:=A.hb;have aC:(A.b+j==0)=false:=by simp;omega
 obtain⟨kind,c,rest,e,Q,R,S,T,o,r,U⟩:=V
 by_cases N:ug p=true
 . rcases CZ (Wd:=kQ A) (main:=false) C X m.I.mu hj hn l N m.mu R with⟨g1,w',es,qq,s',z,i,B,D,⟨hr,E,⟨k,d⟩,F⟩,a8,a9,ad,al⟩|⟨⟨sv,rfl⟩,u,i⟩
   . left
     have av:Mu.Bv qq=true:=Mu.TO (by cases p<;>simp_all [CQ,ug,sE.abs,Mu.Bv]) B (K2 D)
     obtain⟨k1,k2,k3⟩:=TR D av;have y:((bn.lk z Y).pc,s')∈Mu.mv (s.w j).pc s.sh:=by rw[l,show(bn.lk z Y).pc=z.abs from rfl,K1 D];exact B
     have ax:(s.w j).deaf=1:=by rw[a];cases p<;>simp_all [bn.deaf,ug,CQ]
     have ay:(bn.lk z Y).deaf=1:=by cases z<;>simp_all [bn.deaf]
     refine xw (x:=.lk z Y) G H hj L rfl (by rw[a];rfl) (λ_=>by rw[a];rfl) (m.I.mv hj v rfl k1 y) (GP m.I hj v rfl (by rw[a];rfl) y ?_) K i a8 a9 ad (by rw[al,ax,ay]) ⟨k,E,d,kind,c,rest,e,Q,F,S,T,o,r,U⟩ (.inl λu=>Mu.Qb ?_ B u) sl
     . cases z<;>simp_all [bn.ex]
     . cases p<;>simp_all [ug,CQ,sE.abs]
   . right
     exact⟨.inl ⟨j,sv,Y,hj,rfl,a,u⟩,C0 K i sl⟩
 . cases p<;>simp only[ug,CQ,not_true_eq_false,zR]at N a7
   case ld=>obtain⟨g1,i,hr,E,⟨k,d⟩,F⟩:=Bj (Wd:=kQ A) (main:=false) (w:=w) C X R;left;exact xw (x:=.lk .iq Y) (sh:=s.sh) G H hj L rfl (by rw[a];rfl) (λ_=>by rw[a];rfl) (m.I.Xk hj v rfl rfl l rfl) (KY hj v rfl (by rw[a];rfl) l rfl (by rw[a];rfl) rfl) K i (bf rfl) m.mu (λe O=>by simp at O;subst O;exact .inl (.inl rfl)) (by rw[a];rfl) ⟨k,E,d,kind,c,rest,e,Q,F,S,T,o,r,U⟩ (.inl λu=>u) sl
   case t1 sv=>obtain⟨g1,i,hr,E,⟨k,d⟩,F⟩:=Ov (Wd:=kQ A) (main:=false) (w:=w) C X R;left;exact xw (x:=.lk (.gE sv) Y) (sh:=s.sh) G H hj L rfl (by rw[a];rfl) (λ_=>by rw[a];rfl) (m.I.still hj v rfl rfl (by rw[l];rfl)) (lM hj v rfl (by rw[a];rfl) (by rw[l];rfl) (by rw[a];simp[bn.ex])) K i (bf rfl ⟨⟨w.tick,rfl⟩,rfl⟩) (m.mu.heap rfl) fJ (by rw[a];rfl) ⟨k,E,d,kind,c,rest,e,Q,F,S,T,o,r,U⟩ (.inl λu=>u) sl
   case le=>
    obtain⟨g1,i,hr,E,⟨k,d⟩,F⟩:=GD (Wd:=kQ A) (main:=false) (w:=w) C X (λw h=>h.2.2) R
    left;exact xw (x:=.lk .la Y) (sh:=s.sh) G H hj L rfl (by rw[a];rfl) (λ_=>by rw[a];rfl) (m.I.still hj v rfl rfl (by rw[l];rfl)) (lM hj v rfl (by rw[a];rfl) (by rw[l];rfl) (by rw[a];simp[bn.ex])) K i (bf rfl) m.mu (λe O=>by simp at O;subst O;exact .inl (.inr rfl)) (by rw[a];rfl) ⟨k,E,d,kind,c,rest,e,Q,F,S,T,o,r,U⟩ (.inl λu=>u) sl
   case la=>exact absurd rfl W
end
section
variable{P:acD}{A:bJ}{Fin:abz}{Z:Base}{s:MS P}{f:Nat->Node P}{q:acs}{kk:acy}{OO:acx}{J M:ack}{gs:abH}{w:World}{t:Trace}{j:Nat}{g:aco}
variable(C:gn P A.nm)(X:gq P A.nm)
include C X in
theorem OL(B:A.b+A.n+1<=Z.lk)(L:bF (bY P A Fin Z B) Z s f q kk OO J M gs w t)(hj:j<A.n){p:sE}{Y:vG P}(a:s.w j=.un p Y)(Q:gs[A.b+j]?=some g)(R:GN P A j (.un p Y) (kk (A.b+j)) (OO (A.b+j)) g)(S:p≠.ur)(T:p≠.ue)(sl:abC):
 Goes P A Fin Z B s gs w t sl (A.b+j):=by
 have m:c8 P A Z s kk OO J M gs.size w t:=L.ex;have F:yY p=true:=by have:=m.I.ok j hj;rw[a]at this;exact this
 have N:(s.w j).j9=true:=by rw[a];rfl
 have D:=iO N;have i:(s.w j).pc=p.abs:=by rw[a];rfl
 have hn:=A.hn;have hb:=A.hb;obtain⟨kind,c,rest,U,O,V,W,G⟩:=R
 by_cases u:ug p=true
 . have a7:¬(p=.Gy\/p=.ur):=by rintro(rfl|rfl)<;>cases u
   have hN:=G a7
   rcases CZ (Wd:=kQ A) (main:=false) C X m.I.mu hj hn i u m.mu O with⟨g1,w',es,qq,s',o,l,y,z,⟨hr,H,⟨k,d⟩,K⟩,a8,a9,ad,al⟩|⟨⟨sv,rfl⟩,E,l⟩
   . have av:Mu.E4 qq=true:=Mu.TP (by cases p<;>simp_all [yY,ug,sE.abs,Mu.E4]) y (K2 z)
     obtain⟨k1,k2,k3,k4⟩:=TS z av;have r:((bn.un o Y).pc,s')∈Mu.mv (s.w j).pc s.sh:=by rw[i,show(bn.un o Y).pc=o.abs from rfl,K1 z];exact y
     have ax:(s.w j).deaf=1:=by rw[a];cases p<;>simp_all [bn.deaf,ug,yY]
     have ay:(bn.un o Y).deaf=1:=by cases o<;>simp_all [bn.deaf]
     have aC:(s.w j).owns=false:=by rw[a];cases p<;>simp_all [bn.owns,ug,yY]
     have aE:(bn.un o Y).owns=false:=by cases o<;>simp_all [bn.owns]
     refine xw (x:=.un o Y) B L hj N rfl (by rw[aC,aE]) (λ_=>by rw[a];rfl) (m.I.mv hj D rfl k1 r) (GP m.I hj D rfl (by rw[a];rfl) r ?_) Q l a8 a9 ad (by rw[al,ax,ay]) ⟨k,H,d,kind,c,rest,U,K,V,λh=>absurd h (λh=>h.elim k2 k3),λ_=>hN⟩ ?_ sl
     . cases o<;>simp_all [bn.ex]
     . by_cases aL:p=.give
       . subst aL;exact .inr ⟨HY C X O,hr⟩
       . refine .inl λE=>Mu.Qb ?_ y E
         cases p<;>simp_all [ug,yY,sE.abs]
   . exact absurd F (by simp[yY])
 . cases p<;>simp only[ug,yY,not_true_eq_false,zR]at u F
   case Gy=>
    obtain⟨v,hv⟩:=((bd (P:=P) (A:=A) (Fin:=Fin) (Z:=Z) B).wd m).2.2;obtain⟨g1,l,hr,H,⟨k,d⟩,K⟩:=xk (Wd:=kQ A) (main:=false) (w:=w) C X (λw h=>h.2.2) hv O
    exact xw (x:=.un .ur Y) (sh:=s.sh) B L hj N rfl (by rw[a];rfl) (λ_=>by rw[a];rfl) (m.I.still hj D rfl rfl (by rw[i];rfl)) (lM hj D rfl (by rw[a];rfl) (by rw[i];rfl) (by rw[a];simp[bn.ex])) Q l (bf rfl) m.mu fJ (by rw[a];rfl) ⟨k,H,d,kind,c,rest,U,K,V,λ_=>W (.inl rfl),λh=>absurd (.inr rfl) h⟩ (.inl λE=>E) sl
   case ud=>
    have hN:=G (by rintro(h|h)<;>cases h)
    obtain⟨g1,l,hr,H,⟨k,d⟩,K⟩:=GA (Wd:=kQ A) (main:=false) (w:=w) C X O;exact xw (x:=.un .held Y) (sh:=s.sh) B L hj N rfl (by rw[a];rfl) (λ_=>by rw[a];rfl) (m.I.still hj D rfl rfl (by rw[i];rfl)) (lM hj D rfl (by rw[a];rfl) (by rw[i];rfl) (by rw[a];simp[bn.ex])) Q l (bf rfl) m.mu (λe he=>by simp at he;subst he;exact .inl (.inl rfl)) (by rw[a];rfl) ⟨k,H,d,kind,c,rest,U,K,V,λh=>absurd h (by simp),λ_=>hN⟩ (.inl λE=>E) sl
   case ur=>exact absurd rfl S
   case ue=>exact absurd rfl T
end
def TT.Q3{P:acD}{m:Mo}{K:ah}{O:aj}{g1 a:aco}(h:rJ P (λ_=>True) g1 a)(e:TT P m K O a):TT P m K O g1:=.step (λb c d=>b=K/\c=O/\d=a) h.1 (λb c d f=>by obtain⟨rfl,rfl,rfl⟩:=f;exact e) (λw g=>⟨a,w,#[],K,O,h.2 _ w trivial,Eff.refl _ _ _,g,rfl,rfl,rfl⟩)
theorem TT.C1{P:acD}{m:Mo}{K:ah}{O:aj}{g1 a:aco}(h:rJ P (λ_=>True) g1 a)(b:TT P m K O a){z:Node P}(c:pj z ⟨m,K,O,g1,TT.Q3 h b⟩):z=⟨m,K,O,a,b⟩:=by
 unfold TT.Q3 at c;cases c with
 |step _ _ _ _ d=>obtain⟨rfl,rfl,rfl⟩:=d;rfl
theorem TT.pre{P:acD}{m:Mo}{K:ah}{O:aj}:∀{k:Nat}{g1 a:aco},jb P (λ_=>True) k g1 a->(X:TT P m K O a)->∃T:TT P m K O g1,ve ⟨m,K,O,g1,T⟩ ⟨m,K,O,a,X⟩
 |0,g1,a,h,X=>by obtain rfl:g1=a:=h;exact⟨X,.refl _⟩
 | k + 1,g1,a,⟨d,c,h⟩,X=>by
   obtain⟨b,g⟩:=TT.pre h X;refine⟨TT.Q3 c b,λy hy f=>?_⟩;rcases hy with rfl|hy
   . exact f.elim
   . have:y=⟨m,K,O,d,b⟩\/Relation.TransGen pj y ⟨m,K,O,d,b⟩:=by
      cases hy with
      |single h=>exact .inl (TT.C1 c b h)
      | tail i j=>
        have e:=TT.C1 c b j
        simp_all
     exact g y this f
section
variable{P:acD}{A:bJ}{Fin:abz}{Z:Base}{s:MS P}{f:Nat->Node P}{q:acs}{kk:acy}{OO:acx}{J M:ack}{gs:abH}{w:World}{t:Trace}{j:Nat}{g:aco}
theorem kg(hj:j<A.n){h:Bool}{X:Node P}(e:s.w j=.run h X):dA P A s (A.b+j):=.inr (.inl ⟨j,hj,rfl,by simp_all⟩)
theorem uh(hj:j<A.n){h:Bool}{X:Node P}(e:s.w j=.run h X):¬gu P A s (A.b+j):=by
 have:=A.hb;rintro(⟨e,_⟩|⟨l,a,c,d⟩|⟨e,_⟩)
 . omega
 . simp_all
 . omega
theorem jR(hj:j<A.n){h:Bool}{X:Node P}(e:s.w j=.run h X):¬fq P A s (A.b+j):=by
 have:=A.hb;rintro(⟨e,_⟩|⟨l,a,c,d⟩)
 . omega
 simp_all
theorem nI(hj:j<A.n){h:Bool}{X:Node P}(e:s.w j=.run h X):ck P A Fin s (A.b+j)=iu P A j:=by
 have:=A.hb;unfold ck
 grind
variable(C:gn P A.nm)(X:gq P A.nm)(F:mc P A.nm)
include C X F in
theorem OM(z:A.b+A.n+1<=Z.lk)(D:bF (bY P A Fin Z z) Z s f q kk OO J M gs w t)(hj:j<A.n){Y:vG P}(E:s.w j=.un .ue Y)(hg:gs[A.b+j]?=some g)(W:GN P A j (.un .ue Y) (kk (A.b+j)) (OO (A.b+j)) g)(d:A.dir=false)(sl:abC):
 Goes P A Fin Z z s gs w t sl (A.b+j):=by
 have p:c8 P A Z s kk OO J M gs.size w t:=D.ex;have B:=bd (P:=P) (A:=A) (Fin:=Fin) (Z:=Z) z;have h1:(s.w j).j9=true:=by rw[E];rfl
 have u:=iO h1;have hb:=A.hb;have a7:(A.b+j==0)=false:=by simp;omega
 obtain⟨kind,c,rest,hk,hM,hm,ay,a8⟩:=W;have G:=a8 (by simp)
 rw[show Eu P A Y.N=Y.N by simp[Eu,d]]at G
 obtain⟨g1,a9,hr,g2,H,K⟩:=Bl (Wd:=λ_=>True) (main:=false) (w:=w) C X hM
 obtain⟨k,ad⟩:=H.trans (lL F K hk);obtain⟨T,hU⟩:=TT.pre ad (Y.c _ _ _ G);obtain⟨x,v⟩:∃x:bn P,x=.run false ⟨Y.m,kk (A.b+j),OO (A.b+j),_,Y.c _ _ _ G⟩:=⟨_,rfl⟩;have V:x.work=true:=by rw[v];rfl
 have a:∀sh,((s.aT j x sh).w j)=.run false ⟨Y.m,kk (A.b+j),OO (A.b+j),_,Y.c _ _ _ G⟩:=λsh=>by rw[aU,v]
 have al:EvM A.fb A.fo #[⟨.mark .enable,false,true⟩]:=λe he=>by simp at he;subst he;exact .inl (.inr rfl)
 have L:=runT_crowd_go (P:=P) (sl:=sl) (i:=A.b+j) hg (by rw[a7];exact a9)
 have Q:bT P A s (A.b+j):=iG p.I hj (bz u).2.2.2.2.1;obtain⟨y1,y2,y3⟩:=p.K0 al Q g.frame.fn g.frame.place;have o:∀op∈MemOp.ofEvents (A.b+j) g.frame.fn g.frame.place #[⟨.mark .enable,false,true⟩],op.g=A.b+j:=λop av=>by obtain⟨e,_,rfl⟩:=Go.Conc.mem_ofEvents av;rfl
 have hJ:J (A.b+j):=(p.hJ _).2 (vU hj (bz u).2.2.2.2.2.1);have hP:=D.cO.sync (i:=A.b+j) (.inr hJ) o rfl ⟨⟨.refl _,rfl⟩,λ_ _=>rfl⟩ (λb=>.inl rfl) y2 y1
 have hI:bO A.n (s.aT j x s.sh):=p.I.still hj u V (by rw[v];rfl) (by rw[v,E];rfl)
 have hL:MS.gg A.n (s.aT j x s.sh) s:=Bs hj u V ⟨_,_,by rw[v];rfl,by rw[E];rfl,.single (pj.de Y.N Y.h0 Y.ht Y.c G)⟩
 have R:c8 P A Z (s.aT j x s.sh) kk OO J M gs.size w (t++MemOp.ofEvents (A.b+j) g.frame.fn g.frame.place #[⟨.mark .enable,false,true⟩]):=p.work hj u V (by rw[v,E];rfl) (λh=>by rw[d]at h;cases h) hI p.mu (λ_ _=>rfl) p.vd y3
 have r:Beside (bY P A Fin Z z) s (s.aT j x s.sh) f (bS f (A.b+j) ⟨Y.m,kk (A.b+j),OO (A.b+j),g1,T⟩) q q kk kk OO OO J J w (A.b+j) g g1:=mF z hj u V (λi hi=>au _ _ hi) (λi hi=>rfl) (λ_ _ _=>rfl) (λ_ _ _=>rfl) (λ_ h=>h) (.inl λh=>h) (λ{i k O y} K=>B.kJ (s:=s) (i:=i) (k:=k) (O:=O) (g:=y) K)
 have S:=iP (P:=P) (A:=A) (s:=s) hj h1;refine⟨_,_,L,s.aT j x s.sh,bS f (A.b+j) ⟨Y.m,kk (A.b+j),OO (A.b+j),g1,T⟩,q,kk,OO,J,M,_,_,_,rfl,hL,?_⟩;refine bF.step B D hg o hP R (λl y hl K=>?_) r ⟨λ_=>?_,λh=>absurd h (uh hj (a _)),λh=>absurd h (jR hj (a _)),λh=>absurd (kg hj (a _)) h⟩
 . have U:l≠A.b+j:=λe=>(D.held l hl).2.1 (by rw[e];exact S)
   exact B.sC R ((r.held l U).2 hl) _ _ (r.Su l _ _ _ U hl K)
 . rw[ao]
   refine⟨by show A.b+j<A.b+A.n+1;omega,rfl,?_,rfl,rfl,hr,?_,.inr hJ,λl b X' h3 h4 h5=>?_⟩
   . show Y.m=ck P A Fin (s.aT j x s.sh) (A.b+j)
     rw[nI hj (a _)];exact hm
   . obtain⟨_,_,ax,_⟩:=D.walk _ S
     rw[Deaf_own,ax];show deafBehind (dL P A s (A.b+j)) _=0;rw[eF hj,E];rfl
   . obtain rfl:l=j:=by omega
     rw[a]at h5;cases h5;exact hU
end
section
variable{Z:Base}{kk:acy}{OO:acx}{J M:ack}{w:World}{t:Trace}
def iQ(kk:acy)(lk i:Nat):acy:=bS kk i ((kk i).join (kk lk))
def iw(OO:acx)(lk i mb:Nat)(x:Own):acx:=bS (bS OO i ((OO i).set mb x)) lk aj.bot
theorem cA.TU(h:cA Z kk OO J M w t){i mb:Nat}{x:Own}(hi:i≠Z.lk)(L:OO Z.lk mb=some x)(ho:∀c,OO Z.lk c≠none->c=mb)(N:Z.la.block<w.heap.size)(hd:Deaf t i=0)(hold:∀m a,m<Z.N0->touchAt t m=some a->a.loc.isMemory=true -> ¬Z.Shun a.loc->Knows t i m)(V:∀m a,Z.N0<=m->t.act? m≠some (.mark (.release a)))(fn:FuncId)(pos:String):
 cA Z (iQ kk Z.lk i) (iw OO Z.lk i mb x) J M w (t++MemOp.ofEvents i fn pos #[⟨.mark (.acquire Z.la),false,true⟩]):=by
 obtain⟨u,S⟩:∃u,u=MemOp.ofEvents i fn pos #[⟨.mark (.acquire Z.la),false,true⟩]:=⟨_,rfl⟩;have G:u=#[⟨i,fn,pos,.mark (.acquire Z.la)⟩]:=by rw[S,ofEvents_eq];simp[MemAct.ofEvent]
 rw[<-S];have A:ku u:=λop d=>by grind
 have W:∀op∈u,op.act.touch?=none:=λop d=>by rw[G]at d;simp at d;subst d;rfl
 have H:∀op∈u,op.g=i:=λop d=>by grind
 have I:∀m a,Z.N0<=m->(t++u).act? m≠some (.mark (.release a)):=λm a O e=>by
  rcases qw e with⟨o,_⟩|⟨op,d,o⟩
  . grind
  grind
 have X:OO i mb=none:=h.jl Z.lk i mb x (za hi) L;have eK:∀l,l≠i->iQ kk Z.lk i l=kk l:=λl Y=>au _ _ Y
 have q:iQ kk Z.lk i i=(kk i).join (kk Z.lk):=ao _ _ _;have eO:∀l,l≠i->l≠Z.lk->iw OO Z.lk i mb x l=OO l:=λl o B=>by unfold iw;rw[au _ _ B,au _ _ o]
 have C:iw OO Z.lk i mb x i=(OO i).set mb x:=by unfold iw;rw[au _ _ hi,ao]
 have D:iw OO Z.lk i mb x Z.lk=aj.bot:=by unfold iw;rw[ao]
 refine h.tR (λa b=>a=b\/(a=Z.lk/\b=i)) rfl ⟨⟨.refl _,rfl⟩,λ_ _=>rfl⟩ (λb=>.inl rfl) (λop d=>by rw[G]at d;simp at d;subst d;simpa[MemAct.low]using N) (λa b e n y P O hz E=>?_) (λl b n v K=>?_) (λl b sv K=>?_) (λl b y f=>?_) (λa l b y r f=>?_)
  (λsaid=>noRace_append (h.clean said) H λn a Q op d b hb _=>by grind) (λop d a Q=>by grind) (λm op a d Q=>by grind)
  (λn a Q O h=>h.elim (λ⟨j,o,B⟩=>.inr (.inl ⟨j,o,B.app _⟩)) (λ⟨p,o,B⟩=>.inr (.inr (.inl ⟨p,o,B.app _⟩))))
 . rcases e with rfl|⟨rfl,rfl⟩
   . exact E.app u
   . refine(od hi).2 ?_
     unfold HH at E;rw[if_pos rfl]at E
     rcases E with E|⟨p,h0,o,B,h3⟩
     . exact(hold n y E P O hz).app u
     . exact mZ (y:=⟨b,fn,pos,.mark (.acquire Z.la)⟩) (m:=0) A (by grind) rfl hd o B (λk E=>I k _ (by omega)) h3
 . by_cases e:l=i
   . subst e;rw[q]at K
     exact(ah.nD K).elim (λh=>⟨l,.inl rfl,h⟩) (λh=>⟨Z.lk,.inr ⟨rfl,rfl⟩,h⟩)
   grind
 . by_cases e:l=i
   . subst e;rw[q]at K
     exact(ah.Gq K).elim (λh=>⟨l,.inl rfl,h⟩) (λh=>⟨Z.lk,.inr ⟨rfl,rfl⟩,h⟩)
   grind
 . by_cases e:l=i
   . subst e;rw[C]at f
     by_cases z:b=mb
     . subst z
       simp only[aj.set,if_true,kn]at f;subst f;exact⟨Z.lk,.inr ⟨rfl,rfl⟩,L,λsv R=>by rw[q];exact(ah.xa (h.sat l) (h.sat Z.lk)).2 b sv R⟩
     . simp only[aj.set,z,if_false]at f
       exact⟨l,.inl rfl,f,λsv R=>by rw[q];exact(ah.sx _ _).2 b sv R⟩
   . by_cases T:l=Z.lk
     . subst T;rw[D]at f;cases f
     . rw[eO l e T]at f;grind
 . by_cases F:a=Z.lk
   . subst F;rw[D]at f;cases f
   by_cases s:l=Z.lk
   . subst s;rw[D];rfl
   by_cases U:a=i
   . subst U
     rw[C]at f;rw[eO l (za r) s]
     by_cases z:b=mb
     . subst z;exact h.jl Z.lk l b x (za s) L
     . simp only[aj.set,z,if_false]at f;exact h.jl a l b y r f
   . rw [eO a U F]at f
     by_cases el:l=i
     . subst el
       rw[C]
       by_cases z:b=mb
       . subst z
         have:=h.jl Z.lk a b x (za F) L
         simp_all
       . simp only[aj.set,z,if_false];exact h.jl a l b y r f
     . rw[eO l el s];exact h.jl a l b y r f
end
section
variable{Z:Base}{kk:acy}{OO:acx}{J M:ack}{w:World}{t:Trace}
def ou(kk:acy)(lk i:Nat):acy:=bS kk lk (kk i)
def fK(OO:acx)(lk i mb fb:Nat)(x:Own):acx:=bS (bS OO i (((OO i).del mb).del fb)) lk (aj.bot.set mb x)
theorem cA.TV(h:cA Z kk OO J M w t){i mb fb:Nat}{x:Own}(hi:i≠Z.lk)(T:OO i mb=some x)(ho:∀c,OO Z.lk c=none)(N:Z.la.block<w.heap.size)(hd:Deaf t i=0)(fn:FuncId)(pos:String):
 cA Z (ou kk Z.lk i) (fK OO Z.lk i mb fb x) J M w (t++MemOp.ofEvents i fn pos #[⟨.mark (.releaseMerge Z.la),false,true⟩]):=by
 obtain⟨u,R⟩:∃u,u=MemOp.ofEvents i fn pos #[⟨.mark (.releaseMerge Z.la),false,true⟩]:=⟨_,rfl⟩;have F:u=#[⟨i,fn,pos,.mark (.releaseMerge Z.la)⟩]:=by rw[R,ofEvents_eq];simp[MemAct.ofEvent]
 rw[<-R];have s:ku u:=λop d=>by grind
 have U:∀op∈u,op.act.touch?=none:=λop d=>by rw[F]at d;simp at d;subst d;rfl
 have G:∀op∈u,op.g=i:=λop d=>by grind
 have z:u[0]?=some ⟨i,fn,pos,.mark (.releaseMerge Z.la)⟩:=by grind
 have eK:∀l,l≠Z.lk->ou kk Z.lk i l=kk l:=λl V=>au _ _ V
 have W:ou kk Z.lk i Z.lk=kk i:=ao _ _ _;have eO:∀l,l≠i->l≠Z.lk->fK OO Z.lk i mb fb x l=OO l:=λl H I=>by unfold fK;rw[au _ _ I,au _ _ H]
 have k:fK OO Z.lk i mb fb x i=((OO i).del mb).del fb:=by unfold fK;rw[au _ _ hi,ao]
 have A:fK OO Z.lk i mb fb x Z.lk=aj.bot.set mb x:=by unfold fK;rw[ao]
 have K:∀b y,(((OO i).del mb).del fb) b=some y->b≠mb/\OO i b=some y:=λb y f=>by
  by_cases q:b=fb
  . simp[aj.del,q]at f
  by_cases r:b=mb
  . simp[aj.del,r]at f
  . exact⟨r,by simpa[aj.del,q,r]using f⟩
 have L:∀b y,(aj.bot.set mb x) b=some y->b=mb/\y=x:=λb y f=>by
  by_cases e:b=mb
  . subst e;simp only[aj.set,if_true,kn]at f;simp_all
  . simp only[aj.set,e,if_false]at f;cases f
 have B:∀b,OO i b=none->(((OO i).del mb).del fb) b=none:=λb X=>by
  by_cases q:b=fb
  . simp[aj.del,q]
  by_cases r:b=mb
  . grind
  . simpa[aj.del,q,r]using X
 refine h.tR (λa b=>a=b\/(a=i/\b=Z.lk)) rfl ⟨⟨.refl _,rfl⟩,λ_ _=>rfl⟩ (λb=>.inl rfl) (λop d=>by rw[F]at d;simp at d;subst d;simpa[MemAct.low]using N) (λa b e n y Y hm hz S=>?_) (λl b n v hv=>?_) (λl b sv hv=>?_) (λl b y f=>?_) (λa l b y o f=>?_)
  (λsaid=>noRace_append (h.clean said) G λn a O op d b hb _=>by grind) (λop d a O=>by grind) (λm op a d O=>by grind)
  (λn a O hm h=>h.elim (λ⟨j,H,I⟩=>.inr (.inl ⟨j,H,I.app _⟩)) (λ⟨p,H,I⟩=>.inr (.inr (.inl ⟨p,H,I.app _⟩))))
 . rcases e with rfl|⟨rfl,rfl⟩
   . exact S.app u
   . have P:Knows t a n:=(od hi).1 S
     unfold HH;rw[if_pos rfl];exact .inr ⟨t.size+0,by have:=h.n0;omega,by rw[act?_of (du z)],heard_new s z hd,lG P z rfl⟩
 . grind
 . grind
 . by_cases r:l=Z.lk
   . subst r;rw[A]at f
     grind
   by_cases e:l=i
   . subst e;rw[k]at f
     grind
   . rw[eO l e r]at f;grind
 . by_cases C:a=Z.lk
   . subst C;rw[A]at f
     obtain⟨rfl,rfl⟩:=L b y f
     by_cases el:l=i
     . subst el;rw[k]
       by_cases q:b=fb
       . simp[aj.del,q]
       . simp[aj.del,q]
     . rw[eO l el (za o)];exact h.jl i l b y (za el) T
   by_cases D:l=Z.lk
   . subst D;rw[A]
     have Q:b≠mb:=by
      by_cases E:a=i
      . subst E;rw[k]at f;grind
      . rw[eO a E C]at f
        intro e;subst e;have:=h.jl a i b y E f
        grind
     simp only[aj.set,Q,if_false];rfl
   by_cases E:a=i
   . subst E
     rw[k]at f;rw[eO l (za o) D];exact h.jl a l b y o (K b y f).2
   . rw[eO a E C]at f
     by_cases el:l=i
     . subst el;rw[k];exact B b (h.jl a l b y o f)
     . rw[eO l el D];exact h.jl a l b y o f
end
section
variable{P:acD}{A:bJ}{Fin:abz}{Z:Base}{s:MS P}{f:Nat->Node P}{q:acs}{kk:acy}{OO:acx}{J M:ack}{gs:abH}{gsz:Nat}{w:World}{t u:Trace}{j:Nat}{g:aco}{x:bn P}{xo:Own}
theorem HZ{x:bn P}(h:x.owns=true):x.pc=.held:=by
 cases x with
 |run b X=>cases b<;>simp_all [bn.owns,bn.pc]
 |un p Y=>cases p<;>simp_all [bn.owns,bn.pc,sE.abs]
 |_=>simp_all [bn.owns]
theorem C2(I:bO A.n s)(hj:j<A.n)(a:(s.w j).pc=.held){l:Nat}(b:l<A.n)(c:(s.w l).owns=true):l=j:=by
 by_cases e:l=j
 . exact e
 . have g:=I.mu.j1
   have d:=Mu.gk Mu.cd (λi=>(s.w i).pc) j .out hj
   have f:Mu.cd (Mu.set (λi=>(s.w i).pc) j .out l)<=Mu.fB A.n (λi=>Mu.cd (Mu.set (λi=>(s.w i).pc) j .out i)):=Mu.iN (λi=>Mu.cd (Mu.set (λi=>(s.w i).pc) j .out i)) b
   rw[Mu.ai _ _ e,HZ c]at f;have h:Mu.cd .held=1:=rfl;have k:Mu.cd .out=0:=rfl;rw[a]at d;have:s.sh.w.L.toNat<=1:=by cases s.sh.w.L<;>simp
   omega
def kK(A:bJ)(Z:Base)(OO:acx)(i:Nat)(x:Own)(a:Nat->abV):acx:=bS (iw OO Z.lk i A.mb x) i ((iw OO Z.lk i A.mb x i).set A.fb (.part a))
theorem bJ.Tk.N5{f:Nat->abV}(h:A.Tk j f){l:Nat}(a:f l≠none):A.dir=true/\l=A.cell j:=by
 unfold bJ.Tk at h;split at h
 . grind
 . subst h;exact absurd rfl a
theorem c8.take{p:Nat->abV}(H:A.Tk j p)(hZ:A.b+A.n+1<=Z.lk)(h:c8 P A Z s kk OO J M gsz w t)(hj:j<A.n)(f:(s.w j).work=true)(K:x.work=true)(L:∀l,l<A.n->(s.w l).owns=false)(F:x.owns=true)(V:bO A.n (s.aT j x s.sh))(W:∀op∈u,op.act.touch?=none/\∀a,op.act≠.mark (.release a)):
 c8 P A Z (s.aT j x s.sh) (iQ kk Z.lk (A.b+j)) (kK A Z OO (A.b+j) xo p) J M gsz w (t++u):=by
 have S:A.b+j≠Z.lk:=by omega
 have r:x.busy=(s.w j).busy:=by rw[(bz f).2.2.2.2.2.1,(bz K).2.2.2.2.2.1]
 have N:∀l,l≠A.b+j->iQ kk Z.lk (A.b+j) l=kk l:=λl d=>au _ _ d
 have O:iQ kk Z.lk (A.b+j) (A.b+j)=(kk (A.b+j)).join (kk Z.lk):=ao _ _ _;have eO:∀l,l≠A.b+j->l≠Z.lk->kK A Z OO (A.b+j) xo p l=OO l:=λl f K=>by unfold kK iw;rw[au _ _ f,au _ _ K,au _ _ f]
 have z:kK A Z OO (A.b+j) xo p (A.b+j)=((OO (A.b+j)).set A.mb xo).set A.fb (.part p):=by unfold kK iw;rw[ao,au _ _ S,ao]
 have B:kK A Z OO (A.b+j) xo p Z.lk=aj.bot:=by unfold kK iw;rw[au _ _ (za S),ao]
 have C:bT P A s (A.b+j):=iG h.I hj (bz f).2.2.2.2.1
 have T:∀i,OO i A.fb=none:=λi=>by
  cases e:OO i A.fb with
  |none=>rfl
  | some y=>
    obtain⟨l,_,d,_,ho,_⟩:=h.tok i y e
    grind
 have g:∀{c n:Nat},(∀i,(kk i).cell c n=none)->(iQ kk Z.lk (A.b+j) (A.b+j)).cell c n=none:=λ{c n} X=>by
  rw[O];cases e:((kk (A.b+j)).join (kk Z.lk)).cell c n with
  |none=>rfl
  |some v=>rcases ah.nD e with h|h<;>rw[X]at h<;>cases h
 refine⟨V,h.size,h.dd,h.off,λhd l d=>?_,h.zT,h.mu,h.gr,h.vd,h.yZ,λi=>?_,λi=>?_,λi y D=>?_,λl d k=>?_,λk=>?_,λc U=>?_,
  λi=>by rw[h.hJ i];exact(oq hj r i).symm,h.vf u,h.mE u,h.j8 u (λop o a Q=>by simp_all),h.oo u (λop o a Q=>by simp_all),h.pK u,h.jr u (λop o=>(W op o).2),λi d hb=>?_,h.sA,h.jQ,h.eY,h.la,by simp;exact KD h.n0 (aah _ _)⟩
 . by_cases e:l=j
   . subst e
     rw[aU];exact⟨λE=>by(rw[zV F]at E;cases E),λR=>by simp[bn.rel,F]at R⟩
   . rw[cy e]
     refine⟨λE=>⟨λi=>?_,λm a Y Q q q'=>(dR Q).elim (λf=>((h.yL hd l d).1 E).2 m a Y f.1 q q') (λ⟨op,o,f⟩=>by simp_all)⟩,λR=>?_⟩
     . have f:=((h.yL hd l d).1 E).1
       grind
     . rw[N _ (by omega)];exact(h.yL hd l d).2 R
 . by_cases e:i=A.b+j
   . subst e;rw[z]
     have:=h.gy (A.b+j);simp only[aj.set,A.d1,A.d3,za A.d4,A.d6,if_false];exact this
   by_cases G:i=Z.lk
   . subst G;rw[B];exact⟨λ_=>rfl,rfl⟩
   . rw[eO i e G];exact h.gy i
 . by_cases e:i=A.b+j
   . subst e
     exact⟨g λi=>(h.eu i).1,g λi=>(h.eu i).2.1,g λi=>(h.eu i).2.2.1,g λi=>(h.eu i).2.2.2⟩
   . rw[N i e];exact h.eu i
 . by_cases e:i=A.b+j
   . subst e;rw[z]at D
     simp only[aj.set,if_true,kn]at D;exact⟨j,p,hj,rfl,by rw[aU];exact F,D.symm,λ_=>H.N5⟩
   by_cases G:i=Z.lk
   . subst G;rw[B]at D;cases D
   simp_all
 . by_cases e:l=j
   . subst e;rw[z];simp[aj.set]
   . rw[cy e,L l d]at k;cases k
 . have:=k j hj
   rw[aU,F]at this;cases this
 . rw[B]at U;exact absurd rfl U
 . have e:i≠A.b+j:=λe=>hb (e ▸ C)
   rw[N i e,eO i e d];exact h.CS i d hb
end
section
variable{P:acD}{A:bJ}{Fin:abz}{Z:Base}{s:MS P}{f:Nat->Node P}{q:acs}{kk:acy}{OO:acx}{J M:ack}{gs:abH}{w:World}{t:Trace}{j:Nat}{g:aco}
variable(C:gn P A.nm)(X:gq P A.nm)(F:mc P A.nm)
include C X F in
theorem OP(hZ:A.b+A.n+1<=Z.lk)(H:bF (bY P A Fin Z hZ) Z s f q kk OO J M gs w t)(hj:j<A.n){Y:vG P}(S:s.w j=.lk .la Y)(hg:gs[A.b+j]?=some g)(b6:GN P A j (.lk .la Y) (kk (A.b+j)) (OO (A.b+j)) g)(sl:abC):
 Goes P A Fin Z hZ s gs w t sl (A.b+j):=by
 have d:c8 P A Z s kk OO J M gs.size w t:=H.ex;have B:=bd (P:=P) (A:=A) (Fin:=Fin) (Z:=Z) hZ;have r:(s.w j).j9=true:=by rw[S];rfl
 have w1:=iO r;have b7:(s.w j).pc=.held:=by rw[S];rfl
 have hb:=A.hb;have o:A.b+j≠Z.lk:=by omega
 have b8:(A.b+j==0)=false:=by simp;omega
 have U:∀l,l<A.n->(s.w l).owns=false:=λl E=>by
  cases e:(s.w l).owns with
  |false=>rfl
  |true=>obtain rfl:=C2 d.I hj b7 E e;rw[S]at e;cases e
 have L:∀i,OO i A.fb=none:=λi=>by
  cases e:OO i A.fb with
  |none=>rfl
  |some y=>obtain⟨l,_,E,_,ho,_⟩:=d.tok i y e;rw[U l E]at ho;cases ho
 obtain⟨xo,a,a9,b9,bm⟩:=d.N3 U;obtain⟨kind,c,rest,e,hk,hM,hm,hO,al,bw,hN⟩:=b6;obtain⟨cc,ee,av⟩:=d.vd
 have ax:e=(ee,cc.size):=by have hs:=(H.cO.sat (A.b+j)).sh _ _ al;simp only[World.shape?,av]at hs;exact(ZM hs).symm
 obtain⟨p,V,ay⟩:∃p,A.Tk j p/\∀n v,p n=some v->A.dir=true/\n=A.cell j/\cc[n]?=some v:=by
  unfold bJ.Tk
  by_cases hd:A.dir=true
  . have:=bw hd
    rw[ax]at this;refine⟨λi=>if i=A.cell j then some cc[A.cell j]else none,by rw[if_pos hd];exact⟨_,rfl⟩,λn v G=>?_⟩
    simp only at G;split at G
    . next e=>subst e;exact⟨hd,rfl,by rw[<-G];exact ZJ this⟩
    . cases G
  . exact⟨KT,by rw[if_neg hd],λn v G=>by cases G⟩
 have aC:(kk Z.lk).Le ((kk (A.b+j)).join (kk Z.lk)):=ah.xa (H.cO.sat (A.b+j)) (H.cO.sat Z.lk);have u:=hN ((kk (A.b+j)).join (kk Z.lk)) xo a p (ah.sx _ _) (b9.mono aC) bm (H.cO.jl Z.lk (A.b+j) _ _ (za o) a9) V;obtain⟨g1,aE,hr,g2,aL,hA⟩:=GC (Wd:=λ_=>True) (main:=false) (w:=w) C X hM
 obtain⟨k,bx⟩:=aL.trans (sI F hA hk);rw[<-d.la]at aE;have W:iQ kk Z.lk (A.b+j) (A.b+j)=(kk (A.b+j)).join (kk Z.lk):=ao _ _ _;have bA:kK A Z OO (A.b+j) xo p (A.b+j)=((OO (A.b+j)).set A.mb xo).set A.fb (.part p):=by unfold kK iw;rw[ao,au _ _ o,ao]
 rw[<-W,<-bA]at u;obtain⟨T,hU⟩:=TT.pre bx (Y.c _ _ _ u);obtain⟨x,hx⟩:∃x:bn P,x=.run true ⟨Y.m,iQ kk Z.lk (A.b+j) (A.b+j),kK A Z OO (A.b+j) xo p (A.b+j),_,Y.c _ _ _ u⟩:=⟨_,rfl⟩;have w2:x.work=true:=by rw[hx];rfl
 have z:∀sh,((s.aT j x sh).w j)=.run true ⟨Y.m,iQ kk Z.lk (A.b+j) (A.b+j),kK A Z OO (A.b+j) xo p (A.b+j),_,Y.c _ _ _ u⟩:=λsh=>by rw[aU,hx]
 have aO:=runT_crowd_go (P:=P) (sl:=sl) (i:=A.b+j) hg (by rw[b8];exact aE)
 have b0:=iP (P:=P) (A:=A) (s:=s) hj r
 have K:Deaf t (A.b+j)=0:=by obtain⟨_,_,K,_⟩:=H.walk _ b0;rw[K];show dL P A s (A.b+j)=0;rw[eF hj,S];rfl
 have Q:bT P A s (A.b+j):=iG d.I hj (bz w1).2.2.2.2.1;have hJ:J (A.b+j):=(d.hJ _).2 (vU hj (bz w1).2.2.2.2.2.1);have b1:∀op∈MemOp.ofEvents (A.b+j) g.frame.fn g.frame.place #[⟨.mark (.acquire Z.la),false,true⟩],op.g=A.b+j:=λop D=>by obtain⟨e,_,rfl⟩:=Go.Conc.mem_ofEvents D;rfl
 have b2:∀op∈MemOp.ofEvents (A.b+j) g.frame.fn g.frame.place #[⟨.mark (.acquire Z.la),false,true⟩],op.act.touch?=none/\∀a,op.act≠.mark (.release a):=λop D=>by obtain⟨e,he,rfl⟩:=Go.Conc.mem_ofEvents D;simp at he;subst he;exact⟨rfl,λa h=>by simp[MemAct.ofEvent]at h⟩
 have b3:A.fb<w.heap.size:=by obtain⟨c,e,r⟩:=d.vd;exact(Array.getElem?_eq_some_iff.1 r).1
 have bB:=H.cO.TU o a9 (λc hc=>(d.N4 c hc).1) (by rw[d.la];exact b3) K (λm a hm ha b4 hz=>d.old _ Q m a hm ha b4 hz) d.norel g.frame.fn g.frame.place
 have a7:∀l,iw OO Z.lk (A.b+j) A.mb xo l A.fb=none:=λl=>by
  unfold iw
  by_cases e1:l=Z.lk
  . subst e1;rw[ao];rfl
  by_cases e2:l=A.b+j
  . subst e2;rw[au _ _ e1,ao];simp only[aj.set,A.d5,if_false];exact L _
  . rw[au _ _ e1,au _ _ e2];exact L _
 have b5:A.dir=true->(∀i,(kk i).cell A.fb (A.cell j)=none)/\∀m a R,touchAt t m=some a->a.loc=.cell R->R.block=A.fb/\R.off=A.cell j->m<Z.N0:=λhd=>(d.yL hd j hj).1 (by rw[S];rfl)
 have a8:∀n,p n≠none->A.dir=true/\n=A.cell j:=λn hn=>V.N5 hn
 have hP:=bB.Te (f:=p) o a7 (λn v G i=>by
  obtain⟨hd,rfl,_⟩:=ay n v G;have r:=(b5 hd).1
  by_cases ei:i=A.b+j
  . subst ei
    rw[W];cases q:((kk (A.b+j)).join (kk Z.lk)).cell A.fb (A.cell j)with
    |none=>rfl
    |some v=>rcases ah.nD q with h|h<;>rw[r]at h<;>cases h
  . unfold iQ;rw[au _ _ ei];exact r i) (λR r h2=>d.jQ R ⟨r,.inr (.inr ⟨(a8 _ h2).1,j,hj,(a8 _ h2).2⟩)⟩) (by
  refine⟨cc,ee,av,?_,λn v G=>(ay n v G).2.2⟩
  rw[W];refine(ah.sx _ _).2 _ _ ?_;rw[al,ax]) (λm a R ha E r h2=>by
  obtain⟨hd,h3⟩:=a8 _ h2
  rcases dR ha with⟨h4,_⟩|⟨op,D,h4⟩
  . exact(d.old _ Q m a ((b5 hd).2 m a R h4 E ⟨r,h3⟩) h4 (by rw[E];rfl) (by rw[E];exact d.jQ R ⟨r,.inr (.inr ⟨hd,j,hj,h3⟩)⟩)).app _
  . rw[(b2 op D).1]at h4;cases h4) d.eY.2.1
 have hI:bO A.n (s.aT j x s.sh):=d.I.still hj w1 w2 (by rw[hx];rfl) (by rw[hx,S];rfl)
 have hL:MS.gg A.n (s.aT j x s.sh) s:=Bs hj w1 w2 ⟨_,_,by rw[hx];rfl,by rw[S];rfl,.single (pj.de Y.N Y.h0 Y.ht Y.c u)⟩
 have c5:=d.take (xo:=xo) V hZ hj w1 w2 U (by rw[hx];rfl) hI b2
 have c6:Beside (bY P A Fin Z hZ) s (s.aT j x s.sh) f (bS f (A.b+j) ⟨Y.m,iQ kk Z.lk (A.b+j) (A.b+j),kK A Z OO (A.b+j) xo p (A.b+j),g1,T⟩) q q kk (iQ kk Z.lk (A.b+j)) OO (kK A Z OO (A.b+j) xo p) J J w (A.b+j) g g1:=mF hZ hj w1 w2 (λi hi=>au _ _ hi) (λi hi=>rfl) (λi hi _=>au _ _ hi) (λi hi ht=>by unfold kK iw;rw[au _ _ hi,au _ _ (show i≠Z.lk by omega),au _ _ hi]) (λ_ h=>h) (.inl λh=>h) (λ{i k O y} hA=>B.kJ (s:=s) (i:=i) (k:=k) (O:=O) (g:=y) hA)
 refine⟨_,_,aO,s.aT j x s.sh,bS f (A.b+j) ⟨Y.m,iQ kk Z.lk (A.b+j) (A.b+j),kK A Z OO (A.b+j) xo p (A.b+j),g1,T⟩,q,iQ kk Z.lk (A.b+j),kK A Z OO (A.b+j) xo p,J,M,_,_,_,rfl,hL,?_⟩;refine bF.step B H hg b1 hP c5 (λl y E hA=>?_) c6 ⟨λ_=>?_,λh=>absurd h (uh hj (z _)),λh=>absurd h (jR hj (z _)),λh=>absurd (kg hj (z _)) h⟩
 . have c7:l≠A.b+j:=λe=>(H.held l E).2.1 (by rw[e];exact b0)
   exact B.sC d E _ _ hA
 . rw[ao]
   refine⟨by show A.b+j<A.b+A.n+1;omega,rfl,?_,rfl,rfl,hr,?_,.inr hJ,λl b X' h3 h4 h5=>?_⟩
   . show Y.m=ck P A Fin (s.aT j x s.sh) (A.b+j)
     rw[nI hj (z _)];exact hm
   . rw[Deaf_own,K];rfl
   . obtain rfl:l=j:=by omega
     rw[z]at h5;cases h5;exact hU
end

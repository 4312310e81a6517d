import Derived.Test.YtkcceaplmgdnfaaGreatDoorC18
set_option linter.all false
namespace Go.bu
open Go.Conc
open Go.ConcN (sumTo upd sumTo_upd upd_ne upd_same)
section
variable{P:Program}
theorem zJ {y:Sy} {s:iX} {fr:Frame} {f:FuncId} {l:List SV} {e:Array Value->Sem Value} {cs:List Frame} (b:FR y s fr) (h:aU s=some (f,l)) (c:Ext P f e):mayWake P (G fr cs)=true:=by
 obtain⟨ops,i,rest,kk,o,as,d,g,p,j,q,a,r⟩:=cT b h;obtain⟨fn,k,t,u,v,w⟩:=c.ex;have m:fr.mode = .run:=by rw[a];rfl
 have n:fr.todo = .inRegion ops (i :: rest) :: kk:=by rw[a];rfl
 unfold mayWake;simp only[G,m,n,g,Option.map_some,j,Frame.eval,k,Option.any_some]
 grind
theorem Gg{n:xy}{b o:Nat}{kind:CallKind}{cs:List Frame}{g:Goroutine}(C:eY P n)(X:eZ P n)(h:mO P n b o kind .give cs g):mayWake P g=true:=by
 obtain⟨c,y,fr,d,e,i,a,f,rfl⟩:=h;rcases e with rfl|rfl
 . exact zJ a (C.TP b o kind) X.m6
 . exact zJ a (C.TR b o kind) X.m6
theorem nc{b o:Nat}{w w':World}(h:MW b o w w')(a:∃c e,w.heap[b]?=some (.cells c e (0,0))):
 w'.heap.size=w.heap.size/\(∀r,r≠b->w'.heap[r]?=w.heap[r]?)/\∃c e c',w.heap[b]?=some (.cells c e (0,0))/\w'.heap[b]?=some (.cells c' e (0,0))/\c'.size=c.size/\∀n,n≠o->n≠o+1->c'[n]?=c[n]?:=by
 obtain⟨c,e,a⟩:=a;rcases h.2 with h|⟨i,v,f,g,h⟩
 . grind
 . refine⟨by simp_all,λr d=>?_,c,e,c.setIfInBounds i v,a,?_,by simp,λn j k=>?_⟩
   . rw[h];simp only[World.setCell,Array.getElem?_modify,if_neg (Ne.symm d)]
   . rw[h];simp[World.setCell,Array.getElem?_modify,a]
   grind
end
section
variable{P:Program}{A:bt}{Z:Base}{s:MS P}{kk:Nat->ai}{OO:Nat->aj}{J M:Nat->Prop}{gsz:Nat}{w w':World}{t:Trace}{j:Nat}{x:ba P}{sh:Mu.Sh}
theorem cI.calm(h:cI P A Z s kk OO J M gsz w t)(a:MW A.fb A.fo w w'):Calm Z w w':=by obtain⟨d,c,_⟩:=nc a h.tz;have:=h.dY.2.1;exact⟨a.1,λb hb=>c b (by omega)⟩
theorem cI.kept(h:cI P A Z s kk OO J M gsz w t)(a:MW A.fb A.fo w w'):∀b,Kept kk OO w w' b:=λb=>by
 obtain⟨u,d,c,e,f,j,k,l,v⟩:=nc a h.tz;by_cases hb:b=A.fb
 . subst hb
   refine .inr (.inr ⟨c,f,e,j,k,l,λi x m=>by obtain⟨_,g,_,_,_,rfl,o⟩:=h.tok i x m;exact⟨g,rfl,λn p=>by have:=(o n p).2;unfold bt.cell at this;grind⟩,λn=>?_⟩);by_cases q:n=A.fo
   . subst q;exact .inr λi=>(h.dM i).1
   . by_cases r:n=A.fo+1
     . subst r;exact .inr λi=>(h.dM i).2.1
     simp_all
 . exact .inl (d b hb)
theorem cI.RP(h:cI P A Z s kk OO J M gsz w t){n:Nat}(a:n=A.fo\/n=A.fo+1):ID kk OO w.heap.size (.cell ⟨A.fb,n,none⟩):=by
 have b:A.fb<w.heap.size:=by obtain⟨c,e,f⟩:=h.tz;grind
 refine⟨b,λi=>⟨λd=>?_,?_⟩⟩
 . obtain⟨_,_,_,_,e⟩:=h.MU d
   have e:n=A.fo+2+_:=e;omega
 . rcases a with rfl|rfl
   . exact(h.dM i).1
   . exact(h.dM i).2.1
theorem mE{b o:Nat}{e:Event}(d:(e.loc=.mark .disable\/e.loc=.mark .enable)\/∃i,(i=o\/i=o+1)/\e.loc=.cell ⟨b,i,none⟩/\e.sync=true):
 (∀a,(MemAct.ofEvent e).touch?=some a->a.kind=.atomic/\∃i,(i=o\/i=o+1)/\a.loc=.cell ⟨b,i,none⟩)/\(∀a,MemAct.ofEvent e≠.mark (.release a))/\∀B,b<B->(MemAct.ofEvent e).low B:=by
 obtain⟨loc,wr,j⟩:=e;rcases d with(h|h)|⟨i,k,h,c⟩
 . simp only at h;subst h
   simp[MemAct.ofEvent,MemAct.touch?,MemAct.low]
 . simp only at h;subst h
   simp[MemAct.ofEvent,MemAct.touch?,MemAct.low]
 . simp only at h c;subst h;subst c
   refine⟨λa f=>?_,by simp[MemAct.ofEvent],λB g=>by simpa[MemAct.ofEvent,MemAct.low,Loc.low]using g⟩;simp only[MemAct.ofEvent,MemAct.touch?,Option.some.injEq]at f
   grind
theorem cI.Jh(h:cI P A Z s kk OO J M gsz w t){es:Array Event}(p:EvM A.fb A.fo es){i:Nat}(q:bG P A s i)(fn:FuncId)(pos:String):
 zI kk OO w.heap.size t i (MemOp.ofEvents i fn pos es)/\(∀op∈MemOp.ofEvents i fn pos es,op.act.low w.heap.size)/\∀op∈MemOp.ofEvents i fn pos es,(∀a,op.act.touch?=some a->a.kind=.atomic/\xj A a.loc)/\∀a,op.act≠.mark (.release a):=by
 have x:A.fb<w.heap.size:=by obtain⟨c,e,f⟩:=h.tz;grind
 refine⟨λop d a k=>?_,λop d=>?_,λop d=>?_⟩<;>obtain⟨e,l,rfl⟩:=Go.Conc.mem_ofEvents d<;>obtain⟨o,r,y⟩:=mE (p e l)
 . obtain⟨f,n,g,j⟩:=o a k
   refine⟨f,λ_=>by rw[j];exact h.RP g,λm b hb u v=>h.quiet m b hb ?_ v i q⟩
   rw[u,j];exact⟨rfl,.inl ⟨rfl,g⟩⟩
 . grind
 . refine⟨λa k=>?_,r⟩
   obtain⟨f,n,g,j⟩:=o a k;exact⟨f,by rw[j];exact⟨rfl,.inl ⟨rfl,g⟩⟩⟩
end
structure dZ{P:Program}(A:bt)(s s':MS P)(i:Nat):Prop where
 w:∀l,l<A.n->A.b+l≠i->s'.w l=s.w l
 c:i≠A.cl->s'.c=s.c
 ms:i≠0->s'.ms=s.ms
 sp:s'.sp=s.sp
 d:s'.d=s.d
 gJ:(∀l,l<A.n->(s'.w l).gJ=(s.w l).gJ)\/((c9 P A s 0->∃m,s.ms=.add m\/s.ms=.spawn m)/\s.ms≠.parked)
section
variable{P:Program}{A:bt}{Fin:ai->aj->Goroutine->Prop}{Z:Base}{s s':MS P}{f f':Nat->Node P}{q q':Nat->Nat}{kk kk':Nat->ai}{OO OO':Nat->aj}{J J' M:Nat->Prop}{gs:Array Goroutine}{gsz:Nat}{w w':World}{t u:Trace}{i:Nat}{g g1:Goroutine}
theorem vK(h:∀l,l<A.n->(s'.w l).gJ=(s.w l).gJ):MS.rem P A.n s'=MS.rem P A.n s:=by unfold MS.rem;exact List.filter_congr λl a=>by grind
theorem dZ.live(h:dZ A s s' i){j:Nat}(d:j≠i):c9 P A s' j↔c9 P A s j:=by
 constructor<;>rintro(⟨b,a⟩|⟨l,a,f,g⟩|⟨b,a⟩)
 . exact .inl ⟨b,by rw[<-h.ms (λe=>d (b.trans e.symm))];exact a⟩
 . exact .inr (.inl ⟨l,a,f,by rw[<-h.w l a (λe=>d (f.trans e))];exact g⟩)
 . exact .inr (.inr ⟨b,by rw[<-h.c (λe=>d (b.trans e.symm))];exact a⟩)
 . exact .inl ⟨b,by rw[h.ms (λe=>d (b.trans e.symm))];exact a⟩
 . exact .inr (.inl ⟨l,a,f,by rw[h.w l a (λe=>d (f.trans e))];exact g⟩)
 . exact .inr (.inr ⟨b,by rw[h.c (λe=>d (b.trans e.symm))];exact a⟩)
theorem dZ.walk(h:dZ A s s' i){j:Nat}(d:j≠i):fa P A s' j↔fa P A s j:=by
 constructor<;>rintro(⟨b,a⟩|⟨l,a,f,g⟩|⟨b,a⟩)
 . exact .inl ⟨b,by rw[<-h.ms (λe=>d (b.trans e.symm))];exact a⟩
 . exact .inr (.inl ⟨l,a,f,by rw[<-h.w l a (λe=>d (f.trans e))];exact g⟩)
 . exact .inr (.inr ⟨b,by rw[<-h.c (λe=>d (b.trans e.symm))];exact a⟩)
 . exact .inl ⟨b,by rw[h.ms (λe=>d (b.trans e.symm))];exact a⟩
 . exact .inr (.inl ⟨l,a,f,by rw[h.w l a (λe=>d (f.trans e))];exact g⟩)
 . exact .inr (.inr ⟨b,by rw[h.c (λe=>d (b.trans e.symm))];exact a⟩)
theorem dZ.held(h:dZ A s s' i){j:Nat}(b:j≠i):ep P A s' j↔ep P A s j:=by
 constructor<;>rintro(⟨c,a⟩|⟨l,a,d,f⟩)
 . exact .inl ⟨c,by rw[<-h.ms (λe=>b (c.trans e.symm))];exact a⟩
 . exact .inr ⟨l,a,d,by rw[<-h.w l a (λe=>b (d.trans e))];exact f⟩
 . exact .inl ⟨c,by rw[h.ms (λe=>b (c.trans e.symm))];exact a⟩
 . exact .inr ⟨l,a,d,by rw[h.w l a (λe=>b (d.trans e))];exact f⟩
theorem kS(K:A.b+A.n+1<=Z.lk)(t:dZ A s s' i)(L:∀j,j≠i->f' j=f j)(M:∀j,j≠i->q' j=q j)(N:∀j,j≠i->j<A.b+A.n+1->kk' j=kk j)(Q:∀j,j≠i->j<A.b+A.n+1->OO' j=OO j)(R:∀j,j≠i->J j->J' j)
 (o:((s.sh.ms=0->s'.sh.ms=0)/\(s.gm=0->s'.gm=0))\/(mayWake P g=true/\(g1.status=.running\/g1.status=.finished))) (S:∀{i k O y},RO P A Fin s i k O y->y.status=.running/\y.offers=none):
 Beside (bL P A Fin Z K) s s' f f' q q' kk kk' OO OO' J J' w' i g g1:=by
 have hb:=A.hb;have wl:∀{j l:Nat},l<A.n->j≠i->j=A.b+l->s'.w l=s.w l:=λ{j l} E a e=>t.w l E (λh=>a (e.trans h))
 have x:∀{j:Nat},j≠i->j=0->s'.ms=s.ms:=λa e=>t.ms (λh=>a (e.trans h.symm))
 have H:∀{j:Nat},j≠i->j=A.cl->s'.c=s.c:=λa e=>t.c (λh=>a (e.trans h.symm))
 refine⟨L,M,N,Q,λj a _ h=>R j a h,λj a=>t.live a,λj a=>t.walk a,λj a=>t.held a,λj a E=>?_,λj k O y a _ F=>?_,λj a I=>?_,λj a I hd=>?_,λj k O y a T F=>?_,λj y a _ U=>?_⟩
 . show bR P A Fin s' j=bR P A Fin s j
   unfold bR;by_cases d:j=0
   . rcases t.gJ with u|⟨u,_⟩
     . simp only[if_pos d,x a d,vK u]
     . subst d
       obtain⟨m,e|e⟩:=u E<;>simp only[if_true,x a rfl,e]
   rcases E with⟨G,_⟩|⟨l,p,r,_⟩|⟨G,_⟩
   . omega
   . have e:j-A.b=l:=by omega
     grind
   grind
 . rcases F with⟨d,h⟩|⟨l,p,r,B⟩|⟨d,h⟩
   . exact .inl ⟨d,by grind⟩
   . exact .inr (.inl ⟨l,p,r,by grind⟩)
   . exact .inr (.inr ⟨d,by grind⟩)
 . show dq P A s' j=dq P A s j
   unfold dq;rcases I with⟨d,h1⟩|⟨l,p,r,_⟩|⟨d,_⟩
   . grind
   . grind
   grind
 . rcases o with⟨o,v⟩|⟨hm,u⟩
   . refine .inl ?_
     rcases hd with⟨l,sv,Y,p,r,B,C⟩|⟨d,B,C⟩
     . exact .inl ⟨l,sv,Y,p,r,by grind,o C⟩
     . exact .inr ⟨d,by grind,v C⟩
   . refine .inr λy V=>?_
     obtain⟨W,a2⟩:=S V;have H:(mayWake P g && g1.status !=.blocked && g1.status !=.waiting)=true:=by grind
     unfold Go.Conc.woken;rw[if_pos H,yj W a2]
 . rcases F with⟨d,D,z,p,r,B,C⟩|h
   . rcases t.gJ with u|⟨_,u⟩
     . exact .inl ⟨d,D,z,p,r,B,by rw[vK u];exact C⟩
     . rcases T with⟨_,h7⟩|⟨l,_,h7,_⟩
       . simp_all
       . omega
   . exact .inr h
 . exact λl b X p r B=>U l b X p r (by grind)
variable{j:Nat}{x:ba P}{sh:Mu.Sh}
theorem vJ(a:j<A.n)(h:x.gJ=(s.w j).gJ\/((c9 P A s 0->∃m,s.ms=.add m\/s.ms=.spawn m)/\s.ms≠.parked)):dZ A s (s.aP j x sh) (A.b+j):=⟨λl _ c=>bU (by omega),λ_=>rfl,λ_=>rfl,rfl,rfl,h.imp_left λh l _=>by
 by_cases e:l=j
 . subst e;rw[aQ,h]
 . rw[bU e]⟩
theorem od(c:A.b+A.n+1<=Z.lk)(d:j<A.n)(e:x.gJ=(s.w j).gJ)(l:∀i,i≠A.b+j->f' i=f i)(m:∀i,i≠A.b+j->q' i=q i)(o:∀i,i≠A.b+j->i<A.b+A.n+1->kk' i=kk i)(p:∀i,i≠A.b+j->i<A.b+A.n+1->OO' i=OO i)(r:∀i,i≠A.b+j->J i->J' i)
 (a:(s.sh.ms=0->sh.ms=0)\/(mayWake P g=true/\g1.status=.running)) (t:∀{i k O y},RO P A Fin s i k O y->y.status=.running/\y.offers=none):
 Beside (bL P A Fin Z c) s (s.aP j x sh) f f' q q' kk kk' OO OO' J J' w' (A.b+j) g g1:=
 kS c (vJ d (.inl e)) l m o p r (a.imp (λh=>⟨h,id⟩) λh=>⟨h.1,.inl h.2⟩) t
theorem lH(c:A.b+A.n+1<=Z.lk)(d:j<A.n)(e:(s.w j).work=true)(h:x.work=true)(l:∀i,i≠A.b+j->f' i=f i)(m:∀i,i≠A.b+j->q' i=q i)(o:∀i,i≠A.b+j->i<A.b+A.n+1->kk' i=kk i)(p:∀i,i≠A.b+j->i<A.b+A.n+1->OO' i=OO i)(r:∀i,J i->J' i)
 (a:(s.sh.ms=0->sh.ms=0)\/(mayWake P g=true/\g1.status=.running)) (t:∀{i k O y},RO P A Fin s i k O y->y.status=.running/\y.offers=none):
 Beside (bL P A Fin Z c) s (s.aP j x sh) f f' q q' kk kk' OO OO' J J' w' (A.b+j) g g1:=
 od c d (by rw[(bj h).2.2.1,(bj e).2.2.1]) l m o p (λi _=>r i) a t
end
def ba.jC{P:Program}:ba P->Bool
 |.lk ..=>true|.un ..=>true|_=>false
theorem gW{P:Program}{x:ba P}(h:x.jC=true):x.work=true:=by cases x<;>simp_all [ba.jC,ba.work]
section
variable{P:Program}{A:bt}{Fin:ai->aj->Goroutine->Prop}{Z:Base}{s:MS P}{f:Nat->Node P}{q:Nat->Nat}{kk:Nat->ai}{OO:Nat->aj}{J M:Nat->Prop}{gs:Array Goroutine}{w w':World}{t:Trace}{j:Nat}{x:ba P}{sh:Mu.Sh}{g g1:Goroutine}
theorem uF(a:j<A.n)(h:(s.w j).busy=true):dF P A s (A.b+j):=.inl ⟨j,a,rfl,h⟩
theorem gK(I:bD A.n s)(a:j<A.n)(h:(s.w j).iI=false):bG P A s (A.b+j):=by
 refine .inr (.inl ⟨j,?_,rfl⟩);have:=I.idle j a
 simp_all
theorem gX(a:j<A.n)(h:(s.w j).jC=true):fa P A s (A.b+j):=.inr (.inl ⟨j,a,rfl,by cases e:s.w j<;>simp_all [ba.jC]⟩)
theorem lI(a:j<A.n)(h:(s.w j).jC=true):¬c9 P A s (A.b+j):=by
 have:=A.hb;rintro(⟨e,_⟩|⟨l,c,d,f⟩|⟨e,_⟩)
 . omega
 . obtain rfl:l=j:=by omega
   cases e:s.w l<;>simp_all [ba.jC]
 . omega
theorem oe(c:j<A.n)(h:(s.w j).jC=true):¬ep P A s (A.b+j):=by
 have:=A.hb;rintro(⟨e,_⟩|⟨l,d,f,a⟩)
 . omega
 . obtain rfl:l=j:=by omega
   rw[a]at h;cases h
theorem dS(a:j<A.n):dq P A s (A.b+j)=(s.w j).deaf:=by
 have:=A.hb;unfold dq
 grind
theorem Bs(v:A.b+A.n+1<=Z.lk)(N:bn (bL P A Fin Z v) Z s f q kk OO J M gs w t)(a:j<A.n)(L:(s.w j).work=true){d:Nat}(Q:Deaf t (A.b+j)=d)(R:¬ep P A s (A.b+j))(h2:x.jC=true)(ho:x.owns=(s.w j).owns)(S:A.dir=true->x.gh=(s.w j).gh)(hI:bD A.n (s.aP j x sh))(hL:MS.eU A.n (s.aP j x sh) s)
 (hg:gs[A.b+j]?=some g){es:Array Event}(T:stepG P false g w=.go g1 w' es) (p:MW A.fb A.fo w w') (U:ShM A.fb A.fo w' sh) (V:EvM A.fb A.fo es) (hd:deafBehind d es=x.deaf)
 (hs:∃n g',iu P (jZ A) n g1 g'/\Fc P A j x (kk (A.b+j)) (OO (A.b+j)) g') (z:(s.sh.ms=0->sh.ms=0)\/(mayWake P g=true/\g1.status=.running)) (sl:Option (Nat × Nat)):
 ∃ops m',runT P (crowd gs w sl) (A.b+j)=(.next m',ops)/\∃s' f' q' kk' OO' J' M' gs' C W,m'=crowd gs' C W/\MS.eU A.n s' s/\bn (bL P A Fin Z v) Z s' f' q' kk' OO' J' M' gs' C (t++ops):=by
 obtain⟨n,g',D,X⟩:=hs;have hb:=A.hb;have B:=aY (P:=P) (A:=A) (Fin:=Fin) (Z:=Z) v;have w2:=gW h2;have r:cI P A Z s kk OO J M gs.size w t:=N.ex;have Y:(A.b+j==0)=false:=by simp;omega
 have E:=runT_crowd_go (P:=P) (sl:=sl) (i:=A.b+j) hg (by rw[Y];exact T)
 have F:bG P A s (A.b+j):=gK r.I a (bj L).2.2.2.2.1;obtain⟨y1,y2,y3⟩:=r.Jh V F g.frame.fn g.frame.place;have o:∀op∈MemOp.ofEvents (A.b+j) g.frame.fn g.frame.place es,op.g=A.b+j:=λop a7=>by obtain⟨e,_,rfl⟩:=Go.Conc.mem_ofEvents a7;rfl
 obtain⟨m1,m2,c,e,c',m3,m4,_⟩:=nc p r.tz;have hP:=N.cA.sync (i:=A.b+j) (.inr ((r.hJ _).2 (uF a (bj L).2.2.2.2.2.1))) o m1 (r.calm p) (r.kept p) y2 y1;have G:cI P A Z (s.aP j x sh) kk OO J M gs.size w' (t++MemOp.ofEvents (A.b+j) g.frame.fn g.frame.place es):=r.work a L w2 ho S hI U m2 ⟨c',e,m4⟩ y3
 have u:Beside (bL P A Fin Z v) s (s.aP j x sh) f f q (upd q (A.b+j) n) kk kk OO OO J J w' (A.b+j) g g1:=lH v a L w2 (λ_ _=>rfl) (λi hi=>upd_ne q n hi) (λ_ _ _=>rfl) (λ_ _ _=>rfl) (λ_ h=>h) z (λ{i k O y} hA=>B.jS (s:=s) (i:=i) (k:=k) (O:=O) (g:=y) hA)
 have m:((s.aP j x sh).w j).jC=true:=by rw[aQ];exact h2
 refine⟨_,_,E,s.aP j x sh,f,upd q (A.b+j) n,kk,OO,J,M,_,_,_,rfl,hL,?_⟩;refine bn.step B N hg o hP G (λl y H hA=>?_) u ⟨λH=>absurd H (lI a m),λ_=>⟨lI a m,?_,?_,g',?_,?_⟩,λhh=>absurd hh (oe a m),λ_ hn _=>absurd (gX a m) hn⟩
 . have K:l≠A.b+j:=λe=>R (e ▸ H)
   exact B.qP G ((u.held l K).2 H) _ _ (u.QB l _ _ _ K H hA)
 . show A.b+j<A.b+A.n+1;omega
 . rw[Deaf_own,Q]
   show deafBehind d es=dq P A (s.aP j x sh) (A.b+j);rw[dS a,aQ];exact hd
 . exact .inr (.inl ⟨j,a,rfl,by rw[aQ];exact X⟩)
 . exact .inr (by rw[upd_same];exact D)
theorem vL(e:A.b+A.n+1<=Z.lk)(v:bn (bL P A Fin Z e) Z s f q kk OO J M gs w t)(d:j<A.n)(h:(s.w j).jC=true)(z:x.jC=true)(B:x.owns=(s.w j).owns)(i:A.dir=true->x.gh=(s.w j).gh)(C:bD A.n (s.aP j x sh))(D:MS.eU A.n (s.aP j x sh) s)
 (E:gs[A.b+j]?=some g){es:Array Event}(k:stepG P false g w=.go g1 w' es) (l:MW A.fb A.fo w w') (m:ShM A.fb A.fo w' sh) (o:EvM A.fb A.fo es) (hd:deafBehind (s.w j).deaf es=x.deaf)
 (F:∃n g',iu P (jZ A) n g1 g'/\Fc P A j x (kk (A.b+j)) (OO (A.b+j)) g') (a:(s.sh.ms=0->sh.ms=0)\/(mayWake P g=true/\g1.status=.running)) (sl:Option (Nat × Nat)):
 ∃ops y,runT P (crowd gs w sl) (A.b+j)=(.next y,ops)/\∃s' f' q' kk' OO' J' M' gs' c p,y=crowd gs' c p/\MS.eU A.n s' s/\bn (bL P A Fin Z e) Z s' f' q' kk' OO' J' M' gs' c (t++ops):=by
 have r:=gX (P:=P) (A:=A) (s:=s) d h;obtain⟨_,_,u,_⟩:=v.walk _ r;exact Bs e v d (gW h) (u.trans (dS d)) (oe d h) z B i C D E k l m o hd F a sl
end
end Go.bu
namespace Go.bu
open Go.Conc
open Go.ConcN (sumTo upd sumTo_upd upd_ne upd_same)
namespace Mu
section
variable{n:Nat}{pcs:Nat->Pc}{s:Sh}{i:Nat}
theorem MX{f:Pc->Nat}(h:∀p,f p<=1)(pcs:Nat->Pc)(n:Nat):tot n (λi=>f (pcs i))<=n:=by
 have:=Da (f:=λi=>f (pcs i)) (c:=1) (λi=>h _) n;omega
theorem Inv.Ud(h:Inv n pcs s):s.w.N<=n+1/\s.ms<=1:=by
 have b:=MX (f:=cj) (λp=>by cases p<;>simp[cj]) pcs n
 cases e:s.w.S with
 | false=>
   obtain⟨c,_,a⟩:=h.j2 e;have:s.w.K.toNat<=1:=by cases s.w.K<;>simp
   omega
 | true=>
   obtain⟨_,_,a,d⟩:=h.j3 e;have:(!s.w.L).toNat<=1:=by cases s.w.L<;>simp
   omega
theorem Inv.MY(h:Inv n pcs s)(a:i<n)(b:pcs i=.held):s.w.L=true:=by
 have:bO (pcs i)<=tot n (λj=>bO (pcs j)):=gV (λj=>bO (pcs j)) a;rw[h.j1,b,show bO .held=1 from rfl]at this
 grind
theorem Inv.Pe(h:Inv n pcs s)(a:i<n){old:Wd}{sv:Bool}(b:pcs i=.add old sv):s.w.L=false/\s.w.S=true/\s.w.N≠0:=by
 have:cO (pcs i)<=tot n (λj=>cO (pcs j)):=gV (λj=>cO (pcs j)) a;rw[b,show cO (.add old sv)=1 from rfl]at this;cases e:s.w.S with
 |false=>obtain⟨_,c,_⟩:=h.j2 e;omega
 | true=>
   obtain⟨_,_,d,f⟩:=h.j3 e
   grind
end
def zK:Pc->Bool
 |.rd _=>true|.sq ..=>true|.sw ..=>true|.jI ..=>true|.fA _=>true|.tq=>true|.up _=>true|.add ..=>true|.held=>true|_=>false
def Dp:Pc->Bool
 |.out=>true|.ir _=>true|.ub=>true|.give=>true|_=>false
theorem Of(old:Wd)(l:Lo):zK (nx old l)=true:=by unfold nx;split<;>rfl
theorem RQ{old:Wd}{l:Lo}{p:Pc}(h:p∈hd old l):zK p=true:=by
 unfold hd at h;rw[List.mem_append]at h;rcases h with h|h
 . split at h
   . rw[List.mem_singleton]at h;subst h;split<;>rfl
   . cases h
 . rw[List.mem_singleton]at h;subst h;rfl
theorem RR{p q:Pc}{s s':Sh}(b:p=.fZ\/(zK p=true/\p≠.held))(h:(q,s')∈mv p s)(e:q≠.bad):zK q=true:=by
 rcases b with rfl|⟨b,c⟩
 . simp only[mv]at h
   split at h<;>(rw[List.mem_singleton,Prod.mk.injEq]at h;obtain⟨rfl,rfl⟩:=h;rfl)
 cases p<;>simp only[zK,Bool.false_eq_true]at b
 case rd l=>simp only[mv,List.mem_singleton,Prod.mk.injEq]at h;obtain⟨rfl,rfl⟩:=h;exact Of _ _
 case sq old l=>simp only[mv,List.mem_map,Prod.mk.injEq]at h;obtain⟨a,d,rfl,rfl⟩:=h;exact RQ d
 case sw old l=>simp only[mv]at h;split at h<;>(rw[List.mem_singleton,Prod.mk.injEq]at h;obtain⟨rfl,rfl⟩:=h;rfl)
 case jI old l=>
  simp only[mv]at h;split at h
  . simp_all
  split at h
  . rw[List.mem_singleton,Prod.mk.injEq]at h;obtain⟨rfl,rfl⟩:=h;split<;>rfl
  . rw[List.mem_singleton,Prod.mk.injEq]at h;obtain⟨rfl,rfl⟩:=h;rfl
 case fA sv=>
  simp only[mv]at h;split at h
  . cases h
  . rw[List.mem_singleton,Prod.mk.injEq]at h;obtain⟨rfl,rfl⟩:=h;split<;>rfl
 case tq=>
  simp only[mv,List.mem_cons,Prod.mk.injEq,List.not_mem_nil,or_false]at h;rcases h with⟨rfl,rfl⟩|⟨rfl,rfl⟩<;>rfl
 case up sv=>
  simp only[mv]at h;split at h
  . split at h
    . simp_all
    . rw[List.mem_singleton,Prod.mk.injEq]at h;obtain⟨rfl,rfl⟩:=h;rfl
  . rw[List.mem_singleton,Prod.mk.injEq]at h;obtain⟨rfl,rfl⟩:=h;exact Of _ _
 case add old sv=>simp only[mv,List.mem_singleton,Prod.mk.injEq]at h;obtain⟨rfl,rfl⟩:=h;rfl
 simp_all
theorem RS{p q:Pc}{s s':Sh}(a:p=.held\/(Dp p=true/\p≠.out))(h:(q,s')∈mv p s)(c:q≠.bad):Dp q=true:=by
 rcases a with rfl|⟨a,b⟩
 . simp only[mv]at h
   split at h
   . simp_all
   . rw[List.mem_singleton,Prod.mk.injEq]at h
     obtain⟨rfl,rfl⟩:=h;split
     . rfl
     split
     . rfl
     split<;>rfl
 cases p<;>simp only[Dp,Bool.false_eq_true]at a
 case out=>simp_all
 case ir old=>simp only[mv]at h;split at h<;>(rw[List.mem_singleton,Prod.mk.injEq]at h;obtain⟨rfl,rfl⟩:=h;rfl)
 case ub=>simp only[mv,List.mem_singleton,Prod.mk.injEq]at h;obtain⟨rfl,rfl⟩:=h;split<;>rfl
 case give=>simp only[mv,List.mem_singleton,Prod.mk.injEq]at h;obtain⟨rfl,rfl⟩:=h;rfl
theorem Og{p q:Pc}{s s':Sh}(b:p≠.give)(h:(q,s')∈mv p s)(a:s.ms=0):s'.ms=0:=by
 cases p<;>simp only[mv]at h
 case out=>cases h
 case bad=>cases h
 case give=>simp_all
 case sq=>grind
 case tq=>grind
 all_goals repeat' split at h
 all_goals first
  |(cases h;done)
  |(rw[List.mem_singleton,Prod.mk.injEq]at h;obtain⟨_,rfl⟩:=h;first|exact a|(show s.ms-1=0;omega))
end Mu
def su:qR->Bool
 |.fZ=>true|.rd _=>true|.sq ..=>true|.sw ..=>true|.jI ..=>true|.fA _=>true|.tq=>true|.up _=>true|.add ..=>true|.held=>true|.ir _=>true|.ub=>true|.give=>true
 |_=>false
theorem Ji{q:Mu.Pc}{p:qR}(h:To q p):p.abs=q:=by cases h<;>rfl
theorem RU{q:Mu.Pc}{p:qR}(h:To q p)(a:Mu.zK q=true):Bm p=true/\p≠.ld/\p≠.la:=by cases h<;>simp_all [Mu.zK,Bm]
theorem RV{q:Mu.Pc}{p:qR}(h:To q p)(a:Mu.Dp q=true):xB p=true/\p≠.E0/\p≠.ur/\p≠.ud:=by cases h<;>simp_all [Mu.Dp,xB]
theorem Jj{q:Mu.Pc}{p:qR}(h:To q p):q≠.bad:=by cases h<;>simp
section
variable{P:Program}{nm:xy}(C:eY P nm)(X:eZ P nm){n:Nat}{pcs:Nat->Mu.Pc}{s:Mu.Sh}{i:Nat}{p:qR}{b o:Nat}{kind:CallKind}{Wd:World->Prop}{cs:List Frame}{g:Goroutine}{w:World}{main:Bool}
include C X in
theorem Bt(I:Mu.Inv n pcs s)(d:i<n)(x:n<=900)(c:pcs i=p.abs)(j:su p=true)(a:ShM b o w s)(h:mO P nm b o kind p cs g):
 kP P nm b o kind Wd cs g w main p.abs s\/((∃sv,p=.fA sv)/\s.ms=0/\stepG P main g w=.go {g with status:=.blocked} w #[]):=by
 obtain⟨y,m⟩:=I.Ud;have hb:s.w.N<=1000:=by omega
 have k:∀{q s'},(q,s')∈Mu.mv (pcs i) s->Mu.loc q:=λ{q s'} j=>by
  have:=(I.step d j).j0 i d
  rwa [Mu.ao]at this
 have f:Mu.loc (pcs i):=I.j0 i d;rw[c]at k f;cases p<;>simp only[su,Bool.false_eq_true]at j
 case fZ=>exact .inl (F7 C X a h)
 case rd l=>exact .inl (MK C X a hb (k (q:=Mu.nx s.w l) (s':=s) (by simp[qR.abs,Mu.mv])) h)
 case sq old l=>exact .inl (ML C X a f h)
 case sw old l=>exact .inl (MM C X a f h)
 case jI old l=>exact .inl (I3 C X a f h)
 case fA sv=>
  by_cases e:s.ms=0
  . exact .inr ⟨⟨sv,rfl⟩,e,Bl C X a e h⟩
  . exact .inl (F8 C X a e h)
 case tq=>exact .inl (MN C X a h)
 case up sv=>exact .inl (MO C X a hb (λq s' r=>k r) h)
 case add old sv=>obtain⟨t,u,v⟩:=I.Pe d c;exact .inl (I4 C X a hb t u v h)
 case held=>exact .inl (F9 C X a hb (I.MY d c) h)
 case ir old=>exact .inl (Ga C X a h)
 case ub=>exact .inl (I5 C X a hb h)
 case give=>exact .inl (Gb C X a (by omega) h)
end
end Go.bu
namespace Go.bu
open Go.Conc
open Go.ConcN (sumTo upd sumTo_upd upd_ne upd_same)
section
variable{P:Program}{A:bt}{Fin:ai->aj->Goroutine->Prop}{Z:Base}{s:MS P}{f:Nat->Node P}{q:Nat->Nat}{kk:Nat->ai}{OO:Nat->aj}{J M:Nat->Prop}{gs:Array Goroutine}{w:World}{t:Trace}{j:Nat}{g:Goroutine}
def Goes(P:Program)(A:bt)(Fin:ai->aj->Goroutine->Prop)(Z:Base)(f:A.b+A.n+1<=Z.lk)(s:MS P)(gs:Array Goroutine)(w:World)(t:Trace)(sl:Option (Nat × Nat))(i:Nat):Prop:=∃ops e,runT P (crowd gs w sl) i=(.next e,ops)/\∃s' f' q' kk' OO' J' g a c d,e=crowd a c d/\MS.eU A.n s' s/\bn (bL P A Fin Z f) Z s' f' q' kk' OO' J' g a c (t++ops)
def Dq(P:Program)(A:bt)(s:MS P)(gs:Array Goroutine)(w:World)(sl:Option (Nat × Nat))(i:Nat)(g:Goroutine):Prop:=Pa P A s i/\runT P (crowd gs w sl) i=(.next (crowd (gs.setIfInBounds i (blk g)) w sl),#[])
theorem Bu(e:gs[A.b+j]?=some g)(a:stepG P false g w=.go {g with status:=.blocked} w #[])(sl:Option (Nat × Nat)):runT P (crowd gs w sl) (A.b+j)=(.next (crowd (gs.setIfInBounds (A.b+j) (blk g)) w sl),#[]):=by
 have hb:=A.hb;have c:(A.b+j==0)=false:=by simp;omega
 have h:=runT_crowd_go (P:=P) (sl:=sl) (i:=A.b+j) e (by rw[c];exact a)
 have d:woken P g {g with status:=.blocked} w=id:=funext λo=>by unfold Go.Conc.woken;simp
 rw[d,Array.map_id]at h;exact h
variable(C:eY P A.nm)(X:eZ P A.nm)
include C X in
theorem MZ(H:A.b+A.n+1<=Z.lk)(K:bn (bL P A Fin Z H) Z s f q kk OO J M gs w t)(m:j<A.n){p:qR}{Y:ui P}(a:s.w j=.lk p Y)(L:gs[A.b+j]?=some g)(W:Fc P A j (.lk p Y) (kk (A.b+j)) (OO (A.b+j)) g)(a7:p≠.la)(sl:Option (Nat × Nat)):
 Goes P A Fin Z H s gs w t sl (A.b+j)\/Dq P A s gs w sl (A.b+j) g:=by
 have o:cI P A Z s kk OO J M gs.size w t:=K.ex;have a8:Bm p=true:=by have:=o.I.ok j m;rw[a]at this;exact this
 have N:(s.w j).jC=true:=by rw[a];rfl
 have y:=gW N;have l:(s.w j).pc=p.abs:=by rw[a];rfl
 have hn:=A.hn;have hb:=A.hb;have ay:(A.b+j==0)=false:=by simp;omega
 obtain⟨kind,c,rest,e,R,S,T,U,r,u,V⟩:=W
 by_cases O:su p=true
 . rcases Bt (Wd:=jZ A) (main:=false) C X o.I.mu m hn l O o.mu S with⟨g1,w',es,qq,s',B,i,D,E,⟨hr,F,⟨k,d⟩,G⟩,a9,ab,ad,al⟩|⟨⟨sv,rfl⟩,v,i⟩
   . left
     have ar:Mu.zK qq=true:=Mu.RR (by cases p<;>simp_all [Bm,su,qR.abs,Mu.zK]) D (Jj E)
     obtain⟨k1,k2,k3⟩:=RU E ar;have z:((ba.lk B Y).pc,s')∈Mu.mv (s.w j).pc s.sh:=by rw[l,show(ba.lk B Y).pc=B.abs from rfl,Ji E];exact D
     have av:(s.w j).deaf=1:=by rw[a];cases p<;>simp_all [ba.deaf,su,Bm]
     have ax:(ba.lk B Y).deaf=1:=by cases B<;>simp_all [ba.deaf]
     refine vL (x:=.lk B Y) H K m N rfl (by rw[a];rfl) (λ_=>by rw[a];rfl) (o.I.mv m y rfl k1 z) (Ff o.I m y rfl (by rw[a];rfl) z ?_) L i a9 ab ad (by rw[al,av,ax]) ⟨k,F,d,kind,c,rest,e,R,G,T,U,r,u,V⟩ (.inl λv=>Mu.Og ?_ D v) sl
     . cases B<;>simp_all [ba.ex]
     . cases p<;>simp_all [su,Bm,qR.abs]
   . right
     exact⟨.inl ⟨j,sv,Y,m,rfl,a,v⟩,Bu L i sl⟩
 . cases p<;>simp only[su,Bm,not_true_eq_false,Bool.false_eq_true]at O a8
   case ld=>obtain⟨g1,i,hr,F,⟨k,d⟩,G⟩:=zv (Wd:=jZ A) (main:=false) (w:=w) C X S;left;exact vL (x:=.lk .fZ Y) (sh:=s.sh) H K m N rfl (by rw[a];rfl) (λ_=>by rw[a];rfl) (o.I.Vh m y rfl rfl l rfl) (Jf m y rfl (by rw[a];rfl) l rfl (by rw[a];rfl) rfl) L i (aZ rfl) o.mu (λe Q=>by simp at Q;subst Q;exact .inl (.inl rfl)) (by rw[a];rfl) ⟨k,F,d,kind,c,rest,e,R,G,T,U,r,u,V⟩ (.inl λv=>v) sl
   case t1 sv=>obtain⟨g1,i,hr,F,⟨k,d⟩,G⟩:=MI (Wd:=jZ A) (main:=false) (w:=w) C X S;left;exact vL (x:=.lk (.fA sv) Y) (sh:=s.sh) H K m N rfl (by rw[a];rfl) (λ_=>by rw[a];rfl) (o.I.still m y rfl rfl (by rw[l];rfl)) (kR m y rfl (by rw[a];rfl) (by rw[l];rfl) (by rw[a];simp[ba.ex])) L i (aZ rfl ⟨⟨w.tick,rfl⟩,rfl⟩) (o.mu.heap rfl) eF (by rw[a];rfl) ⟨k,F,d,kind,c,rest,e,R,G,T,U,r,u,V⟩ (.inl λv=>v) sl
   case le=>
    obtain⟨g1,i,hr,F,⟨k,d⟩,G⟩:=E5 (Wd:=jZ A) (main:=false) (w:=w) C X (λw h=>h.2.2) S
    left;exact vL (x:=.lk .la Y) (sh:=s.sh) H K m N rfl (by rw[a];rfl) (λ_=>by rw[a];rfl) (o.I.still m y rfl rfl (by rw[l];rfl)) (kR m y rfl (by rw[a];rfl) (by rw[l];rfl) (by rw[a];simp[ba.ex])) L i (aZ rfl) o.mu (λe Q=>by simp at Q;subst Q;exact .inl (.inr rfl)) (by rw[a];rfl) ⟨k,F,d,kind,c,rest,e,R,G,T,U,r,u,V⟩ (.inl λv=>v) sl
   case la=>exact absurd rfl a7
end
section
variable{P:Program}{A:bt}{Fin:ai->aj->Goroutine->Prop}{Z:Base}{s:MS P}{f:Nat->Node P}{q:Nat->Nat}{kk:Nat->ai}{OO:Nat->aj}{J M:Nat->Prop}{gs:Array Goroutine}{w:World}{t:Trace}{j:Nat}{g:Goroutine}
variable(C:eY P A.nm)(X:eZ P A.nm)
include C X in
theorem M0(D:A.b+A.n+1<=Z.lk)(N:bn (bL P A Fin Z D) Z s f q kk OO J M gs w t)(m:j<A.n){p:qR}{Y:ui P}(a:s.w j=.un p Y)(R:gs[A.b+j]?=some g)(S:Fc P A j (.un p Y) (kk (A.b+j)) (OO (A.b+j)) g)(T:p≠.ur)(U:p≠.ue)(sl:Option (Nat × Nat)):
 Goes P A Fin Z D s gs w t sl (A.b+j):=by
 have o:cI P A Z s kk OO J M gs.size w t:=N.ex;have G:xB p=true:=by have:=o.I.ok j m;rw[a]at this;exact this
 have O:(s.w j).jC=true:=by rw[a];rfl
 have E:=gW O;have i:(s.w j).pc=p.abs:=by rw[a];rfl
 have hn:=A.hn;have hb:=A.hb;obtain⟨kind,c,rest,V,Q,W,a7,H⟩:=S
 by_cases y:su p=true
 . have a8:¬(p=.E0\/p=.ur):=by rintro(rfl|rfl)<;>cases y
   have hN:=H a8
   rcases Bt (Wd:=jZ A) (main:=false) C X o.I.mu m hn i y o.mu Q with⟨g1,w',es,qq,s',r,l,z,B,⟨hr,K,⟨k,d⟩,L⟩,a9,ab,ad,al⟩|⟨⟨sv,rfl⟩,F,l⟩
   . have ar:Mu.Dp qq=true:=Mu.RS (by cases p<;>simp_all [xB,su,qR.abs,Mu.Dp]) z (Jj B)
     obtain⟨k1,k2,k3,k4⟩:=RV B ar;have u:((ba.un r Y).pc,s')∈Mu.mv (s.w j).pc s.sh:=by rw[i,show(ba.un r Y).pc=r.abs from rfl,Ji B];exact z
     have av:(s.w j).deaf=1:=by rw[a];cases p<;>simp_all [ba.deaf,su,xB]
     have ax:(ba.un r Y).deaf=1:=by cases r<;>simp_all [ba.deaf]
     have ay:(s.w j).owns=false:=by rw[a];cases p<;>simp_all [ba.owns,su,xB]
     have b1:(ba.un r Y).owns=false:=by cases r<;>simp_all [ba.owns]
     refine vL (x:=.un r Y) D N m O rfl (by rw[ay,b1]) (λ_=>by rw[a];rfl) (o.I.mv m E rfl k1 u) (Ff o.I m E rfl (by rw[a];rfl) u ?_) R l a9 ab ad (by rw[al,av,ax]) ⟨k,K,d,kind,c,rest,V,L,W,λh=>absurd h (λh=>h.elim k2 k3),λ_=>hN⟩ ?_ sl
     . cases r<;>simp_all [ba.ex]
     . by_cases b2:p=.give
       . subst b2;exact .inr ⟨Gg C X Q,hr⟩
       . refine .inl λF=>Mu.Og ?_ z F
         cases p<;>simp_all [su,xB,qR.abs]
   . exact absurd G (by simp[xB])
 . cases p<;>simp only[su,xB,not_true_eq_false,Bool.false_eq_true]at y G
   case E0=>
    obtain⟨v,hv⟩:=((aY (P:=P) (A:=A) (Fin:=Fin) (Z:=Z) D).wd o).2.2;obtain⟨g1,l,hr,K,⟨k,d⟩,L⟩:=vC (Wd:=jZ A) (main:=false) (w:=w) C X (λw h=>h.2.2) hv Q
    exact vL (x:=.un .ur Y) (sh:=s.sh) D N m O rfl (by rw[a];rfl) (λ_=>by rw[a];rfl) (o.I.still m E rfl rfl (by rw[i];rfl)) (kR m E rfl (by rw[a];rfl) (by rw[i];rfl) (by rw[a];simp[ba.ex])) R l (aZ rfl) o.mu eF (by rw[a];rfl) ⟨k,K,d,kind,c,rest,V,L,W,λ_=>a7 (.inl rfl),λh=>absurd (.inr rfl) h⟩ (.inl λF=>F) sl
   case ud=>
    have hN:=H (by rintro(h|h)<;>cases h)
    obtain⟨g1,l,hr,K,⟨k,d⟩,L⟩:=E2 (Wd:=jZ A) (main:=false) (w:=w) C X Q;exact vL (x:=.un .held Y) (sh:=s.sh) D N m O rfl (by rw[a];rfl) (λ_=>by rw[a];rfl) (o.I.still m E rfl rfl (by rw[i];rfl)) (kR m E rfl (by rw[a];rfl) (by rw[i];rfl) (by rw[a];simp[ba.ex])) R l (aZ rfl) o.mu (λe he=>by simp at he;subst he;exact .inl (.inl rfl)) (by rw[a];rfl) ⟨k,K,d,kind,c,rest,V,L,W,λh=>absurd h (by simp),λ_=>hN⟩ (.inl λF=>F) sl
   case ur=>exact absurd rfl T
   case ue=>exact absurd rfl U
end
def TT.Pf{P:Program}{m:Mo}{K:ai}{O:aj}{g1 a:Goroutine}(h:qd P (λ_=>True) g1 a)(e:TT P m K O a):TT P m K O g1:=.step (λb c d=>b=K/\c=O/\d=a) h.1 (λb c d f=>by obtain⟨rfl,rfl,rfl⟩:=f;exact e) (λw g=>⟨a,w,#[],K,O,h.2 _ w trivial,Eff.refl _ _ _,g,rfl,rfl,rfl⟩)
theorem TT.Bv{P:Program}{m:Mo}{K:ai}{O:aj}{g1 a:Goroutine}(h:qd P (λ_=>True) g1 a)(b:TT P m K O a){z:Node P}(c:nM z ⟨m,K,O,g1,TT.Pf h b⟩):z=⟨m,K,O,a,b⟩:=by
 unfold TT.Pf at c;cases c with
 |step _ _ _ _ d=>obtain⟨rfl,rfl,rfl⟩:=d;rfl
theorem TT.pre{P:Program}{m:Mo}{K:ai}{O:aj}:∀{k:Nat}{g1 a:Goroutine},iu P (λ_=>True) k g1 a->(X:TT P m K O a)->∃T:TT P m K O g1,tA ⟨m,K,O,g1,T⟩ ⟨m,K,O,a,X⟩
 |0,g1,a,h,X=>by obtain rfl:g1=a:=h;exact⟨X,.refl _⟩
 | k + 1,g1,a,⟨d,c,h⟩,X=>by
   obtain⟨b,g⟩:=TT.pre h X;refine⟨TT.Pf c b,λy hy f=>?_⟩;rcases hy with rfl|hy
   . exact f.elim
   . have:y=⟨m,K,O,d,b⟩\/Relation.TransGen nM y ⟨m,K,O,d,b⟩:=by
      cases hy with
      |single h=>exact .inl (TT.Bv c b h)
      | tail i j=>
        have e:=TT.Bv c b j
        simp_all
     exact g y this f
section
variable{P:Program}{A:bt}{Fin:ai->aj->Goroutine->Prop}{Z:Base}{s:MS P}{f:Nat->Node P}{q:Nat->Nat}{kk:Nat->ai}{OO:Nat->aj}{J M:Nat->Prop}{gs:Array Goroutine}{w:World}{t:Trace}{j:Nat}{g:Goroutine}
theorem jD(a:j<A.n){h:Bool}{X:Node P}(e:s.w j=.run h X):c9 P A s (A.b+j):=.inr (.inl ⟨j,a,rfl,by simp_all⟩)
theorem sx(a:j<A.n){h:Bool}{X:Node P}(e:s.w j=.run h X):¬fa P A s (A.b+j):=by
 have:=A.hb;rintro(⟨e,_⟩|⟨l,c,d,f⟩|⟨e,_⟩)
 . omega
 . simp_all
 . omega
theorem ji(a:j<A.n){h:Bool}{X:Node P}(e:s.w j=.run h X):¬ep P A s (A.b+j):=by
 have:=A.hb;rintro(⟨e,_⟩|⟨l,c,d,f⟩)
 . omega
 simp_all
theorem mF(a:j<A.n){h:Bool}{X:Node P}(e:s.w j=.run h X):bR P A Fin s (A.b+j)=gg P A j:=by
 have:=A.hb;unfold bR
 grind
variable(C:eY P A.nm)(X:eZ P A.nm)(F:lq P A.nm)
include C X F in
theorem M3(D:A.b+A.n+1<=Z.lk)(E:bn (bL P A Fin Z D) Z s f q kk OO J M gs w t)(a:j<A.n){Y:ui P}(G:s.w j=.un .ue Y)(hg:gs[A.b+j]?=some g)(a7:Fc P A j (.un .ue Y) (kk (A.b+j)) (OO (A.b+j)) g)(o:A.dir=false)(sl:Option (Nat × Nat)):
 Goes P A Fin Z D s gs w t sl (A.b+j):=by
 have r:cI P A Z s kk OO J M gs.size w t:=E.ex;have B:=aY (P:=P) (A:=A) (Fin:=Fin) (Z:=Z) D;have h1:(s.w j).jC=true:=by rw[G];rfl
 have v:=gW h1;have hb:=A.hb;have a8:(A.b+j==0)=false:=by simp;omega
 obtain⟨kind,c,rest,hk,hM,hm,ax,a9⟩:=a7;have H:=a9 (by simp)
 rw[show CR P A Y.N=Y.N by simp[CR,o]]at H
 obtain⟨g1,ab,hr,g2,K,L⟩:=zw (Wd:=λ_=>True) (main:=false) (w:=w) C X hM
 obtain⟨k,ad⟩:=K.trans (kQ F L hk);obtain⟨T,hU⟩:=TT.pre ad (Y.c _ _ _ H);obtain⟨x,z⟩:∃x:ba P,x=.run false ⟨Y.m,kk (A.b+j),OO (A.b+j),_,Y.c _ _ _ H⟩:=⟨_,rfl⟩;have W:x.work=true:=by rw[z];rfl
 have d:∀sh,((s.aP j x sh).w j)=.run false ⟨Y.m,kk (A.b+j),OO (A.b+j),_,Y.c _ _ _ H⟩:=λsh=>by rw[aQ,z]
 have al:EvM A.fb A.fo #[⟨.mark .enable,false,true⟩]:=λe he=>by simp at he;subst he;exact .inl (.inr rfl)
 have Q:=runT_crowd_go (P:=P) (sl:=sl) (i:=A.b+j) hg (by rw[a8];exact ab)
 have R:bG P A s (A.b+j):=gK r.I a (bj v).2.2.2.2.1;obtain⟨y1,y2,y3⟩:=r.Jh al R g.frame.fn g.frame.place;have p:∀op∈MemOp.ofEvents (A.b+j) g.frame.fn g.frame.place #[⟨.mark .enable,false,true⟩],op.g=A.b+j:=λop ar=>by obtain⟨e,_,rfl⟩:=Go.Conc.mem_ofEvents ar;rfl
 have hJ:J (A.b+j):=(r.hJ _).2 (uF a (bj v).2.2.2.2.2.1);have hP:=E.cA.sync (i:=A.b+j) (.inr hJ) p rfl ⟨⟨.refl _,rfl⟩,λ_ _=>rfl⟩ (λb=>.inl rfl) y2 y1
 have hI:bD A.n (s.aP j x s.sh):=r.I.still a v W (by rw[z];rfl) (by rw[z,G];rfl)
 have hL:MS.eU A.n (s.aP j x s.sh) s:=zF a v W ⟨_,_,by rw[z];rfl,by rw[G];rfl,.single (nM.cN Y.N Y.h0 Y.ht Y.c H)⟩
 have S:cI P A Z (s.aP j x s.sh) kk OO J M gs.size w (t++MemOp.ofEvents (A.b+j) g.frame.fn g.frame.place #[⟨.mark .enable,false,true⟩]):=r.work a v W (by rw[z,G];rfl) (λh=>by rw[o]at h;cases h) hI r.mu (λ_ _=>rfl) r.tz y3
 have u:Beside (bL P A Fin Z D) s (s.aP j x s.sh) f (bF f (A.b+j) ⟨Y.m,kk (A.b+j),OO (A.b+j),g1,T⟩) q q kk kk OO OO J J w (A.b+j) g g1:=lH D a v W (λi hi=>aA _ _ hi) (λi hi=>rfl) (λ_ _ _=>rfl) (λ_ _ _=>rfl) (λ_ h=>h) (.inl λh=>h) (λ{i k O y} L=>B.jS (s:=s) (i:=i) (k:=k) (O:=O) (g:=y) L)
 have U:=gX (P:=P) (A:=A) (s:=s) a h1;refine⟨_,_,Q,s.aP j x s.sh,bF f (A.b+j) ⟨Y.m,kk (A.b+j),OO (A.b+j),g1,T⟩,q,kk,OO,J,M,_,_,_,rfl,hL,?_⟩;refine bn.step B E hg p hP S (λl y hl L=>?_) u ⟨λ_=>?_,λh=>absurd h (sx a (d _)),λh=>absurd h (ji a (d _)),λh=>absurd (jD a (d _)) h⟩
 . have V:l≠A.b+j:=λe=>(E.held l hl).2.1 (by rw[e];exact U)
   exact B.qP S ((u.held l V).2 hl) _ _ (u.QB l _ _ _ V hl L)
 . rw[az]
   refine⟨by show A.b+j<A.b+A.n+1;omega,rfl,?_,rfl,rfl,hr,?_,.inr hJ,λl b X' h3 h4 h5=>?_⟩
   . show Y.m=bR P A Fin (s.aP j x s.sh) (A.b+j)
     rw[mF a (d _)];exact hm
   . obtain⟨_,_,av,_⟩:=E.walk _ U
     rw[Deaf_own,av];show deafBehind (dq P A s (A.b+j)) _=0;rw[dS a,G];rfl
   . obtain rfl:l=j:=by omega
     rw[d]at h5;cases h5;exact hU
end
section
variable{Z:Base}{kk:Nat->ai}{OO:Nat->aj}{J M:Nat->Prop}{w:World}{t:Trace}
def gY(kk:Nat->ai)(lk i:Nat):Nat->ai:=bF kk i ((kk i).join (kk lk))
def gi(OO:Nat->aj)(lk i mb:Nat)(x:Own):Nat->aj:=bF (bF OO i ((OO i).set mb x)) lk aj.bot
theorem bX.RX(h:bX Z kk OO J M w t){i mb:Nat}{x:Own}(N:i≠Z.lk)(L:OO Z.lk mb=some x)(ho:∀c,OO Z.lk c≠none->c=mb)(O:Z.la.block<w.heap.size)(hd:Deaf t i=0)(hold:∀m a,m<Z.N0->touchAt t m=some a->a.loc.isMemory=true -> ¬Z.Shun a.loc->Knows t i m)(W:∀m a,Z.N0<=m->t.act? m≠some (.mark (.release a)))(fn:FuncId)(pos:String):
 bX Z (gY kk Z.lk i) (gi OO Z.lk i mb x) J M w (t++MemOp.ofEvents i fn pos #[⟨.mark (.acquire Z.la),false,true⟩]):=by
 obtain⟨u,T⟩:∃u,u=MemOp.ofEvents i fn pos #[⟨.mark (.acquire Z.la),false,true⟩]:=⟨_,rfl⟩;have G:u=#[⟨i,fn,pos,.mark (.acquire Z.la)⟩]:=by rw[T,ofEvents_eq];simp[MemAct.ofEvent]
 rw[<-T];have A:jK u:=λop d=>by grind
 have X:∀op∈u,op.act.touch?=none:=λop d=>by rw[G]at d;simp at d;subst d;rfl
 have H:∀op∈u,op.g=i:=λop d=>by grind
 have I:∀m a,Z.N0<=m->(t++u).act? m≠some (.mark (.release a)):=λm a P e=>by
  rcases oU e with⟨o,_⟩|⟨op,d,o⟩
  . grind
  grind
 have Y:OO i mb=none:=h.iF Z.lk i mb x (Ne.symm N) L;have eK:∀l,l≠i->gY kk Z.lk i l=kk l:=λl hl=>aA _ _ hl
 have q:gY kk Z.lk i i=(kk i).join (kk Z.lk):=az _ _ _;have eO:∀l,l≠i->l≠Z.lk->gi OO Z.lk i mb x l=OO l:=λl o B=>by unfold gi;rw[aA _ _ B,aA _ _ o]
 have C:gi OO Z.lk i mb x i=(OO i).set mb x:=by unfold gi;rw[aA _ _ N,az]
 have D:gi OO Z.lk i mb x Z.lk=aj.bot:=by unfold gi;rw[az]
 refine h.r9 (λa b=>a=b\/(a=Z.lk/\b=i)) rfl ⟨⟨.refl _,rfl⟩,λ_ _=>rfl⟩ (λb=>.inl rfl) (λop d=>by rw[G]at d;simp at d;subst d;simpa[MemAct.low]using O) (λa b e n y Q P hz E=>?_) (λl b n v K=>?_) (λl b sv K=>?_) (λl b y f=>?_) (λa l b y r f=>?_)
  (λsaid=>noRace_append (h.clean said) H λn a R op d b hb _=>by grind) (λop d a R=>by grind) (λm op a d R=>by grind)
  (λn a R P h=>h.elim (λ⟨j,o,B⟩=>.inr (.inl ⟨j,o,B.app _⟩)) (λ⟨p,o,B⟩=>.inr (.inr (.inl ⟨p,o,B.app _⟩))))
 . rcases e with rfl|⟨rfl,rfl⟩
   . exact E.app u
   . refine(mY N).2 ?_
     unfold F0 at E;rw[if_pos rfl]at E
     rcases E with E|⟨p,h0,o,B,h3⟩
     . exact(hold n y E Q P hz).app u
     . exact lY (y:=⟨b,fn,pos,.mark (.acquire Z.la)⟩) (m:=0) A (by grind) rfl hd o B (λk E=>I k _ (by omega)) h3
 . by_cases e:l=i
   . subst e;rw[q]at K
     exact(ai.my K).elim (λh=>⟨l,.inl rfl,h⟩) (λh=>⟨Z.lk,.inr ⟨rfl,rfl⟩,h⟩)
   grind
 . by_cases e:l=i
   . subst e;rw[q]at K
     exact(ai.ET K).elim (λh=>⟨l,.inl rfl,h⟩) (λh=>⟨Z.lk,.inr ⟨rfl,rfl⟩,h⟩)
   grind
 . by_cases e:l=i
   . subst e;rw[C]at f
     by_cases z:b=mb
     . subst z
       simp only[aj.set,if_true,Option.some.injEq]at f;subst f;exact⟨Z.lk,.inr ⟨rfl,rfl⟩,L,λsv S=>by rw[q];exact(ai.vr (h.sat l) (h.sat Z.lk)).2 b sv S⟩
     . simp only[aj.set,z,if_false]at f
       exact⟨l,.inl rfl,f,λsv S=>by rw[q];exact(ai.qL _ _).2 b sv S⟩
   . by_cases U:l=Z.lk
     . subst U;rw[D]at f;cases f
     . rw[eO l e U]at f;grind
 . by_cases F:a=Z.lk
   . subst F;rw[D]at f;cases f
   by_cases s:l=Z.lk
   . subst s;rw[D];rfl
   by_cases V:a=i
   . subst V
     rw[C]at f;rw[eO l (Ne.symm r) s]
     by_cases z:b=mb
     . subst z;exact h.iF Z.lk l b x (Ne.symm s) L
     . simp only[aj.set,z,if_false]at f;exact h.iF a l b y r f
   . rw [eO a V F]at f
     by_cases el:l=i
     . subst el
       rw[C]
       by_cases z:b=mb
       . subst z
         have:=h.iF Z.lk a b x (Ne.symm F) L
         simp_all
       . simp only[aj.set,z,if_false];exact h.iF a l b y r f
     . rw[eO l el s];exact h.iF a l b y r f
end
section
variable{Z:Base}{kk:Nat->ai}{OO:Nat->aj}{J M:Nat->Prop}{w:World}{t:Trace}
def nf(kk:Nat->ai)(lk i:Nat):Nat->ai:=bF kk lk (kk i)
def eG(OO:Nat->aj)(lk i mb fb:Nat)(x:Own):Nat->aj:=bF (bF OO i (((OO i).del mb).del fb)) lk (aj.bot.set mb x)
theorem bX.RY(h:bX Z kk OO J M w t){i mb fb:Nat}{x:Own}(R:i≠Z.lk)(U:OO i mb=some x)(ho:∀c,OO Z.lk c=none)(N:Z.la.block<w.heap.size)(hd:Deaf t i=0)(fn:FuncId)(pos:String):
 bX Z (nf kk Z.lk i) (eG OO Z.lk i mb fb x) J M w (t++MemOp.ofEvents i fn pos #[⟨.mark (.releaseMerge Z.la),false,true⟩]):=by
 obtain⟨u,S⟩:∃u,u=MemOp.ofEvents i fn pos #[⟨.mark (.releaseMerge Z.la),false,true⟩]:=⟨_,rfl⟩;have F:u=#[⟨i,fn,pos,.mark (.releaseMerge Z.la)⟩]:=by rw[S,ofEvents_eq];simp[MemAct.ofEvent]
 rw[<-S];have s:jK u:=λop d=>by grind
 have V:∀op∈u,op.act.touch?=none:=λop d=>by rw[F]at d;simp at d;subst d;rfl
 have G:∀op∈u,op.g=i:=λop d=>by grind
 have z:u[0]?=some ⟨i,fn,pos,.mark (.releaseMerge Z.la)⟩:=by grind
 have eK:∀l,l≠Z.lk->nf kk Z.lk i l=kk l:=λl W=>aA _ _ W
 have X:nf kk Z.lk i Z.lk=kk i:=az _ _ _;have eO:∀l,l≠i->l≠Z.lk->eG OO Z.lk i mb fb x l=OO l:=λl H I=>by unfold eG;rw[aA _ _ I,aA _ _ H]
 have k:eG OO Z.lk i mb fb x i=((OO i).del mb).del fb:=by unfold eG;rw[aA _ _ R,az]
 have A:eG OO Z.lk i mb fb x Z.lk=aj.bot.set mb x:=by unfold eG;rw[az]
 have K:∀b y,(((OO i).del mb).del fb) b=some y->b≠mb/\OO i b=some y:=λb y f=>by
  by_cases q:b=fb
  . simp[aj.del,q]at f
  by_cases r:b=mb
  . simp[aj.del,r]at f
  . exact⟨r,by simpa[aj.del,q,r]using f⟩
 have L:∀b y,(aj.bot.set mb x) b=some y->b=mb/\y=x:=λb y f=>by
  by_cases e:b=mb
  . subst e;simp only[aj.set,if_true,Option.some.injEq]at f;simp_all
  . simp only[aj.set,e,if_false]at f;cases f
 have B:∀b,OO i b=none->(((OO i).del mb).del fb) b=none:=λb Y=>by
  by_cases q:b=fb
  . simp[aj.del,q]
  by_cases r:b=mb
  . grind
  . simpa[aj.del,q,r]using Y
 refine h.r9 (λa b=>a=b\/(a=i/\b=Z.lk)) rfl ⟨⟨.refl _,rfl⟩,λ_ _=>rfl⟩ (λb=>.inl rfl) (λop d=>by rw[F]at d;simp at d;subst d;simpa[MemAct.low]using N) (λa b e n y a7 hm hz T=>?_) (λl b n v hv=>?_) (λl b sv hv=>?_) (λl b y f=>?_) (λa l b y o f=>?_)
  (λsaid=>noRace_append (h.clean said) G λn a O op d b hb _=>by grind) (λop d a O=>by grind) (λm op a d O=>by grind)
  (λn a O hm h=>h.elim (λ⟨j,H,I⟩=>.inr (.inl ⟨j,H,I.app _⟩)) (λ⟨p,H,I⟩=>.inr (.inr (.inl ⟨p,H,I.app _⟩))))
 . rcases e with rfl|⟨rfl,rfl⟩
   . exact T.app u
   . have P:Knows t a n:=(mY R).1 T
     unfold F0;rw[if_pos rfl];exact .inr ⟨t.size+0,by have:=h.n0;omega,by rw[act?_of (cX z)],heard_new s z hd,kL P z rfl⟩
 . grind
 . grind
 . by_cases r:l=Z.lk
   . subst r;rw[A]at f
     grind
   by_cases e:l=i
   . subst e;rw[k]at f
     grind
   . rw[eO l e r]at f;grind
 . by_cases C:a=Z.lk
   . subst C;rw[A]at f
     obtain⟨rfl,rfl⟩:=L b y f
     by_cases el:l=i
     . subst el;rw[k]
       by_cases q:b=fb
       . simp[aj.del,q]
       . simp[aj.del,q]
     . rw[eO l el (Ne.symm o)];exact h.iF i l b y (Ne.symm el) U
   by_cases D:l=Z.lk
   . subst D;rw[A]
     have Q:b≠mb:=by
      by_cases E:a=i
      . subst E;rw[k]at f;grind
      . rw[eO a E C]at f
        intro e;subst e;have:=h.iF a i b y E f
        grind
     simp only[aj.set,Q,if_false];rfl
   by_cases E:a=i
   . subst E
     rw[k]at f;rw[eO l (Ne.symm o) D];exact h.iF a l b y o (K b y f).2
   . rw[eO a E C]at f
     by_cases el:l=i
     . subst el;rw[k];exact B b (h.iF a l b y o f)
     . rw[eO l el D];exact h.iF a l b y o f
end
section
variable{P:Program}{A:bt}{Fin:ai->aj->Goroutine->Prop}{Z:Base}{s:MS P}{f:Nat->Node P}{q:Nat->Nat}{kk:Nat->ai}{OO:Nat->aj}{J M:Nat->Prop}{gs:Array Goroutine}{gsz:Nat}{w:World}{t u:Trace}{j:Nat}{g:Goroutine}{x:ba P}{xo:Own}
theorem Gh{x:ba P}(h:x.owns=true):x.pc=.held:=by
 cases x with
 |run b X=>cases b<;>simp_all [ba.owns,ba.pc]
 |un p Y=>cases p<;>simp_all [ba.owns,ba.pc,qR.abs]
 |_=>simp_all [ba.owns]
theorem Bw(I:bD A.n s)(a:j<A.n)(b:(s.w j).pc=.held){l:Nat}(c:l<A.n)(d:(s.w l).owns=true):l=j:=by
 by_cases e:l=j
 . exact e
 . have h:=I.mu.j1
   have f:=Mu.eX Mu.bO (λi=>(s.w i).pc) j .out a
   have g:Mu.bO (Mu.set (λi=>(s.w i).pc) j .out l)<=Mu.tot A.n (λi=>Mu.bO (Mu.set (λi=>(s.w i).pc) j .out i)):=Mu.gV (λi=>Mu.bO (Mu.set (λi=>(s.w i).pc) j .out i)) c
   rw[Mu.ak _ _ e,Gh d]at g;have k:Mu.bO .held=1:=rfl;have m:Mu.bO .out=0:=rfl;rw[b]at f;have:s.sh.w.L.toNat<=1:=by cases s.sh.w.L<;>simp
   omega
def jT(A:bt)(Z:Base)(OO:Nat->aj)(i:Nat)(x:Own)(a:Nat->Option Value):Nat->aj:=bF (gi OO Z.lk i A.mb x) i ((gi OO Z.lk i A.mb x i).set A.fb (.part a))
theorem bt.Tk.Mh{f:Nat->Option Value}(h:A.Tk j f){l:Nat}(a:f l≠none):A.dir=true/\l=A.cell j:=by
 unfold bt.Tk at h;split at h
 . grind
 . subst h;exact absurd rfl a
theorem cI.take{p:Nat->Option Value}(K:A.Tk j p)(hZ:A.b+A.n+1<=Z.lk)(h:cI P A Z s kk OO J M gsz w t)(F:j<A.n)(f:(s.w j).work=true)(L:x.work=true)(N:∀l,l<A.n->(s.w l).owns=false)(G:x.owns=true)(W:bD A.n (s.aP j x s.sh))(X:∀op∈u,op.act.touch?=none/\∀a,op.act≠.mark (.release a)):
 cI P A Z (s.aP j x s.sh) (gY kk Z.lk (A.b+j)) (jT A Z OO (A.b+j) xo p) J M gsz w (t++u):=by
 have T:A.b+j≠Z.lk:=by omega
 have r:x.busy=(s.w j).busy:=by rw[(bj f).2.2.2.2.2.1,(bj L).2.2.2.2.2.1]
 have O:∀l,l≠A.b+j->gY kk Z.lk (A.b+j) l=kk l:=λl d=>aA _ _ d
 have Q:gY kk Z.lk (A.b+j) (A.b+j)=(kk (A.b+j)).join (kk Z.lk):=az _ _ _;have eO:∀l,l≠A.b+j->l≠Z.lk->jT A Z OO (A.b+j) xo p l=OO l:=λl f L=>by unfold jT gi;rw[aA _ _ f,aA _ _ L,aA _ _ f]
 have z:jT A Z OO (A.b+j) xo p (A.b+j)=((OO (A.b+j)).set A.mb xo).set A.fb (.part p):=by unfold jT gi;rw[az,aA _ _ T,az]
 have B:jT A Z OO (A.b+j) xo p Z.lk=aj.bot:=by unfold jT gi;rw[aA _ _ (Ne.symm T),az]
 have C:bG P A s (A.b+j):=gK h.I F (bj f).2.2.2.2.1
 have U:∀i,OO i A.fb=none:=λi=>by
  cases e:OO i A.fb with
  |none=>rfl
  | some y=>
    obtain⟨l,_,d,_,ho,_⟩:=h.tok i y e
    grind
 have g:∀{c n:Nat},(∀i,(kk i).cell c n=none)->(gY kk Z.lk (A.b+j) (A.b+j)).cell c n=none:=λ{c n} Y=>by
  rw[Q];cases e:((kk (A.b+j)).join (kk Z.lk)).cell c n with
  |none=>rfl
  |some v=>rcases ai.my e with h|h<;>rw[Y]at h<;>cases h
 refine⟨W,h.size,h.dd,h.off,λhd l d=>?_,h.yn,h.mu,h.gr,h.tz,h.xC,λi=>?_,λi=>?_,λi y D=>?_,λl d k=>?_,λk=>?_,λc V=>?_,
  λi=>by rw[h.hJ i];exact(na F r i).symm,h.tB u,h.lG u,h.jB u (λop o a R=>by simp_all),h.m9 u (λop o a R=>by simp_all),h.oc u,h.iJ u (λop o=>(X op o).2),λi d hb=>?_,h.qN,h.jh,h.dY,h.la,by simp;exact Nat.le_trans h.n0 (Nat.le_add_right _ _)⟩
 . by_cases e:l=j
   . subst e
     rw[aQ];exact⟨λE=>by(rw[yo G]at E;cases E),λS=>by simp[ba.rel,G]at S⟩
   . rw[bU e]
     refine⟨λE=>⟨λi=>?_,λm a ad R q q'=>(dB R).elim (λf=>((h.xk hd l d).1 E).2 m a ad f.1 q q') (λ⟨op,o,f⟩=>by simp_all)⟩,λS=>?_⟩
     . have f:=((h.xk hd l d).1 E).1
       grind
     . rw[O _ (by omega)];exact(h.xk hd l d).2 S
 . by_cases e:i=A.b+j
   . subst e;rw[z]
     have:=h.fe (A.b+j);simp only[aj.set,A.d1,A.d3,Ne.symm A.d4,A.d6,if_false];exact this
   by_cases H:i=Z.lk
   . subst H;rw[B];exact⟨λ_=>rfl,rfl⟩
   . rw[eO i e H];exact h.fe i
 . by_cases e:i=A.b+j
   . subst e
     exact⟨g λi=>(h.dM i).1,g λi=>(h.dM i).2.1,g λi=>(h.dM i).2.2.1,g λi=>(h.dM i).2.2.2⟩
   . rw[O i e];exact h.dM i
 . by_cases e:i=A.b+j
   . subst e;rw[z]at D
     simp only[aj.set,if_true,Option.some.injEq]at D;exact⟨j,p,F,rfl,by rw[aQ];exact G,D.symm,λ_=>K.Mh⟩
   by_cases H:i=Z.lk
   . subst H;rw[B]at D;cases D
   simp_all
 . by_cases e:l=j
   . subst e;rw[z];simp[aj.set]
   . rw[bU e,N l d]at k;cases k
 . have:=k j F
   rw[aQ,G]at this;cases this
 . rw[B]at V;exact absurd rfl V
 . have e:i≠A.b+j:=λe=>hb (e ▸ C)
   rw[O i e,eO i e d];exact h.Bo i d hb
end
section
variable{P:Program}{A:bt}{Fin:ai->aj->Goroutine->Prop}{Z:Base}{s:MS P}{f:Nat->Node P}{q:Nat->Nat}{kk:Nat->ai}{OO:Nat->aj}{J M:Nat->Prop}{gs:Array Goroutine}{w:World}{t:Trace}{j:Nat}{g:Goroutine}
variable(C:eY P A.nm)(X:eZ P A.nm)(F:lq P A.nm)
include C X F in
theorem M4(hZ:A.b+A.n+1<=Z.lk)(K:bn (bL P A Fin Z hZ) Z s f q kk OO J M gs w t)(o:j<A.n){Y:ui P}(U:s.w j=.lk .la Y)(hg:gs[A.b+j]?=some g)(bm:Fc P A j (.lk .la Y) (kk (A.b+j)) (OO (A.b+j)) g)(sl:Option (Nat × Nat)):
 Goes P A Fin Z hZ s gs w t sl (A.b+j):=by
 have d:cI P A Z s kk OO J M gs.size w t:=K.ex;have B:=aY (P:=P) (A:=A) (Fin:=Fin) (Z:=Z) hZ;have u:(s.w j).jC=true:=by rw[U];rfl
 have w1:=gW u;have br:(s.w j).pc=.held:=by rw[U];rfl
 have hb:=A.hb;have p:A.b+j≠Z.lk:=by omega
 have bw:(A.b+j==0)=false:=by simp;omega
 have V:∀l,l<A.n->(s.w l).owns=false:=λl G=>by
  cases e:(s.w l).owns with
  |false=>rfl
  |true=>obtain rfl:=Bw d.I o br G e;rw[U]at e;cases e
 have Q:∀i,OO i A.fb=none:=λi=>by
  cases e:OO i A.fb with
  |none=>rfl
  |some y=>obtain⟨l,_,G,_,ho,_⟩:=d.tok i y e;rw[V l G]at ho;cases ho
 obtain⟨xo,a,ab,bx,bA⟩:=d.Mf V;obtain⟨kind,c,rest,e,hk,hM,hm,hO,al,bB,hN⟩:=bm;obtain⟨cc,ee,ar⟩:=d.tz
 have av:e=(ee,cc.size):=by have hs:=(K.cA.sat (A.b+j)).sh _ _ al;simp only[World.shape?,ar]at hs;exact(Option.some.inj hs).symm
 obtain⟨r,W,ax⟩:∃r,A.Tk j r/\∀n v,r n=some v->A.dir=true/\n=A.cell j/\cc[n]?=some v:=by
  unfold bt.Tk
  by_cases hd:A.dir=true
  . have:=bB hd
    rw[av]at this;refine⟨λi=>if i=A.cell j then some cc[A.cell j]else none,by rw[if_pos hd];exact⟨_,rfl⟩,λn v H=>?_⟩
    simp only at H;split at H
    . next e=>subst e;exact⟨hd,rfl,by rw[<-H];exact Array.getElem?_eq_getElem this⟩
    . cases H
  . exact⟨I',by rw[if_neg hd],λn v H=>by cases H⟩
 have ay:(kk Z.lk).Le ((kk (A.b+j)).join (kk Z.lk)):=ai.vr (K.cA.sat (A.b+j)) (K.cA.sat Z.lk);have z:=hN ((kk (A.b+j)).join (kk Z.lk)) xo a r (ai.qL _ _) (bx.mono ay) bA (K.cA.iF Z.lk (A.b+j) _ _ (Ne.symm p) ab) W;obtain⟨g1,b1,hr,g2,b2,hA⟩:=E4 (Wd:=λ_=>True) (main:=false) (w:=w) C X hM
 obtain⟨k,c6⟩:=b2.trans (qV F hA hk);rw[<-d.la]at b1;have a7:gY kk Z.lk (A.b+j) (A.b+j)=(kk (A.b+j)).join (kk Z.lk):=az _ _ _;have c7:jT A Z OO (A.b+j) xo r (A.b+j)=((OO (A.b+j)).set A.mb xo).set A.fb (.part r):=by unfold jT gi;rw[az,aA _ _ p,az]
 rw[<-a7,<-c7]at z;obtain⟨T,hU⟩:=TT.pre c6 (Y.c _ _ _ z);obtain⟨x,hx⟩:∃x:ba P,x=.run true ⟨Y.m,gY kk Z.lk (A.b+j) (A.b+j),jT A Z OO (A.b+j) xo r (A.b+j),_,Y.c _ _ _ z⟩:=⟨_,rfl⟩;have w2:x.work=true:=by rw[hx];rfl
 have D:∀sh,((s.aP j x sh).w j)=.run true ⟨Y.m,gY kk Z.lk (A.b+j) (A.b+j),jT A Z OO (A.b+j) xo r (A.b+j),_,Y.c _ _ _ z⟩:=λsh=>by rw[aQ,hx]
 have b3:=runT_crowd_go (P:=P) (sl:=sl) (i:=A.b+j) hg (by rw[bw];exact b1)
 have b4:=gX (P:=P) (A:=A) (s:=s) o u
 have L:Deaf t (A.b+j)=0:=by obtain⟨_,_,L,_⟩:=K.walk _ b4;rw[L];show dq P A s (A.b+j)=0;rw[dS o,U];rfl
 have R:bG P A s (A.b+j):=gK d.I o (bj w1).2.2.2.2.1;have hJ:J (A.b+j):=(d.hJ _).2 (uF o (bj w1).2.2.2.2.2.1);have b5:∀op∈MemOp.ofEvents (A.b+j) g.frame.fn g.frame.place #[⟨.mark (.acquire Z.la),false,true⟩],op.g=A.b+j:=λop E=>by obtain⟨e,_,rfl⟩:=Go.Conc.mem_ofEvents E;rfl
 have b6:∀op∈MemOp.ofEvents (A.b+j) g.frame.fn g.frame.place #[⟨.mark (.acquire Z.la),false,true⟩],op.act.touch?=none/\∀a,op.act≠.mark (.release a):=λop E=>by obtain⟨e,he,rfl⟩:=Go.Conc.mem_ofEvents E;simp at he;subst he;exact⟨rfl,λa h=>by simp[MemAct.ofEvent]at h⟩
 have b7:A.fb<w.heap.size:=by obtain⟨c,e,u⟩:=d.tz;exact(Array.getElem?_eq_some_iff.1 u).1
 have ca:=K.cA.RX p ab (λc hc=>(d.Mg c hc).1) (by rw[d.la];exact b7) L (λm a hm ha b8 hz=>d.old _ R m a hm ha b8 hz) d.norel g.frame.fn g.frame.place
 have a8:∀l,gi OO Z.lk (A.b+j) A.mb xo l A.fb=none:=λl=>by
  unfold gi
  by_cases e1:l=Z.lk
  . subst e1;rw[az];rfl
  by_cases e2:l=A.b+j
  . subst e2;rw[aA _ _ e1,az];simp only[aj.set,A.d5,if_false];exact Q _
  . rw[aA _ _ e1,aA _ _ e2];exact Q _
 have b9:A.dir=true->(∀i,(kk i).cell A.fb (A.cell j)=none)/\∀m a S,touchAt t m=some a->a.loc=.cell S->S.block=A.fb/\S.off=A.cell j->m<Z.N0:=λhd=>(d.xk hd j o).1 (by rw[U];rfl)
 have a9:∀n,r n≠none->A.dir=true/\n=A.cell j:=λn hn=>W.Mh hn
 have hP:=ca.Rb (f:=r) p a8 (λn v H i=>by
  obtain⟨hd,rfl,_⟩:=ax n v H;have u:=(b9 hd).1
  by_cases ei:i=A.b+j
  . subst ei
    rw[a7];cases q:((kk (A.b+j)).join (kk Z.lk)).cell A.fb (A.cell j)with
    |none=>rfl
    |some v=>rcases ai.my q with h|h<;>rw[u]at h<;>cases h
  . unfold gY;rw[aA _ _ ei];exact u i) (λS u h2=>d.jh S ⟨u,.inr (.inr ⟨(a9 _ h2).1,j,o,(a9 _ h2).2⟩)⟩) (by
  refine⟨cc,ee,ar,?_,λn v H=>(ax n v H).2.2⟩
  rw[a7];refine(ai.qL _ _).2 _ _ ?_;rw[al,av]) (λm a S ha G u h2=>by
  obtain⟨hd,h3⟩:=a9 _ h2
  rcases dB ha with⟨h4,_⟩|⟨op,E,h4⟩
  . exact(d.old _ R m a ((b9 hd).2 m a S h4 G ⟨u,h3⟩) h4 (by rw[G];rfl) (by rw[G];exact d.jh S ⟨u,.inr (.inr ⟨hd,j,o,h3⟩)⟩)).app _
  . rw[(b6 op E).1]at h4;cases h4) d.dY.2.1
 have hI:bD A.n (s.aP j x s.sh):=d.I.still o w1 w2 (by rw[hx];rfl) (by rw[hx,U];rfl)
 have hL:MS.eU A.n (s.aP j x s.sh) s:=zF o w1 w2 ⟨_,_,by rw[hx];rfl,by rw[U];rfl,.single (nM.cN Y.N Y.h0 Y.ht Y.c z)⟩
 have cb:=d.take (xo:=xo) W hZ o w1 w2 V (by rw[hx];rfl) hI b6
 have cg:Beside (bL P A Fin Z hZ) s (s.aP j x s.sh) f (bF f (A.b+j) ⟨Y.m,gY kk Z.lk (A.b+j) (A.b+j),jT A Z OO (A.b+j) xo r (A.b+j),g1,T⟩) q q kk (gY kk Z.lk (A.b+j)) OO (jT A Z OO (A.b+j) xo r) J J w (A.b+j) g g1:=lH hZ o w1 w2 (λi hi=>aA _ _ hi) (λi hi=>rfl) (λi hi _=>aA _ _ hi) (λi hi ht=>by unfold jT gi;rw[aA _ _ hi,aA _ _ (show i≠Z.lk by omega),aA _ _ hi]) (λ_ h=>h) (.inl λh=>h) (λ{i k O y} hA=>B.jS (s:=s) (i:=i) (k:=k) (O:=O) (g:=y) hA)
 refine⟨_,_,b3,s.aP j x s.sh,bF f (A.b+j) ⟨Y.m,gY kk Z.lk (A.b+j) (A.b+j),jT A Z OO (A.b+j) xo r (A.b+j),g1,T⟩,q,gY kk Z.lk (A.b+j),jT A Z OO (A.b+j) xo r,J,M,_,_,_,rfl,hL,?_⟩;refine bn.step B K hg b5 hP cb (λl y G hA=>?_) cg ⟨λ_=>?_,λh=>absurd h (sx o (D _)),λh=>absurd h (ji o (D _)),λh=>absurd (jD o (D _)) h⟩
 . have cm:l≠A.b+j:=λe=>(K.held l G).2.1 (by rw[e];exact b4)
   exact B.qP d G _ _ hA
 . rw[az]
   refine⟨by show A.b+j<A.b+A.n+1;omega,rfl,?_,rfl,rfl,hr,?_,.inr hJ,λl b X' h3 h4 h5=>?_⟩
   . show Y.m=bR P A Fin (s.aP j x s.sh) (A.b+j)
     rw[mF o (D _)];exact hm
   . rw[Deaf_own,L];rfl
   . obtain rfl:l=j:=by omega
     rw[D]at h5;cases h5;exact hU
end
end Go.bu

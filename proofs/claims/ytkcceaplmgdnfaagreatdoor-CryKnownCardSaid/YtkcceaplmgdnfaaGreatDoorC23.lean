import Derived.Test.YtkcceaplmgdnfaaGreatDoorC22
set_option linter.all false
namespace Go.bu
open Go.Conc
open Go.ConcN (sumTo upd sumTo_upd upd_ne upd_same)
section
variable{P:Program}{A:bt}{Fin:ai->aj->Goroutine->Prop}{Z:Base}{s s':MS P}{f f':Nat->Node P}{q q':Nat->Nat}{kk kk':Nat->ai}{OO OO':Nat->aj}{J J' M M':Nat->Prop}{gs gs':Array Goroutine}{w w':World}{t u:Trace}{j:Nat}{g g₂:Goroutine}{z v:Value}
theorem rk{w:World}{b i:Nat}{c:Array Value}{e:TypeId}{v:Value}(h:w.heap[b]?=some (.cells c e (0,0)))(a:w.cell? ⟨b,i,none⟩=some v):c[i]?=some v:=by simpa[World.cell?,h]using a
theorem BJ{w:World}{b:Nat}{c:Array Value}{e:TypeId}(h:w.heap[b]?=some (.cells c e (0,0))):w.shape? b=some (e,c.size):=by simp[World.shape?,h]
theorem Jx(h:∀i,∃O,Sat (kk i) O w):∃K:ai,(∀b n v,K.cell b n=some v->∃i,(kk i).cell b n=some v)/\(∀b s,K.sh b=some s->∃i,(kk i).sh b=some s)/\∀i,(kk i).Le K:=by
 classical
 refine⟨⟨λb n=>if e:∃v,∃i,(kk i).cell b n=some v then some e.choose else none,λb=>if e:∃s,∃i,(kk i).sh b=some s then some e.choose else none⟩,λb n v a=>?_,λb s c=>?_,λi=>⟨λb n v a=>?_,λb s c=>?_⟩⟩
 . simp only at a
   split at a
   . grind
   . cases a
 . simp only at c
   split at c
   . grind
   . cases c
 . have e:∃v,∃i,(kk i).cell b n=some v:=⟨v,i,a⟩
   show dite _ _ _=_;rw[dif_pos e];obtain⟨l,d⟩:=e.choose_spec;obtain⟨_,f⟩:=h i;obtain⟨_,g⟩:=h l;have:=g.cell b n _ d;rw[f.cell b n v a]at this
   simp_all
 . have e:∃s,∃i,(kk i).sh b=some s:=⟨s,i,c⟩
   show dite _ _ _=_;rw[dif_pos e];obtain⟨l,d⟩:=e.choose_spec;obtain⟨_,f⟩:=h i;obtain⟨_,g⟩:=h l;have:=g.sh b _ d;rw[f.sh b s c]at this
   simp_all
theorem Ft(hZ:A.b+A.n+1<=Z.lk)(z:bn (bL P A Fin Z hZ) Z s f q kk OO J M gs w t)(B:∀j,j<A.n->s.w j=.gone)(b9:s.c=.gone\/A.cl=0)(hu:jK u)(a8:∀op∈u,op.act.touch?=none)(R:∀op∈u,op.act.low w.heap.size)(d0:Deaf t 0=0)
 (S:∀i,J i->i=0) (a9:∀p n,M p->Before t n p->Knows (t++u) 0 n) (ab:gs'[0]?=some g) (al:∀i,i≠0->gs'[i]?=gs[i]?) (bm:gs'.size=gs.size) (H:∃e,(kk 0).sh A.fb=some e):
 ∃K x a,(∀i,(kk i).Le K)/\jJ K x a/\A.GI a/\du P Z.W0 K (((OO 0).set A.mb x).set A.fb (.part (bo A.fo))) g gs' w (t++u):=by
 have G:cI P A Z s kk OO J M gs.size w t:=z.ex;have hb:=A.hb;have C:(0:Nat)≠Z.lk:=by omega
 obtain⟨es,H⟩:=H;obtain⟨K,br,bw,D⟩:=Jx λi=>⟨_,z.cA.sat i⟩
 have E:∀n a,touchAt t n=some a->a.loc.isMemory=true -> ¬Z.Shun a.loc->Knows (t++u) 0 n:=λn a O hm hz=>by
  rcases z.cA.acc n a O hm with h|⟨j,hj,h⟩|⟨p,hp,h⟩|⟨h,_⟩
  . exact h.app u
  . rw[S j hj]at h;exact h.app u
  . grind
  simp_all
 obtain⟨x,a,hx,ar,av⟩:=G.Mf λj hj=>by rw[B j hj];rfl
 have T:∀i,OO i A.fb=none:=λi=>by
  cases e:OO i A.fb with
  |none=>rfl
  |some y=>obtain⟨j,_,r,_,k,_⟩:=G.tok i y e;rw[B j r]at k;cases k
 have ax:bX Z (bF kk 0 K) (bF (bF OO 0 ((OO 0).set A.mb x)) Z.lk aj.bot) (λ_=>False) (λ_=>False) w (t++u):=by
  have L:∀j b y,bF (bF OO 0 ((OO 0).set A.mb x)) Z.lk aj.bot j b=some y->(j≠Z.lk/\OO j b=some y/\¬(j=0/\b=A.mb))\/(j=0/\b=A.mb/\y=x):=λj b y d=>by
   by_cases e:j=Z.lk
   . subst e;rw[az]at d;cases d
   . rw [aA _ _ e]at d
     by_cases U:j=0
     . subst U
       rw[az]at d
       by_cases eb:b=A.mb
       . subst eb
         simp only[aj.set,if_true,Option.some.injEq]at d
         simp_all
       . simp only[aj.set,if_neg eb]at d
         simp_all
     . rw[aA _ _ U]at d
       simp_all
  refine z.cA.r9 (λa b=>a=b\/b=0) rfl ⟨⟨.refl _,rfl⟩,λ_ _=>rfl⟩ (λb=>.inl rfl) R (λi j e n y d V hz ay=>?_) (λj b n v F=>?_) (λj b s F=>?_) (λj b y d=>?_) (λi j b y b1 d=>?_)
   (λsaid=>noRace_appendMute (z.cA.clean said) a8) (λop W a O=>by simp_all) (λm op a W O=>by grind) (λn a O V h=>?_)
  . rcases e with rfl|rfl
    . exact ay.app u
    . exact(mY C).2 (E n y d V hz)
  . by_cases e:j=0
    . subst e
      rw[az]at F
      simp_all
    . rw[aA _ _ e]at F;simp_all
  . by_cases e:j=0
    . subst e
      rw[az]at F
      simp_all
    . rw[aA _ _ e]at F;simp_all
  . rcases L j b y d with⟨r,k,h3⟩|⟨rfl,rfl,rfl⟩
    . refine⟨j,.inl rfl,k,λs hs=>?_⟩
      by_cases e:j=0
      . subst e;rw[az];exact(D 0).sh b s hs
      . rw[aA _ _ e];exact hs
    . exact⟨Z.lk,.inr rfl,hx,λs hs=>by rw[az];exact(D _).sh _ s hs⟩
  . cases q:bF (bF OO 0 ((OO 0).set A.mb x)) Z.lk aj.bot j b with
    |none=>rfl
    | some y'=>
      rcases L i b y d with⟨r,k,h3⟩|⟨rfl,rfl,rfl⟩
      . rcases L j b y' q with⟨k1,k2,k3⟩|⟨rfl,rfl,rfl⟩
        . have:=z.cA.iF i j b y b1 k
          simp_all
        . have:=z.cA.iF i Z.lk _ y r k
          simp_all
      . rcases L j A.mb y' q with⟨k1,k2,k3⟩|⟨rfl,_,_⟩
        . have:=z.cA.iF j Z.lk _ y' k1 k2
          simp_all
        omega
  . rcases h with⟨j,r,k⟩|⟨p,r,k⟩
    . rw[S j r]at k;exact .inl (k.app u)
    . exact .inl (a9 p n r k)
 obtain⟨b2,b3⟩:=G.I.mu.rest λi hi=>by rw[B i hi];rfl
 obtain⟨X,ce,o⟩:=G.tz
 have Y:es=(ce,X.size):=by
  have:=(z.cA.sat 0).sh _ _ H;rw[BJ o]at this
  simp_all
 have bx:X[A.fo]?=some (.int .i32 0):=by have:=G.mu.cw;rw[b2]at this;exact rk o this
 have bA:X[A.fo+1]?=some (.int .u32 0):=by have:=G.mu.cs;rw[b3]at this;exact rk o this
 have a7:∀n v,bo A.fo n=some v->(n=A.fo\/n=A.fo+1)/\X[n]?=some v:=λn v F=>by
  unfold bo at F
  grind
 have b4:∀n,bo A.fo n≠none->(n=A.fo\/n=A.fo+1):=λn hn=>by
  cases e:bo A.fo n with
  |none=>simp_all
  |some v=>simp_all
 have N:∀i n,(n=A.fo\/n=A.fo+1)->(bF kk 0 K i).cell A.fb n=none:=λi n hn=>by
  have hk:∀l,(kk l).cell A.fb n=none:=λl=>by rcases hn with h|h<;>rw[h]<;>first|exact(G.dM l).1|exact(G.dM l).2.1
  cases e:(bF kk 0 K i).cell A.fb n with
  |none=>rfl
  | some v=>
    by_cases ei:i=0
    . subst ei
      rw[az]at e
      grind
    . rw[aA _ _ ei,hk]at e;cases e
 have b5:∀Q:Addr,Q.block=A.fb->bo A.fo Q.off≠none -> ¬Z.Shun (.cell Q):=λQ r k=>G.jh Q ⟨r,(b4 _ k).imp id .inl⟩
 have b6:=ax.Rb C (b:=A.fb) (f:=bo A.fo) (λi=>?_) (λn v F i=>N i n (a7 n v F).1) b5 ⟨X,ce,o,?_,λn v F=>(a7 n v F).2⟩ (λm a Q O hl bB hf=>?_) G.dY.2.1
 . have b7:∀i,0<i -> ¬c9 P A s i/\¬fa P A s i/\¬ep P A s i:=λi hi=>by
    refine⟨?_,?_,?_⟩
    . rintro(⟨h,_⟩|⟨a,a1,a2,a3⟩|⟨h,a3⟩)
      . omega
      . grind
      grind
    . rintro(⟨h,_⟩|⟨a,a1,a2,a3⟩|⟨h,a3⟩)
      . omega
      . grind
      grind
    . rintro(⟨h,_⟩|⟨a,a1,a2,a3⟩)
      . omega
      grind
   have hS:=b6.finish (P:=P) (gs:=gs') (g:=g) (q:=q) ab ⟨λi y hi d=>by
    rw[al i (by omega)]at d
    rw[bP hu];obtain⟨n1,n2,n3⟩:=b7 i hi;exact(z.rest i y d n1 n2 n3).2,λj hj=>by rw[bP hu];exact z.above j (by omega)⟩ (by rw[bP hu];exact d0)
   rw[az,az,aA _ _ C,az]at hS;exact⟨K,x,a,D,ar.mono (D _),av,hS⟩
 . by_cases e:i=Z.lk
   . subst e;rw[az];rfl
   . rw[aA _ _ e]
     by_cases U:i=0
     . subst U;rw[az];simp only[aj.set,if_neg A.d5];exact T 0
     . rw[aA _ _ U];exact T i
 . rw[az,<-Y];exact(D 0).sh _ _ H
 . have b8:touchAt t m=some a:=by
    rcases dB O with⟨r,_⟩|⟨op,W,r⟩
    . exact r
    grind
   exact E m a b8 (by rw[hl];rfl) (by grind)
theorem Pk(F:A.b+A.n+1<=Z.lk)(r:A.dir=false)(v:bn (bL P A Fin Z F) Z s f q kk OO J M gs w t)(hm:s.ms=.recv)(D:s.c=.gone)(V:gs[0]?=some g){N:ai->aj->Goroutine->Prop}(W:(pM P A Fin (MS.rem P A.n s).length (MS.rem P A.n s)).cN (kk 0) (OO 0) g N)(sl:Option (Nat × Nat)):
 ∃ops X,runT P (crowd gs w sl) 0=(.next X,ops)/\∃gs' w' G k' O' g',X=crowd gs' w' G/\du P Z.W0 k' O' g' gs' w' (t++ops)/\Fin k' O' g':=by
 have E:cI P A Z s kk OO J M gs.size w t:=v.ex;obtain⟨c0,v0,m0,d⟩:=E.I.g8 (by rw[D];rfl);obtain⟨xs,tm,H⟩:=E.yn r;rw[show s.c.dO=true by rw[D];rfl]at H
 have B:MS.rem P A.n s=[]:=by
  cases hr:MS.rem P A.n s with
  |nil=>rfl
  | cons a l=>
    have:a∈MS.rem P A.n s:=by grind
    obtain⟨L,Y⟩:=rf.1 this;rw[d a L]at Y;cases Y
 rw[B]at W;obtain⟨_,g₂,z,L,_,e3,O,e4⟩:=W;have Q:=(Array.getElem?_eq_some_iff.1 V).1;obtain⟨_,_,_,_,_,_,d0,_⟩:=v.live _ (ib hm);have C:=crowd_recv_closed (P:=P) (sl:=sl) V (show stepG P (0==0) g w=_ from L w (v.cA.sat 0)) H (nk λi x _ hx=>tD F v hx (λj h1 h2 h3=>by simp_all) _);rw[eH]at C;obtain⟨u,a7⟩:∃u:Trace,u=#[{g:=0,fn:=g₂.frame.fn,pos:=g₂.frame.place,act:=.recvClosed A.cF}]:=⟨_,rfl⟩;have k:runT P (crowd gs w sl) 0=(.next (crowd (gs.setIfInBounds 0 (g₂.finishComm P #[rcase A.cF z] (.recv true) 0 z false)) w sl),u):=by simp_all
 have R:A.cF<w.heap.size:=(Array.getElem?_eq_some_iff.1 H).1;have e:∀op∈u,op={g:=0,fn:=g₂.frame.fn,pos:=g₂.frame.place,act:=.recvClosed A.cF}:=λop h=>by simp_all
 have hu:jK u:=λop h=>by simp_all
 have S:u[0]?=some {g:=0,fn:=g₂.frame.fn,pos:=g₂.frame.place,act:=.recvClosed A.cF}:=by grind
 obtain⟨K,x,a,h1,h2,h3,hS⟩:=Ft (gs':=gs.setIfInBounds 0 (g₂.finishComm P #[rcase A.cF z] (.recv true) 0 z false)) F v d (.inl D) hu (λop h=>by rw[e op h];rfl) (λop h=>by rw[e op h];exact R) d0 (λi T=>by
  rcases(E.hJ i).1 T with⟨a,U,a2,o⟩|⟨_,o⟩
  . rw[d a U]at o;cases o
  . rw[D]at o;cases o) (λp n hp hk=>by
  obtain⟨U,_,o⟩:=E.hM p hp;rcases o with⟨_,a4⟩|⟨_,a4⟩
  . simp_all
  . exact zp (t:=t) hu (m:=0) (y:={g:=0,fn:=g₂.frame.fn,pos:=g₂.frame.place,act:=.recvClosed A.cF}) S a4 U rfl d0 hk) (Array.getElem?_setIfInBounds_self_of_lt Q) (λi T=>Array.getElem?_setIfInBounds_ne (Ne.symm T)) (by simp) O
 exact⟨u,_,k,_,w,sl,_,_,_,rfl,hS,e4 _ x a (h1 0) h2 h3⟩
end
def rl(n:Nat)(f1 a:FuncId)(b c:String):Trace:=#[{g:=0,fn:=f1,pos:=b,act:=.go n},{g:=n,fn:=a,pos:=c,act:=.start}]
theorem eT{n:Nat}{f1 b:FuncId}{c d:String}{op:MemOp}(h:op∈rl n f1 b c d):op.act.touch?=none/\(op.act≠.mark .disable/\op.act≠.mark .enable)/\(∀B,op.act.low B)/\∀a,op.act≠.mark (.release a):=by
 simp only[rl,List.mem_toArray,List.mem_cons,List.not_mem_nil,or_false]at h;rcases h with rfl|rfl<;>exact⟨rfl,⟨by simp,by simp⟩,λB=>trivial,by simp⟩
theorem bot_join(k:ai):ai.bot.join k=k:=rfl
section
variable{P:Program}{A:bt}{Fin:ai->aj->Goroutine->Prop}{Z:Base}{s s':MS P}{f f':Nat->Node P}{q q':Nat->Nat}{kk kk':Nat->ai}{OO OO':Nat->aj}{J J' M M':Nat->Prop}{gs gs':Array Goroutine}{w w':World}{t u:Trace}{j m:Nat}{g g' g₂ child:Goroutine}{z v:Value}
theorem vR{gs:Array Goroutine}{g' child:Goroutine}(a:0<gs.size):(∀i,i≠0->i≠gs.size->((gs.setIfInBounds 0 g').push child)[i]?=gs[i]?)/\((gs.setIfInBounds 0 g').push child)[0]?=some g'/\((gs.setIfInBounds 0 g').push child)[gs.size]?=some child:=by grind
theorem yr{gs:Array Goroutine}(b:gs[0]?=some g)(c:stepG P true g w=.spawn g' child w #[])(sl:Option (Nat × Nat)):
 runT P (crowd gs w sl) 0=(.next (crowd ((gs.setIfInBounds 0 g').push child) w sl),rl gs.size g.frame.fn child.frame.fn g.frame.place g.frame.place):=by
 have a:=runT_crowd_spawn (P:=P) (sl:=sl) (i:=0) b (show stepG P (0==0) g w=_ from c);rw[eH]at a;exact a
theorem BL(m:Nat):(nK P A Fin m).solo=false:=by
 cases m with
 |zero=>unfold nK;grind
 |succ m=>rfl
theorem oh(e:s.ms=.add m):c9 P A s 0:=.inl ⟨rfl,by simp_all⟩
theorem vS(e:s.ms=.spawn m):c9 P A s 0:=.inl ⟨rfl,by simp_all⟩
theorem ys(a:s.c=.none)(e:s.ms=.add m):¬fa P A s 0:=by
 have:=A.hb;rintro(⟨_,h⟩|⟨l,b,d,f⟩|⟨_,h⟩)
 . simp_all
 . omega
 simp_all
theorem BM(e:s.ms=.add m):bR P A Fin s 0=nK P A Fin m:=by
 unfold bR
 simp_all
theorem Gt(hZ:A.b+A.n+1<=Z.lk)(K:bn (bL P A Fin Z hZ) Z s f q kk OO J M gs w t)(Y:s.ms=.spawn m)(hg:gs[0]?=some g){N:ai->aj->Goroutine->Prop}(ht:(Dk P A Fin m).cN (kk 0) (OO 0) g N)(sl:Option (Nat × Nat)):
 Goes P A Fin Z hZ s gs w t sl 0:=by
 have F:cI P A Z s kk OO J M gs.size w t:=K.ex;have hb:=A.hb;obtain⟨rfl,g',child,hs,L,a7⟩:=ht;have O:=F.I.ms;rw[Y]at O;obtain⟨b2,D⟩:=O;have o:gs.size=A.b+s.sp:=by have:=F.size;rw[D]at this;simpa[iG.isNone]using this
 have u:s.sp<A.n:=by omega
 have hj:A.n-(m+1)=s.sp:=by omega
 rw[hj]at L;obtain⟨Q⟩:=T.tree (P:=P) (m:=gg P A s.sp) rfl L;obtain⟨R⟩:=T.tree (BL (P:=P) (A:=A) (Fin:=Fin) m) a7;have a8:=(Array.getElem?_eq_some_iff.1 hg).1;obtain⟨_,_,_,_,_,_,d0,_⟩:=K.live _ (vS Y);have dn:Deaf t gs.size=0:=K.above _ (Nat.le_refl _);have S:=yr (sl:=sl) hg (hs w (K.cA.sat 0));have hu:jK (rl gs.size g.frame.fn child.frame.fn g.frame.place g.frame.place):=λop h=>(eT h).2.1
 have a9:∀n,Knows t 0 n->Knows (t++rl gs.size g.frame.fn child.frame.fn g.frame.place g.frame.place) gs.size n:=λn hn=>tv (t:=t) (c:=0) hu (m1:=0) (m2:=1) (x:={g:=0,fn:=g.frame.fn,pos:=g.frame.place,act:=.go gs.size}) (y:={g:=gs.size,fn:=child.frame.fn,pos:=g.frame.place,act:=.start}) rfl rfl rfl rfl d0 dn hn
 have k:s.w s.sp=.idle:=by have:=(F.I.idle s.sp u).2 (Nat.le_refl _);cases e:s.w s.sp<;>rw[e]at this<;>first|rfl|cases this
 have ab:¬bG P A s gs.size:=by
  rintro(h|⟨l,z,B⟩|⟨z,B⟩)
  . omega
  . omega
  omega
 obtain⟨fk,fO⟩:=F.Bo gs.size (by omega) ab
 obtain⟨X,hX⟩:∃X:Node P,X=⟨gg P A s.sp,kk 0,aj.bot,child,Q⟩:=⟨_,rfl⟩;obtain⟨s',d⟩:∃s',s'=s.jP s.sp (.run false X) (.add m) (s.sp+1):=⟨_,rfl⟩;have r:s'.w s.sp=.run false X:=by rw[d,er]
 have U:∀{l:Nat},l≠s.sp->s'.w l=s.w l:=λh=>by rw[d,iL h]
 have C:s'.c=s.c:=by rw[d];rfl
 have H:s'.ms=.add m:=by rw[d];rfl
 have V:s'.sp=s.sp+1:=by rw[d];rfl
 have hI:bD A.n s':=by rw[d];refine F.I.jP u (by rw[k,Y];rfl) (by rw[k];rfl) rfl (by simp_all) rfl (by rw[k];rfl) rfl (.inr ⟨rfl,rfl⟩) (λh=>by cases h) ⟨by omega,D⟩
 have W:∀l,J l->dF P A s' l:=λl hl=>by
  rcases(F.hJ l).1 hl with⟨a,z,B,h3⟩|⟨z,B⟩
  . refine .inl ⟨a,z,B,?_⟩
    by_cases e:a=s.sp
    . subst e;rw[r];rfl
    simp_all
  . exact .inr ⟨z,by simp_all⟩
 have hP:=K.cA.hand (J':=dF P A s') (M':=M) (w':=w) (src:=0) (dst:=gs.size) (by omega) (by omega) a9 (λop h=>(eT h).1) (λop h=>(eT h).2.2.1 _) rfl ⟨⟨.refl _,rfl⟩,λ_ _=>rfl⟩ (λb=>.inl rfl) (λn a ha b3 h=>h.elim (λ⟨j,z,B⟩=>.inr (.inl ⟨j,W j z,B.app _⟩)) (λ⟨p,z,B⟩=>.inr (.inr (.inl ⟨p,z,B.app _⟩))))
 rw[fk,bot_join]at hP;obtain⟨ad,al,ar⟩:=vR (g':=g') (child:=child) a8
 have av:cI P A Z s' (bF kk gs.size (kk 0)) OO (dF P A s') M ((gs.setIfInBounds 0 g').push child).size w (t++rl gs.size g.frame.fn child.frame.fn g.frame.place g.frame.place):=by
  refine F.chan hI ⟨λ_ h=>absurd (C.trans D) h,λ_=>by simp_all,λ_=>by simp_all⟩ (by rw[d];rfl) (λ_ l _=>?_) (by rw[Array.size_push,Array.size_setIfInBounds,V,C,D];simp[iG.isNone];omega) (by rw[C];exact F.yn) (λ_ _=>rfl) (by rw[d];rfl) (by rw[d];rfl) (by rw[d];rfl) (by rw[d];rfl) (λl _=>?_) (λi b n v h=>?_) (aA _ _ (by omega)) (λi=>Iff.rfl) (.inl C) (λop h=>⟨(eT h).1,(eT h).2.2.2⟩) (λi E=>?_) (λi ax hn=>?_)
  . by_cases e:l=s.sp
    . subst e;rw[r,k];exact .inr ⟨rfl,rfl⟩
    . rw[U e];exact .inl ⟨rfl,aA _ _ (by omega)⟩
  . by_cases e:l=s.sp
    . subst e;rw[r,k];rfl
    grind
  . by_cases e:i=gs.size
    . subst e;rw[az]at h;grind
    . rw[aA _ _ e]at h;grind
  . rcases E with h0|⟨l,z,B⟩|⟨z,B⟩
    . exact .inl (.inl h0)
    . rw[V]at z
      by_cases e:l=s.sp
      . simp_all
      . exact .inl (.inr (.inl ⟨l,by omega,B⟩))
    simp_all
  . have ay:¬bG P A s i:=λh=>hn (by
     rcases h with h0|⟨l,z,B⟩|⟨z,B⟩
     . exact .inl h0
     . exact .inr (.inl ⟨l,by omega,B⟩)
     simp_all)
    have G:i≠gs.size:=λe=>hn (.inr (.inl ⟨s.sp,by omega,by omega⟩))
    rw[aA _ _ G];exact F.Bo i ax ay
 have hL:MS.eU A.n s' s:=by rw[d];refine sE u ?_;rw[k,Y];have e1:(ba.run (P:=P) false X).bT=20:=rfl;have e2:(m8.add m).bT=40*m+200:=rfl;have e3:(m8.spawn m).bT=40*m+225:=rfl;omega
 have hS:fU A s s' (λi=>i=0\/i=gs.size):=⟨λl _ hl=>U (λe=>hl (.inr (by omega))),λ_=>C,λh=>absurd (.inl rfl) h,by rw[d];rfl,by rw[d];rfl⟩
 refine⟨_,_,S,s',bF (bF f 0 ⟨_,_,_,_,R⟩) gs.size X,q,bF kk gs.size (kk 0),OO,dF P A s',M,_,_,_,rfl,hL,?_⟩;refine K.Gq hu hP av (by simp) (λi=>i=0\/i=gs.size) (λi E=>ad i (λe=>E (.inl e)) (λe=>E (.inr e))) (kq hZ hS (λi E=>by rw[aA _ _ (λe=>E (.inr e)),aA _ _ (λe=>E (.inl e))]) (λ_ _=>rfl) (λi E _=>aA _ _ (λe=>E (.inr e))) (λ_ _ _=>rfl) (λl _ _ h=>W l h)) (λi E=>?_)
 rcases E with rfl|rfl
 . refine⟨g',al,λ_=>?_,λh=>absurd h (ys (C.trans D) H),λh=>absurd h (lL (by simp_all)),λh=>absurd (oh H) h⟩
   have G:(0:Nat)≠gs.size:=by omega
   rw[aA _ _ G,az,aA _ _ G];refine⟨by omega,rfl,?_,rfl,rfl,R.running,by rw[bP hu];exact d0,.inl rfl,BH⟩
   show nK P A Fin m=bR P A Fin s' 0;rw[BM H]
 . have b1:c9 P A s' gs.size:=by rw[o];exact jD u r
   refine⟨child,ar,λ_=>?_,λh=>absurd h (by rw[o];exact sx u r),λh=>absurd h (by rw[o];exact ji u r),λh=>absurd b1 h⟩
   rw[az,az,hX];refine⟨by show gs.size<A.b+A.n+1;omega,rfl,?_,rfl,fO.symm,Q.running,by rw[bP hu];exact dn,.inr (.inl ⟨s.sp,u,o,by rw[r];rfl⟩),λl h X' z B h3=>?_⟩
   . show gg P A s.sp=bR P A Fin s' gs.size
     rw[o,mF u r]
   . obtain rfl:l=s.sp:=by omega
     rw[r]at h3;cases h3;rw[hX];exact tA.refl _
theorem Gu(hZ:A.b+A.n+1<=Z.lk)(r:A.dir=false)(O:bn (bL P A Fin Z hZ) Z s f q kk OO J M gs w t)(R:s.ms=.add 0)(hg:gs[0]?=some g){N:ai->aj->Goroutine->Prop}(ht:(nK P A Fin 0).cN (kk 0) (OO 0) g N)(sl:Option (Nat × Nat)):
 Goes P A Fin Z hZ s gs w t sl 0:=by
 have u:cI P A Z s kk OO J M gs.size w t:=O.ex;have hb:=A.hb;have D:=tx r;unfold nK at ht;rw[if_neg (by simp_all)]at ht
 obtain⟨rfl,g',child,hs,a8,a9⟩:=ht;have S:=u.I.ms;rw[R]at S;obtain⟨G,B⟩:=S;have G:s.sp=A.n:=by omega
 have d:gs.size=A.b+A.n:=by have:=u.size;rw[B,G]at this;simpa[iG.isNone]using this
 obtain⟨U⟩:=T.tree (P:=P) (m:=vG P A) rfl a8;obtain⟨V⟩:=T.tree (vP (P:=P) (A:=A) (Fin:=Fin) _ _) a9;have ab:=(Array.getElem?_eq_some_iff.1 hg).1;obtain⟨_,_,_,_,_,_,d0,_⟩:=O.live _ (oh R);have dn:Deaf t gs.size=0:=O.above _ (Nat.le_refl _);have W:=yr (sl:=sl) hg (hs w (O.cA.sat 0));have hu:jK (rl gs.size g.frame.fn child.frame.fn g.frame.place g.frame.place):=λop h=>(eT h).2.1
 have ad:∀n,Knows t 0 n->Knows (t++rl gs.size g.frame.fn child.frame.fn g.frame.place g.frame.place) gs.size n:=λn hn=>tv (t:=t) (c:=0) hu (m1:=0) (m2:=1) (x:={g:=0,fn:=g.frame.fn,pos:=g.frame.place,act:=.go gs.size}) (y:={g:=gs.size,fn:=child.frame.fn,pos:=g.frame.place,act:=.start}) rfl rfl rfl rfl d0 dn hn
 have al:¬bG P A s gs.size:=by
  rintro(h|⟨l,F,z⟩|⟨F,z⟩)
  . omega
  . omega
  simp_all
 obtain⟨fk,fO⟩:=u.Bo gs.size (by omega) al
 obtain⟨s',o⟩:∃s':MS P,s'={s with ms:=.recv,c:=.dL}:=⟨_,rfl⟩
 have K:s'.w=s.w:=by rw[o]
 have C:s'.c=.dL:=by rw[o]
 have L:s'.ms=.recv:=by rw[o]
 have ar:s'.sp=s.sp:=by rw[o]
 obtain⟨v0,m0,Q⟩:=u.I.calm (by rw[B];rfl)
 have hI:bD A.n s':=by
  rw[o];refine⟨?_,u.I.g2,λh=>(by simp_all),u.I.g3,u.I.H6,λi E h=>?_,⟨u.I.g5.1,λh=>(by simp_all)⟩,λh=>(by cases h),u.I.g7,λh=>(by cases h),λk h=>(by cases h),u.I.ok,rfl,u.I.sp,u.I.idle,⟨G,by simp⟩,λ_ h=>(by cases h),u.I.mu⟩
  . have:=u.I.g1
    rw[R]at this;exact this
  . have h:s.w i=.dn .d7:=h
    have:=Q i E;rw[h]at this;cases this
 have X:∀l,J l->dF P A s' l:=λl Q=>by
  rcases(u.hJ l).1 Q with⟨a,F,z,h3⟩|⟨F,z⟩
  . exact .inl ⟨a,F,z,by simp_all⟩
  . rw[B]at z;cases z
 have hP:=O.cA.hand (J':=dF P A s') (M':=M) (w':=w) (src:=0) (dst:=gs.size) (by omega) (by omega) ad (λop h=>(eT h).1) (λop h=>(eT h).2.2.1 _) rfl ⟨⟨.refl _,rfl⟩,λ_ _=>rfl⟩ (λb=>.inl rfl) (λn a ha b5 h=>h.elim (λ⟨j,F,z⟩=>.inr (.inl ⟨j,X j F,z.app _⟩)) (λ⟨p,F,z⟩=>.inr (.inr (.inl ⟨p,F,z.app _⟩))))
 rw[fk,bot_join]at hP;obtain⟨av,ax,ay⟩:=vR (g':=g') (child:=child) ab;have Y:=u.yn;rw[B]at Y
 have b1:cI P A Z s' (bF kk gs.size (kk 0)) OO (dF P A s') M ((gs.setIfInBounds 0 g').push child).size w (t++rl gs.size g.frame.fn child.frame.fn g.frame.place g.frame.place):=by
  refine u.chan hI (zO r (by simp_all)) (by rw[o]) (λh=>by simp_all) (by rw[Array.size_push,Array.size_setIfInBounds,ar,C,d,G,r];rfl) (by rw[C];exact Y) (λ_ _=>rfl) (by rw[o]) (by rw[o]) (by rw[o]) (by rw[o]) (λl _=>by rw[K]) (λi b n v h=>?_) (aA _ _ (by omega)) (λi=>Iff.rfl) (.inr ⟨B,.inl C,λm R=>by simp_all⟩) (λop h=>⟨(eT h).1,(eT h).2.2.2⟩) (λi E=>?_) (λi b2 hn=>?_)
  . by_cases e:i=gs.size
    . subst e;rw[az]at h;grind
    . rw[aA _ _ e]at h;grind
  . rcases E with h0|⟨l,F,z⟩|⟨F,z⟩
    . exact .inl (.inl h0)
    . exact .inl (.inr (.inl ⟨l,by omega,z⟩))
    simp_all
  . have b3:¬bG P A s i:=λh=>hn (by
     rcases h with h0|⟨l,F,z⟩|⟨F,z⟩
     . exact .inl h0
     . exact .inr (.inl ⟨l,by omega,z⟩)
     simp_all)
    have H:i≠gs.size:=λe=>hn (.inr (.inr ⟨by omega,by simp_all⟩))
    rw[aA _ _ H];exact u.Bo i b2 b3
 have hL:MS.eU A.n s' s:=by
  refine .inl ?_;rw[o];show m8.recv.bT+sumTo A.n (λi=>(s.w i).bT)+iG.dL.bT s.gc<s.ms.bT+sumTo A.n (λi=>(s.w i).bT)+s.c.bT s.gc
  rw[B,R];have e2:m8.recv.bT=100:=rfl;have e3:iG.dL.bT s.gc=14:=rfl;have e4:iG.none.bT s.gc=0:=rfl;have e5:(m8.add 0).bT=200:=rfl;omega
 have a7:MS.rem P A.n s'=List.range A.n:=by unfold MS.rem;rw[K];exact List.filter_eq_self.2 λl Q=>by rw[u.I.early (u.dd.trans r) B l (List.mem_range.1 Q)];rfl
 have hS:fU A s s' (λi=>i=0\/i=gs.size):=⟨λl _ Q=>by rw[K],λh=>absurd (.inr (by omega)) h,λh=>absurd (.inl rfl) h,by rw[o],by rw[o]⟩
 refine⟨_,_,W,s',bF (bF f 0 ⟨_,_,_,_,V⟩) gs.size ⟨_,_,_,_,U⟩,q,bF kk gs.size (kk 0),OO,dF P A s',M,_,_,_,rfl,hL,?_⟩;refine O.Gq hu hP b1 (by simp) (λi=>i=0\/i=gs.size) (λi E=>av i (λe=>E (.inl e)) (λe=>E (.inr e))) (kq hZ hS (λi E=>by rw[aA _ _ (λe=>E (.inr e)),aA _ _ (λe=>E (.inl e))]) (λ_ _=>rfl) (λi E _=>aA _ _ (λe=>E (.inr e))) (λ_ _ _=>rfl) (λl _ _ h=>X l h)) (λi E=>?_)
 rcases E with rfl|rfl
 . refine⟨g',ax,λ_=>?_,λh=>absurd h (ri r (.inl L)),λh=>absurd h (lL (by simp_all)),λh=>absurd (ib L) h⟩
   have H:(0:Nat)≠gs.size:=by omega
   rw[aA _ _ H,az,aA _ _ H];refine⟨by omega,rfl,?_,rfl,rfl,V.running,by rw[bP hu];exact d0,.inl rfl,BH⟩
   show pM P A Fin _ _=bR P A Fin s' 0;rw[mG L,a7,List.length_range]
 . have b4:c9 P A s' gs.size:=by rw[d,<-D];exact sA (.inr C)
   refine⟨child,ay,λ_=>?_,λh=>absurd h (by rw[d,<-D];exact Fi r (.inr C)),λh=>absurd h (by rw[d,<-D];exact oW (zO r (by simp_all))),λh=>absurd b4 h⟩
   rw[az,az];refine⟨by show gs.size<A.b+A.n+1;omega,rfl,?_,rfl,fO.symm,U.running,by rw[bP hu];exact dn,.inr (.inr ⟨d.trans D.symm,by rw[C];rfl⟩),by rw[d,<-D];exact Oi⟩
   show vG P A=bR P A Fin s' gs.size;rw[d,<-D,Fo r C]
theorem bX.R7(h:bX Z kk OO J M w t)(b:∀i,J i->J' i):bX Z kk OO J' M w t:=⟨h.sat,h.iF,h.mz,h.zo,h.clean,h.seen,λn a c d=>(h.acc n a c d).imp_right λx=>x.imp_left λ⟨j,e,f⟩=>⟨j,b j e,f⟩,h.n0,h.vt,h.kK,h.nH,h.xw,h.mine⟩
theorem Jy(C:fG P A.ng)(X:gF P A.ng)(F:A.b+A.n+1<=Z.lk)(o:A.dir=true)(V:bn (bL P A Fin Z F) Z s f q kk OO J M gs w t)(G:s.ms=.add 0)(hg:gs[0]?=some g){N:ai->aj->Goroutine->Prop}(ht:(nK P A Fin 0).cN (kk 0) (OO 0) g N)(sl:Option (Nat × Nat)):
 Goes P A Fin Z F s gs w t sl 0:=by
 have e:cI P A Z s kk OO J M gs.size w t:=V.ex;have B:=aY (P:=P) (A:=A) (Fin:=Fin) (Z:=Z) F;have hb:=A.hb;have W:=I9 o;unfold nK at ht;rw[if_pos o]at ht;obtain⟨rfl,c0,rest,a7,hF⟩:=ht;have H:=e.I.ms;rw[G]at H;obtain⟨K,p⟩:=H;have K:s.sp=A.n:=by omega
 obtain⟨_,_,_,_,_,_,d0,_⟩:=V.live _ (oh G);obtain⟨g2,⟨n,u⟩,E⟩:=oa (P:=P) (n:=A.ng) (b:=A.gb) (kind:=.normal) (cs:=c0::rest) (Wd:=jZ A) X C;cases n with
 |zero=>exact absurd rfl (BC C u E)
 | succ n=>
   obtain⟨g1,⟨ay,a8⟩,a9⟩:=u;have x:=runT_crowd_go (P:=P) (sl:=sl) (i:=0) hg (by rw[a7];exact a8 true w (B.wd e))
   rw[eH]at x;obtain⟨s',d⟩:∃s':MS P,s'={s with ms:=.off,c:=.wt .w0}:=⟨_,rfl⟩
   have r:s'.w=s.w:=by rw[d]
   have j:s'.c=.wt .w0:=by rw[d]
   have ab:s'.ms=.off:=by rw[d]
   have L:s'.sp=s.sp:=by rw[d]
   have Y:uj P A s':=⟨λ_ _=>ab,λ_=>by simp_all,λh=>by simp_all⟩
   obtain⟨v0,m0,Q⟩:=e.I.calm (by rw[p];rfl)
   have hI:bD A.n s':=by
    rw[d];refine⟨?_,e.I.g2,λh=>(by simp_all),e.I.g3,e.I.H6,λi R h=>?_,⟨e.I.g5.1,λh=>(by simp_all)⟩,λh=>(by cases h),e.I.g7,λh=>(by cases h),λk h=>(by cases h),e.I.ok,rfl,e.I.sp,e.I.idle,⟨K,by simp⟩,λ_ h=>(by cases h),e.I.mu⟩
    . have:=e.I.g1
      rw[G]at this;exact this
    . have h:s.w i=.dn .d7:=h
      have:=Q i R;rw[h]at this;cases this
   have S:∀l,J l->dF P A s' l:=λl Q=>by
    rcases(e.hJ l).1 Q with⟨a,D,z,h3⟩|⟨D,z⟩
    . exact .inl ⟨a,D,z,by simp_all⟩
    . rw[p]at z;cases z
   have hP:bX Z kk OO (dF P A s') M w (t++#[]):=by rw[oX];exact V.cA.R7 S
   have ad:cI P A Z s' kk OO (dF P A s') M gs.size w (t++#[]):=by
    refine e.chan hI Y (by rw[d]) (λ_ l _=>.inl ⟨by rw[r],rfl⟩) (by rw[L,j,o,e.size,p];rfl) (λh=>by simp_all) (λ_ _=>rfl) (by rw[d]) (by rw[d]) (by rw[d]) (by rw[d]) (λl _=>by rw[r]) (λi b n v h=>⟨i,h⟩) rfl (λi=>Iff.rfl) (.inr ⟨p,.inr ⟨_,j⟩,λm G=>by simp_all⟩) (λop h=>by simp at h) (λi R=>.inl ?_) (λi al hn=>e.Bo i al λh=>hn ?_)
    . rcases R with h0|⟨l,D,z⟩|⟨D,_⟩
      . exact .inl h0
      . exact .inr (.inl ⟨l,by omega,z⟩)
      . exact .inl (D.trans W)
    . rcases h with h0|⟨l,D,z⟩|⟨D,_⟩
      . exact .inl h0
      . exact .inr (.inl ⟨l,by omega,z⟩)
      simp_all
   have hL:MS.eU A.n s' s:=by
    refine .inl ?_;rw[d];show m8.off.bT+sumTo A.n (λi=>(s.w i).bT)+(iG.wt .w0).bT s.gc<s.ms.bT+sumTo A.n (λi=>(s.w i).bT)+s.c.bT s.gc
    rw[p,G];have e2:m8.off.bT=0:=rfl;have e3:(iG.wt .w0).bT s.gc=13:=rfl;have e4:iG.none.bT s.gc=0:=rfl;have e5:(m8.add 0).bT=200:=rfl;omega
   have hS:dZ A s s' 0:=⟨λl _ _=>by rw[r],λh=>absurd W.symm h,λh=>absurd rfl h,L,by rw[d],.inl λ_ _=>by rw[r]⟩
   have T:¬c9 P A s' 0:=by have:=zP Y j;simp_all
   have ar:¬ep P A s' 0:=by have:=oW Y;simp_all
   have av:fa P A s' 0:=by have:=sz (P:=P) (A:=A) j;simp_all
   have U:=q8 Y j;rw[W]at U
   have ax:Beside (bL P A Fin Z F) s s' f f q (upd q 0 n) kk kk OO OO J (dF P A s') w 0 g g1:=kS F hS (λ_ _=>rfl) (λi R=>upd_ne q n R) (λ_ _ _=>rfl) (λ_ _ _=>rfl) (λi _ h=>S i h) (.inl ⟨by simp_all,by simp_all⟩) (λ{i k O y} E=>B.jS (s:=s) (i:=i) (k:=k) (O:=O) (g:=y) E)
   refine⟨_,_,x,s',f,upd q 0 n,kk,OO,dF P A s',M,_,_,_,rfl,hL,?_⟩;refine bn.step B V hg (λop h=>by simp at h) hP ad (λl y Q E=>B.qP e Q _ _ E) ax ⟨λh=>absurd h T,λ_=>⟨T,?_,?_,g2,?_,?_⟩,λh=>absurd h ar,λ_ h _=>absurd av h⟩
   . omega
   . rw[oX,d0]
     show 0=dq P A s' 0;rw[U];rfl
   . refine .inr (.inr ⟨W.symm,?_⟩)
     rw[j];exact⟨c0,rest,E,by simp_all⟩
   . exact .inr (by rw[upd_same];exact a9)
theorem Jz(C:fG P A.ng)(X:gF P A.ng)(hsl:∀(n:Nat) (k:ai) (O:aj) (g gB:Goroutine),iu P (λ_=>True) n g gB->Fin k O gB->Fin k O g)(R:A.b+A.n+1<=Z.lk)(d:A.dir=true)(G:bn (bL P A Fin Z R) Z s f q kk OO J M gs w t)(S:s.c=.wt .wa)(hg:gs[0]?=some g)(T:QA P A Fin (.wt .wa) (kk 0) (OO 0) g)(sl:Option (Nat × Nat)):
 ∃ops m',runT P (crowd gs w sl) 0=(.next m',ops)/\∃gs' w' U k' O' g',m'=crowd gs' w' U/\du P Z.W0 k' O' g' gs' w' (t++ops)/\Fin k' O' g':=by
 have D:cI P A Z s kk OO J M gs.size w t:=G.ex;have hb:=A.hb;have e0:=I9 d;obtain⟨c0,rest,hM,hT⟩:=T;rw[if_pos d]at hT;obtain⟨V,hF⟩:=hT;obtain⟨H,W,hr,⟨k,F⟩⟩:=RJ (Wd:=λ_=>True) (main:=true) (w:=w) C X hM (by decide)
 have v:=runT_crowd_go (P:=P) (sl:=sl) (i:=0) hg W;obtain⟨u,E⟩:∃u:Trace,u=MemOp.ofEvents 0 g.frame.fn g.frame.place #[⟨.mark (.acquire ⟨A.gb,0,none⟩),false,true⟩]:=⟨_,rfl⟩;have z:∀op∈u,op=⟨0,g.frame.fn,g.frame.place,.mark (.acquire ⟨A.gb,0,none⟩)⟩:=λop h=>by rw[E,ofEvents_eq]at h;simpa[MemAct.ofEvent]using h
 have Y:u[0]?=some ⟨0,g.frame.fn,g.frame.place,.mark (.acquire ⟨A.gb,0,none⟩)⟩:=by rw[E,ofEvents_eq];simp[MemAct.ofEvent]
 rw[<-E]at v;obtain⟨_,_,_,m⟩:=D.I.g8 (by rw[S];rfl)
 have a7:=(Array.getElem?_eq_some_iff.1 hg).1
 have d0:Deaf t 0=0:=by
  obtain⟨_,_,a8,_⟩:=G.walk _ (sz S);have r:(bL P A Fin Z R).deaf s A.cl=0:=by show dq P A s A.cl=0;rw[q8 D.off S];rfl
  simp_all
 have hu:jK u:=λop h=>by grind
 have hG:A.gb<w.heap.size:=by obtain⟨c,e,r⟩:=D.xC;grind
 have L:∀i o,gs[i]?=some o->i≠0->woken P g H w o=o:=λi o ho h0=>by
  have nl:¬c9 P A s i:=by
   rintro(⟨e,_⟩|⟨l,r,N,Q⟩|⟨e,_⟩)
   . exact h0 e
   . simp_all
   omega
  have nw:¬fa P A s i:=by
   rintro(⟨e,_⟩|⟨l,r,N,Q⟩|⟨e,_⟩)
   . exact h0 e
   . simp_all
   omega
  have nh:¬ep P A s i:=by
   rintro(⟨e,_⟩|⟨l,r,N,Q⟩)
   . exact h0 e
   simp_all
  exact woken_quitsD (G.rest i o ho nl nw nh).2
 obtain⟨K,x,a,r,N,Q,hS⟩:=Ft (gs':=(gs.map (woken P g H w)).setIfInBounds 0 H) (g:=H) R G m (.inr e0) hu (λop h=>by rw[z op h];rfl) (λop h=>by rw[z op h];exact hG) d0 (λi hi=>by
  rcases(D.hJ i).1 hi with⟨a,a1,a2,B⟩|⟨B,_⟩
  . rw[m a a1]at B;cases B
  omega) (λp n hp hk=>by
  obtain⟨a1,a2,B⟩:=D.hM p hp
  rcases B with⟨B,_⟩|⟨B,_⟩
  . exact lY (y:=⟨0,g.frame.fn,g.frame.place,.mark (.acquire ⟨A.gb,0,none⟩)⟩) hu Y rfl d0 B a1 (λk hk e=>by
     rcases oU e with⟨r,_⟩|⟨op,a9,r⟩
     . exact D.norel k _ (by omega) r
     grind) hk
  simp_all) (Array.getElem?_setIfInBounds_self_of_lt (by simp_all)) (λi hi=>by
  grind) (by simp) V
 exact⟨u,_,v,_,w,sl,_,_,_,rfl,hS,hsl _ _ _ _ _ F (hF K x a (r 0) (λj hj=>(r (A.b+j)).1 _ _ _ ((D.xk d j hj).2 (by rw[m j hj];rfl))) N Q)⟩
theorem JA(C:eY P A.nm)(X:eZ P A.nm)(F:lq P A.nm)(z:A.b+A.n+1<=Z.lk)(a:A.dir=true)(K:bn (bL P A Fin Z z) Z s f q kk OO J M gs w t)(d:j<A.n){Y:ui P}(r:s.w j=.un .ue Y)(hg:gs[A.b+j]?=some g)(L:Fc P A j (.un .ue Y) (kk (A.b+j)) (OO (A.b+j)) g)(sl:Option (Nat × Nat)):
 Goes P A Fin Z z s gs w t sl (A.b+j):=by
 have o:cI P A Z s kk OO J M gs.size w t:=K.ex;have B:=aY (P:=P) (A:=A) (Fin:=Fin) (Z:=Z) z;have hb:=A.hb;have Q:(A.b+j==0)=false:=by simp;omega
 obtain⟨kind,c,rest,hk,hM,hm,ad,R⟩:=L;have hN:=R (by simp)
 rw[show CR P A Y.N=T P (jY P A) fH by simp[CR,a]]at hN
 obtain⟨S,U,hr,g2,D,E⟩:=zw (Wd:=λ_=>True) (main:=false) (w:=w) C X hM
 obtain⟨k,V⟩:=D.trans (kQ F E hk);obtain⟨tr⟩:=T.tree (P:=P) (m:=jY P A) rfl hN;obtain⟨T,_⟩:=TT.pre V tr;obtain⟨x,u⟩:∃x:ba P,x=.xi:=⟨_,rfl⟩;have p:(s.aP j x s.sh).w j=.xi:=by rw[aQ,u]
 have W:EvM A.fb A.fo #[⟨.mark .enable,false,true⟩]:=λe he=>by simp_all
 have G:=runT_crowd_go (P:=P) (sl:=sl) (i:=A.b+j) hg (by rw[Q];exact U)
 have H:bG P A s (A.b+j):=gK o.I d (by rw[r];rfl)
 obtain⟨y1,y2,y3⟩:=o.Jh W H g.frame.fn g.frame.place;have v:∀op∈MemOp.ofEvents (A.b+j) g.frame.fn g.frame.place #[⟨.mark .enable,false,true⟩],op.g=A.b+j:=λop a7=>by obtain⟨e,_,rfl⟩:=Go.Conc.mem_ofEvents a7;rfl
 have hJ:J (A.b+j):=(o.hJ _).2 (uF d (by rw[r];rfl))
 have hP:=K.cA.sync (i:=A.b+j) (.inr hJ) v rfl ⟨⟨.refl _,rfl⟩,λ_ _=>rfl⟩ (λb=>.inl rfl) y2 y1
 have hI:bD A.n (s.aP j x s.sh):=o.I.uG d (by rw[r];rfl) (by rw[u];rfl) (.inr (o.dd.trans a)) (by rw[u];rfl) (by rw[u,r];rfl)
 have hL:MS.eU A.n (s.aP j x s.sh) s:=qY d (by rw[u,r];simp[ba.bT])
 have a8:=o.vJ (x:=x) (sh:=s.sh) (w':=w) d (by rw[u,r];rfl) (by rw[u,r];rfl) (λ_=>by rw[u,r];rfl) hI o.mu (λ_ _=>rfl) o.tz y3
 have hS:dZ A s (s.aP j x s.sh) (A.b+j):=vJ d (.inr ⟨λhl=>by
  obtain⟨o1,o2,o3,o4,_⟩:=o.off.2.1 a
  rcases hl with⟨_,h⟩|⟨l,_,h1,_⟩|⟨_,h⟩
  . grind
  . omega
  simp_all,(o.off.2.1 a).2.1⟩)
 have a9:Beside (bL P A Fin Z z) s (s.aP j x s.sh) f (bF f (A.b+j) ⟨jY P A,kk (A.b+j),OO (A.b+j),S,T⟩) q q kk kk OO OO J J w (A.b+j) g S:=kS z hS (λi hi=>aA _ _ hi) (λi hi=>rfl) (λ_ _ _=>rfl) (λ_ _ _=>rfl) (λ_ _ h=>h) (.inl ⟨id,id⟩) (λ{i k O y} E=>B.jS (s:=s) (i:=i) (k:=k) (O:=O) (g:=y) E)
 refine⟨_,_,G,s.aP j x s.sh,bF f (A.b+j) ⟨jY P A,kk (A.b+j),OO (A.b+j),S,T⟩,q,kk,OO,J,M,_,_,_,rfl,hL,?_⟩;refine bn.step B K hg v hP a8 (λl y hl E=>B.qP o hl _ _ E) a9 ⟨λ_=>?_,λh=>absurd h (np d (.inr p)),λh=>absurd h (sC d p),λh=>absurd (q9 d p) h⟩
 rw[az];refine⟨by show A.b+j<A.b+A.n+1;omega,rfl,?_,rfl,rfl,hr,?_,.inr hJ,Fs p⟩
 . show jY P A=bR P A Fin (s.aP j x s.sh) (A.b+j)
   rw[vO d p]
 . obtain⟨_,_,ab,_⟩:=K.walk _ (gX (P:=P) (A:=A) (s:=s) d (by rw[r];rfl))
   rw[Deaf_own,ab];show deafBehind (dq P A s (A.b+j)) _=0;rw[dS d,r];rfl
end
section
variable{P:Program}{A:bt}{Fin:ai->aj->Goroutine->Prop}{Z:Base}{s s':MS P}{f f':Nat->Node P}{q q':Nat->Nat}{kk kk':Nat->ai}{OO OO':Nat->aj}{J J' M M':Nat->Prop}{gs gs':Array Goroutine}{w w':World}{t u:Trace}{j m:Nat}{g g' g₂ child:Goroutine}{z v:Value}
theorem zS(L:A.b+A.n+1<=Z.lk)(z:bn (bL P A Fin Z L) Z s f q kk OO J M gs w t):∃(i:Nat) (g:Goroutine),gs[i]?=some g/\g.status=.running:=by
 have o:cI P A Z s kk OO J M gs.size w t:=z.ex;have B:=aY (P:=P) (A:=A) (Fin:=Fin) (Z:=Z) L;refine Classical.byContradiction λC=>?_
 have a:∀i,¬c9 P A s i:=λi k=>by
  obtain⟨_,N,_,_,_,O,_⟩:=z.live i k
  grind
 have yh:∀i,fa P A s i->Pa P A s i:=λi D=>by
  obtain⟨_,_,_,x,x',N,O,R⟩:=z.walk i D
  rcases R with⟨h,_⟩|h
  . exact h
  . exact absurd ⟨i,x,N,h.first (B.jS O).1⟩ C
 have hb:=A.hb
 obtain⟨S,T,U,V,E⟩:s.sp=A.n/\s.c≠.none/\s.c≠.gone/\(∀j,j<A.n->s.w j≠.wait)/\s.ms.pend=0:=by
  have d:=o.I.ms;cases e:s.ms with
  |parked=>rw[e]at d;exact⟨d.1,d.2.1,d.2.2.1,d.2.2.2,rfl⟩
  |add l=>exact absurd (oh e) (a 0)
  |spawn l=>exact absurd (vS e) (a 0)
  |recv=>exact absurd (ib e) (a 0)
  | bh l p=>
    rw[e]at d
    rcases yh 0 (Dt e)with⟨l,_,_,r,F,_⟩|⟨_,h,_⟩
    . omega
    simp_all
  | off=>
    rw[e]at d
    have hd:A.dir=true:=by
     cases q:A.dir with
     |true=>rfl
     |false=>exact absurd e (o.off.2.2 q)
    refine⟨d.1,d.2,(o.off.2.1 hd).2.2.2.2,λj W D=>?_,rfl⟩
    obtain⟨_,_,_,_,_,_,_,h|⟨_,_,_,_,_,_,_,_,_,_,h⟩⟩:=z.held (A.b+j) (.inr ⟨j,W,rfl,D⟩)
    . omega
    simp_all
 have Q:s.c=.wt .w4/\s.gm=0:=by
  cases e:s.c with
  |none=>simp_all
  |gone=>simp_all
  |dL=>exact absurd (sA (.inr e)) (a _)
  |iH=>exact absurd (sA (.inl e)) (a _)
  | wt p=>
    rcases yh _ (sz e)with⟨l,_,_,r,F,_⟩|⟨_,h,h'⟩
    . omega
    simp_all
 have m:∀l,l<A.n->fa P A s (A.b+l)->∃sv Y,s.w l=.lk (.fA sv) Y/\s.sh.ms=0:=λl k h=>by
  rcases yh _ h with⟨l',sv,Y,r,F,h3,h4⟩|⟨r,_⟩
  . simp_all
  . omega
 have u:∀l,l<A.n->s.w l=.gone\/∃sv Y,s.w l=.lk (.fA sv) Y/\s.sh.ms=0:=λl k=>by
  have v:=o.I.idle l k;cases e:s.w l with
  |idle=>rw[e]at v;have:=v.1 rfl;omega
  |run h X=>exact absurd (jD k e) (a _)
  |lk p Y=>have:=m l k (.inr (.inl ⟨l,k,rfl,by simp_all⟩));simp_all
  |un p Y=>have:=m l k (.inr (.inl ⟨l,k,rfl,by simp_all⟩));simp_all
  |wait=>simp_all
  |xi=>exact absurd (q9 k e) (a _)
  |dn p=>have:=m l k (lJ k e);simp_all
  |gone=>simp_all
 have y:∀l,l<A.n->s.w l=.gone:=λl k=>by
  rcases u l k with h|⟨sv,Y,h,h0⟩
  . exact h
  . have r:=o.I.mu.alive (λi G=>by
     rcases u i G with h|⟨sv,Y,h,_⟩
     . exact .inl (by rw[h];rfl)
     . exact .inr ⟨sv,by rw[h];rfl⟩) h0 l k
    rw[h]at r;cases r
 have H:s.gc=0:=by
  have r:=o.I.g1;rw[E]at r
  have F:sumTo A.n (λj=>(s.w j).cnt)=0:=by
   have:∀n,n<=A.n->sumTo n (λj=>(s.w j).cnt)=0:=λn=>by
    induction n with
    |zero=>intro _;rfl
    | succ n ih=>
      intro hn;have e1:=ih (by omega)
      simp only[sumTo,e1,y n (by omega)]
      rfl
   simp_all
  omega
 have K:s.c.waits=true:=by rw[Q.1];rfl
 by_cases hv:s.gv=1
 . obtain⟨i,G,h⟩:=o.I.g7 hv H
   simp_all
 . have:=o.I.g2
   obtain⟨i,G,h⟩:=o.I.g6 K (by omega) Q.2
   simp_all
variable(C:fG P A.ng)(X:gF P A.ng)(CM:eY P A.nm)(XM:eZ P A.nm)(F:lq P A.nm)
include C X CM XM F in
theorem Gv(r:A.b+A.n+1<=Z.lk)(sl:Option (Nat × Nat))(i:Nat){k:ai}{O:aj}{g:Goroutine}{N:ai->aj->Goroutine->Prop}(L:g.status=.running)(h:(bR P A Fin s i).cN k O g N)(c:∀k' O' g',N k' O' g'->TT P (bR P A Fin s i) k' O' g')
 (u:bn (bL P A Fin Z r) Z s f q kk OO J M gs w t) (U:c9 P A s i) (Q:f i=⟨bR P A Fin s i,k,O,g,.cN N L h c⟩):
 ∃ ops y,runT P (crowd gs w sl) i=(.next y,ops)/\
  ((∃s' f' q' kk' OO' J' M' gs' w' o,y=crowd gs' w' o/\MS.eU A.n s' s/\bn (bL P A Fin Z r) Z s' f' q' kk' OO' J' M' gs' w' (t++ops))\/
   (∃gs' w' o k' O' g',y=crowd gs' w' o/\du P Z.W0 k' O' g' gs' w' (t++ops)/\Fin k' O' g')):=by
 have R:cI P A Z s kk OO J M gs.size w t:=u.ex
 have goes:Goes P A Fin Z r s gs w t sl i->∃ops y,runT P (crowd gs w sl) i=(.next y,ops)/\
  ((∃s' f' q' kk' OO' J' M' gs' w' o,y=crowd gs' w' o/\MS.eU A.n s' s/\bn (bL P A Fin Z r) Z s' f' q' kk' OO' J' M' gs' w' (t++ops))\/
   (∃gs' w' o k' O' g',y=crowd gs' w' o/\du P Z.W0 k' O' g' gs' w' (t++ops)/\Fin k' O' g')):=λ⟨ops,y,S,T⟩=>⟨ops,y,S,.inl T⟩
 obtain⟨_,d,_,B,D,_,_,_,_⟩:=u.live i U;rw[Q]at d B D;have d:gs[i]?=some g:=d;have B:k=kk i:=B;have D:O=OO i:=D;subst B D
 rcases U with⟨rfl,E⟩|⟨j,x,rfl,H⟩|⟨rfl,G⟩
 . cases e:s.ms with
   | add l=>
     rw[BM e]at h;cases l with
     | zero=>
       by_cases hd:A.dir=true
       . exact goes (Jy C X r hd u e d h sl)
       . exact goes (Gu r (Bool.eq_false_iff.2 hd) u e d h sl)
     |succ l=>exact goes (Jr C X r u e rfl rfl d h sl)
   |bh l p=>rw[e]at E;exact E.elim
   | spawn l=>
     have m:bR P A Fin s 0=Dk P A Fin l:=by unfold bR;rw[if_pos rfl,e]
     rw[m]at h;exact goes (Gt r u e d h sl)
   |parked=>rw[e]at E;exact E.elim
   |off=>rw[e]at E;exact E.elim
   | recv=>
     have a:A.dir=false:=by
      cases q:A.dir with
      |false=>rfl
      |true=>exact absurd e (R.off.2.1 q).1
     rw[mG e]at h;obtain⟨g₂,z,V,r2,r3,r4⟩:=Js h
     by_cases K:∃j,j<A.n/\s.w j=.wait
     . obtain⟨j,x,H⟩:=K
       exact goes (Ju r a u e x H d V h sl)
     . by_cases G:s.c=.gone
       . obtain⟨ops,y,S,gs',w',o,k',O',g',T,e3⟩:=Pk r a u e G d h sl
         exact⟨ops,y,S,.inr ⟨gs',w',o,k',O',g',T,e3⟩⟩
       . exact goes (Jv r a u e (λj x H=>K ⟨j,x,H⟩) G d V r2 r3 r4 sl)
 . cases e:s.w j with
   | run b X0=>
     have m:=mF (Fin:=Fin) x e;have I:=h;rw[m]at I
     rcases I with I|I|⟨a,rfl,W,g₂,z,v,hs,hv,ht⟩
     . exact goes (Gi CM XM F r u x e (Y:=⟨bR P A Fin s (A.b+j),_,_,g,N,L,h,c⟩) Q I sl)
     . exact goes (By CM XM F r u x e (Y:=⟨bR P A Fin s (A.b+j),_,_,g,N,L,h,c⟩) Q I sl)
     . have hb:b=false:=by
        cases b with
        |false=>rfl
        |true=>exact absurd W (R.xD j x (by rw[e];rfl))
       subst hb
       by_cases E:s.ms=.parked
       . exact goes (Jt r a u x e E d hs hv ht sl)
       . exact goes (Nh r a u x e E d hs W hv ht sl)
   |xi=>have m:=vO (Fin:=Fin) x e;rw[m]at h;exact goes (Gp C X r u x e d h sl)
   |_=>rw[e]at H;exact H.elim
 . have a:A.dir=false:=by
    cases q:A.dir with
    |false=>rfl
    | true=>
      obtain⟨_,_,o3,o4,_⟩:=R.off.2.1 q;cases e:s.c with
      |dL=>exact absurd e o3
      |iH=>exact absurd e o4
      |_=>rw[e]at G;exact G.elim
   cases e:s.c with
   |dL=>rw[Fo a e]at h;exact goes (Gn C X r u e rfl rfl d h a sl)
   | iH=>
     rw[Fj a (by rw[e];simp)]at h
     exact goes (Jw r a u e d h sl)
   |_=>rw[e]at G;exact G.elim
def Ends(P:Program)(Fin:ai->aj->Goroutine->Prop)(Z:Base)(gs:Array Goroutine)(w:World)(t:Trace)(sl:Option (Nat × Nat))(i:Nat):Prop:=∃ops b,runT P (crowd gs w sl) i=(.next b,ops)/\∃gs' w' a c d g',b=crowd gs' w' a/\du P Z.W0 c d g' gs' w' (t++ops)/\Fin c d g'
variable(hsl:∀(n:Nat) (k:ai) (O:aj) (g gB:Goroutine),iu P (λ_=>True) n g gB->Fin k O gB->Fin k O g)
include C X CM XM F hsl in
theorem Gw(a:A.b+A.n+1<=Z.lk)(sl:Option (Nat × Nat))(i:Nat){g:Goroutine}(d:bn (bL P A Fin Z a) Z s f q kk OO J M gs w t)(z:fa P A s i)(k:gs[i]?=some g)(m:RO P A Fin s i (kk i) (OO i) g):
 Goes P A Fin Z a s gs w t sl i\/Dq P A s gs w sl i g\/Ends P Fin Z gs w t sl i:=by
 have D:cI P A Z s kk OO J M gs.size w t:=d.ex;have hb:=A.hb;rcases z with⟨rfl,E⟩|⟨j,o,rfl,z⟩|⟨rfl,B⟩
 . cases e:s.ms with
   | bh l p=>
     rcases m with⟨_,h⟩|⟨l,r,G,_⟩|⟨r,h⟩
     . rw[e]at h;exact .inl (BE C X a d e k h sl)
     . omega
     . have:=D.I.ms
       rw[e]at this;rw[this.2.1]at h;exact h.elim
   |_=>rw[e]at E;exact E.elim
 . rcases m with⟨r,_⟩|⟨l,r,G,h⟩|⟨r,_⟩
   . omega
   . obtain rfl:l=j:=by omega
     cases e:s.w l with
     | lk p Y=>
       rw[e]at h;by_cases u:p=.la
       . subst u;exact .inl (M4 CM XM F a d o e k h sl)
       . exact(MZ CM XM a d o e k h u sl).imp_right .inl
     | un p Y=>
       rw[e]at h;by_cases v:p=.ur
       . subst v;exact .inl (M5 CM XM a d o e k h sl)
       . by_cases x:p=.ue
         . subst x
           by_cases hd:A.dir=true
           . exact .inl (JA CM XM F a hd d o e k h sl)
           . exact .inl (M3 CM XM F a d o e k h (Bool.eq_false_iff.2 hd) sl)
         . exact .inl (M0 CM XM a d o e k h v x sl)
     |dn p=>rw[e]at h;exact .inl (Na C X a d o e k h sl)
     |_=>rw[e]at z;exact z.elim
   . omega
 . rcases m with⟨r,h⟩|⟨l,r,G,h⟩|⟨_,h⟩
   . have:s.c≠.none:=λq=>by rw[q]at B;exact B
     rw[D.off.1 (zN r) this]at h;exact h.elim
   . omega
   . cases e:s.c with
     | wt p=>
       rw[e]at h;by_cases y:p=.wa
       . subst y
         by_cases hd:A.dir=true
         . have H:=I9 hd
           rw[H]at k h ⊢;exact .inr (.inr (Jz C X hsl a hd d e k h sl))
         . exact .inl (Nd C X a d e k h (Bool.eq_false_iff.2 hd) sl)
       . exact(Nc C X a d e y k h sl).imp_right .inl
     |_=>rw[e]at B;exact B.elim
include C X CM XM F hsl in
theorem JB(d:A.b+A.n+1<=Z.lk)(a:bn (bL P A Fin Z d) Z s f q kk OO J M gs w t)(sl:Option (Nat × Nat)):
 ∃N gs' w' j r k' O' g',runNT P N (crowd gs w sl) t=(.next (crowd gs' w' j),r)/\du P Z.W0 k' O' g' gs' w' r/\Fin k' O' g':=
 IP (aY (P:=P) (A:=A) (Fin:=Fin) (Z:=Z) d) Fin (λa=>zS d a) (by intro s f q kk OO J M gs w t sl i k O g N u h c a v x;exact Gv C X CM XM F d sl i u h c a v x)
  (by
    intro s f q kk OO J M gs w t sl i g a y z l _;rcases Gw C X CM XM F hsl d sl i a y z l with⟨ops,m,o,p⟩|⟨hd,e⟩|⟨ops,m,o,p⟩
    . exact⟨ops,m,o,.inl p⟩
    . exact⟨_,_,e,.inr (.inr ⟨hd,rfl,rfl⟩)⟩
    . exact⟨ops,m,o,.inr (.inl p)⟩) s _ f _ q kk OO J M gs w sl t rfl rfl a
end
end Go.bu

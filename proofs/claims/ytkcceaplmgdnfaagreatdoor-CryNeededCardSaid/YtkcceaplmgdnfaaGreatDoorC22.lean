import Derived.Test.YtkcceaplmgdnfaaGreatDoorC21
set_option linter.all false
namespace Go.bQ
open Go.Conc
open Go.ConcN (sumTo upd sumTo_upd upd_ne upd_same)
section
variable{P:acD}{A:bJ}{Fin:abz}{Z:Base}{s s':MS P}{f f':Nat->Node P}{q q':acs}{kk kk':acy}{OO OO':acx}{J J' M M':ack}{gs gs':abH}{w w':World}{t u:Trace}{j:Nat}{g g₂:aco}{z v:Value}
theorem sT{w:World}{b i:Nat}{c:abY}{e:TypeId}{v:Value}(h:w.heap[b]?=some (.cells c e (0,0)))(a:w.cell? ⟨b,i,none⟩=some v):c[i]?=some v:=by simpa[World.cell?,h]using a
theorem De{w:World}{b:Nat}{c:abY}{e:TypeId}(h:w.heap[b]?=some (.cells c e (0,0))):w.shape? b=some (e,c.size):=by simp[World.shape?,h]
theorem Li(h:∀i,∃O,Sat (kk i) O w):∃K:ah,(∀b n v,K.cell b n=some v->∃i,(kk i).cell b n=some v)/\(∀b s,K.sh b=some s->∃i,(kk i).sh b=some s)/\∀i,(kk i).Le K:=by
 classical
 refine⟨⟨λb n=>if e:∃v,∃i,(kk i).cell b n=some v then some e.choose else none,λb=>if e:∃s,∃i,(kk i).sh b=some s then some e.choose else none⟩,λb n v a=>?_,λb s c=>?_,λi=>⟨λb n v a=>?_,λb s c=>?_⟩⟩
 . simp only at a
   split at a
   . grind
   . cases a
 . simp only at c
   split at c
   . grind
   . cases c
 . have e:∃v,∃i,(kk i).cell b n=some v:=⟨v,i,a⟩
   show dite _ _ _=_;rw[dif_pos e];obtain⟨l,d⟩:=e.choose_spec;obtain⟨_,f⟩:=h i;obtain⟨_,g⟩:=h l;have:=g.cell b n _ d;rw[f.cell b n v a]at this
   simp_all
 . have e:∃s,∃i,(kk i).sh b=some s:=⟨s,i,c⟩
   show dite _ _ _=_;rw[dif_pos e];obtain⟨l,d⟩:=e.choose_spec;obtain⟨_,f⟩:=h i;obtain⟨_,g⟩:=h l;have:=g.sh b _ d;rw[f.sh b s c]at this
   simp_all
theorem G1(hZ:A.b+A.n+1<=Z.lk)(z:bF (bY P A Fin Z hZ) Z s f q kk OO J M gs w t)(B:∀j,j<A.n->s.w j=.gone)(b6:s.c=.gone\/A.cl=0)(hu:ku u)(a8:∀op∈u,op.act.touch?=none)(R:∀op∈u,op.act.low w.heap.size)(d0:Deaf t 0=0)
 (S:∀i,J i->i=0) (a9:∀p n,M p->Before t n p->Knows (t++u) 0 n) (al:gs'[0]?=some g) (av:∀i,i≠0->gs'[i]?=gs[i]?) (b7:gs'.size=gs.size) (H:∃e,(kk 0).sh A.fb=some e):
 ∃K x a,(∀i,(kk i).Le K)/\kq K x a/\A.GI a/\dM P Z.W0 K (((OO 0).set A.mb x).set A.fb (.part (bH A.fo))) g gs' w (t++u):=by
 have G:c8 P A Z s kk OO J M gs.size w t:=z.ex;have hb:=A.hb;have C:(0:Nat)≠Z.lk:=by omega
 obtain⟨es,H⟩:=H;obtain⟨K,b8,b9,D⟩:=Li λi=>⟨_,z.cO.sat i⟩
 have E:∀n a,touchAt t n=some a->a.loc.isMemory=true -> ¬Z.Shun a.loc->Knows (t++u) 0 n:=λn a O hm hz=>by
  rcases z.cO.acc n a O hm with h|⟨j,hj,h⟩|⟨p,hp,h⟩|⟨h,_⟩
  . exact h.app u
  . rw[S j hj]at h;exact h.app u
  . grind
  simp_all
 obtain⟨x,a,hx,ax,ay⟩:=G.N3 λj hj=>by rw[B j hj];rfl
 have T:∀i,OO i A.fb=none:=λi=>by
  cases e:OO i A.fb with
  |none=>rfl
  |some y=>obtain⟨j,_,r,_,k,_⟩:=G.tok i y e;rw[B j r]at k;cases k
 have aC:cA Z (bS kk 0 K) (bS (bS OO 0 ((OO 0).set A.mb x)) Z.lk aj.bot) (λ_=>False) (λ_=>False) w (t++u):=by
  have L:∀j b y,bS (bS OO 0 ((OO 0).set A.mb x)) Z.lk aj.bot j b=some y->(j≠Z.lk/\OO j b=some y/\¬(j=0/\b=A.mb))\/(j=0/\b=A.mb/\y=x):=λj b y d=>by
   by_cases e:j=Z.lk
   . subst e;rw[ao]at d;cases d
   . rw [au _ _ e]at d
     by_cases U:j=0
     . subst U
       rw[ao]at d
       by_cases eb:b=A.mb
       . subst eb
         simp only[aj.set,if_true,kn]at d
         simp_all
       . simp only[aj.set,if_neg eb]at d
         simp_all
     . rw[au _ _ U]at d
       simp_all
  refine z.cO.tR (λa b=>a=b\/b=0) rfl ⟨⟨.refl _,rfl⟩,λ_ _=>rfl⟩ (λb=>.inl rfl) R (λi j e n y d V hz aE=>?_) (λj b n v F=>?_) (λj b s F=>?_) (λj b y d=>?_) (λi j b y aL d=>?_)
   (λsaid=>noRace_appendMute (z.cO.clean said) a8) (λop W a O=>by simp_all) (λm op a W O=>by grind) (λn a O V h=>?_)
  . rcases e with rfl|rfl
    . exact aE.app u
    . exact(od C).2 (E n y d V hz)
  . by_cases e:j=0
    . subst e
      rw[ao]at F
      simp_all
    . rw[au _ _ e]at F;simp_all
  . by_cases e:j=0
    . subst e
      rw[ao]at F
      simp_all
    . rw[au _ _ e]at F;simp_all
  . rcases L j b y d with⟨r,k,h3⟩|⟨rfl,rfl,rfl⟩
    . refine⟨j,.inl rfl,k,λs hs=>?_⟩
      by_cases e:j=0
      . subst e;rw[ao];exact(D 0).sh b s hs
      . rw[au _ _ e];exact hs
    . exact⟨Z.lk,.inr rfl,hx,λs hs=>by rw[ao];exact(D _).sh _ s hs⟩
  . cases q:bS (bS OO 0 ((OO 0).set A.mb x)) Z.lk aj.bot j b with
    |none=>rfl
    | some y'=>
      rcases L i b y d with⟨r,k,h3⟩|⟨rfl,rfl,rfl⟩
      . rcases L j b y' q with⟨k1,k2,k3⟩|⟨rfl,rfl,rfl⟩
        . have:=z.cO.jl i j b y aL k
          simp_all
        . have:=z.cO.jl i Z.lk _ y r k
          simp_all
      . rcases L j A.mb y' q with⟨k1,k2,k3⟩|⟨rfl,_,_⟩
        . have:=z.cO.jl j Z.lk _ y' k1 k2
          simp_all
        omega
  . rcases h with⟨j,r,k⟩|⟨p,r,k⟩
    . rw[S j r]at k;exact .inl (k.app u)
    . exact .inl (a9 p n r k)
 obtain⟨aO,b0⟩:=G.I.mu.rest λi hi=>by rw[B i hi];rfl
 obtain⟨X,ce,o⟩:=G.vd
 have Y:es=(ce,X.size):=by
  have:=(z.cO.sat 0).sh _ _ H;rw[De o]at this
  simp_all
 have bm:X[A.fo]?=some (.int .i32 0):=by have:=G.mu.cw;rw[aO]at this;exact sT o this
 have bw:X[A.fo+1]?=some (.int .u32 0):=by have:=G.mu.cs;rw[b0]at this;exact sT o this
 have a7:∀n v,bH A.fo n=some v->(n=A.fo\/n=A.fo+1)/\X[n]?=some v:=λn v F=>by
  unfold bH at F
  grind
 have b1:∀n,bH A.fo n≠none->(n=A.fo\/n=A.fo+1):=λn hn=>by
  cases e:bH A.fo n with
  |none=>simp_all
  |some v=>simp_all
 have N:∀i n,(n=A.fo\/n=A.fo+1)->(bS kk 0 K i).cell A.fb n=none:=λi n hn=>by
  have hk:∀l,(kk l).cell A.fb n=none:=λl=>by rcases hn with h|h<;>rw[h]<;>first|exact(G.eu l).1|exact(G.eu l).2.1
  cases e:(bS kk 0 K i).cell A.fb n with
  |none=>rfl
  | some v=>
    by_cases ei:i=0
    . subst ei
      rw[ao]at e
      grind
    . rw[au _ _ ei,hk]at e;cases e
 have b2:∀Q:Addr,Q.block=A.fb->bH A.fo Q.off≠none -> ¬Z.Shun (.cell Q):=λQ r k=>G.jQ Q ⟨r,(b1 _ k).imp id .inl⟩
 have b3:=aC.Te C (b:=A.fb) (f:=bH A.fo) (λi=>?_) (λn v F i=>N i n (a7 n v F).1) b2 ⟨X,ce,o,?_,λn v F=>(a7 n v F).2⟩ (λm a Q O hl bx hf=>?_) G.eY.2.1
 . have b4:∀i,0<i -> ¬dA P A s i/\¬gu P A s i/\¬fq P A s i:=λi hi=>by
    refine⟨?_,?_,?_⟩
    . rintro(⟨h,_⟩|⟨a,a1,a2,a3⟩|⟨h,a3⟩)
      . omega
      . grind
      grind
    . rintro(⟨h,_⟩|⟨a,a1,a2,a3⟩|⟨h,a3⟩)
      . omega
      . grind
      grind
    . rintro(⟨h,_⟩|⟨a,a1,a2,a3⟩)
      . omega
      grind
   have hS:=b3.finish (P:=P) (gs:=gs') (g:=g) (q:=q) al ⟨λi y hi d=>by
    rw[av i (by omega)]at d
    rw[cj hu];obtain⟨n1,n2,n3⟩:=b4 i hi;exact(z.rest i y d n1 n2 n3).2,λj hj=>by rw[cj hu];exact z.above j (by omega)⟩ (by rw[cj hu];exact d0)
   rw[ao,ao,au _ _ C,ao]at hS;exact⟨K,x,a,D,ax.mono (D _),ay,hS⟩
 . by_cases e:i=Z.lk
   . subst e;rw[ao];rfl
   . rw[au _ _ e]
     by_cases U:i=0
     . subst U;rw[ao];simp only[aj.set,if_neg A.d5];exact T 0
     . rw[au _ _ U];exact T i
 . rw[ao,<-Y];exact(D 0).sh _ _ H
 . have b5:touchAt t m=some a:=by
    rcases dR O with⟨r,_⟩|⟨op,W,r⟩
    . exact r
    grind
   exact E m a b5 (by rw[hl];rfl) (by grind)
theorem Q7(F:A.b+A.n+1<=Z.lk)(r:A.dir=false)(v:bF (bY P A Fin Z F) Z s f q kk OO J M gs w t)(hm:s.ms=.recv)(D:s.c=.gone)(V:gs[0]?=some g){N:abz}(W:(rf P A Fin (MS.rem P A.n s).length (MS.rem P A.n s)).de (kk 0) (OO 0) g N)(sl:abC):
 ∃ops X,runT P (crowd gs w sl) 0=(.next X,ops)/\∃gs' w' G k' O' g',X=crowd gs' w' G/\dM P Z.W0 k' O' g' gs' w' (t++ops)/\Fin k' O' g':=by
 have E:c8 P A Z s kk OO J M gs.size w t:=v.ex;obtain⟨c0,v0,m0,d⟩:=E.I.g8 (by rw[D];rfl);obtain⟨xs,tm,H⟩:=E.zT r;rw[show s.c.ez=true by rw[D];rfl]at H
 have B:MS.rem P A.n s=[]:=by
  cases hr:MS.rem P A.n s with
  |nil=>rfl
  | cons a l=>
    have:a∈MS.rem P A.n s:=by grind
    obtain⟨L,Y⟩:=sP.1 this;rw[d a L]at Y;cases Y
 rw[B]at W;obtain⟨_,g₂,z,L,_,e3,O,e4⟩:=W;have Q:=(Array.getElem?_eq_some_iff.1 V).1;obtain⟨_,_,_,_,_,_,d0,_⟩:=v.live _ (iV hm);have C:=crowd_recv_closed (P:=P) (sl:=sl) V (show stepG P (0==0) g w=_ from L w (v.cO.sat 0)) H (oy λi x _ hx=>vh F v hx (λj h1 h2 h3=>by simp_all) _);rw[fL]at C;obtain⟨u,a7⟩:∃u:Trace,u=#[{g:=0,fn:=g₂.frame.fn,pos:=g₂.frame.place,act:=.recvClosed A.cF}]:=⟨_,rfl⟩;have k:runT P (crowd gs w sl) 0=(.next (crowd (gs.setIfInBounds 0 (g₂.finishComm P #[rcase A.cF z] (.recv true) 0 z false)) w sl),u):=by simp_all
 have R:A.cF<w.heap.size:=(Array.getElem?_eq_some_iff.1 H).1;have e:∀op∈u,op={g:=0,fn:=g₂.frame.fn,pos:=g₂.frame.place,act:=.recvClosed A.cF}:=λop h=>by simp_all
 have hu:ku u:=λop h=>by simp_all
 have S:u[0]?=some {g:=0,fn:=g₂.frame.fn,pos:=g₂.frame.place,act:=.recvClosed A.cF}:=by grind
 obtain⟨K,x,a,h1,h2,h3,hS⟩:=G1 (gs':=gs.setIfInBounds 0 (g₂.finishComm P #[rcase A.cF z] (.recv true) 0 z false)) F v d (.inl D) hu (λop h=>by rw[e op h];rfl) (λop h=>by rw[e op h];exact R) d0 (λi T=>by
  rcases(E.hJ i).1 T with⟨a,U,a2,o⟩|⟨_,o⟩
  . rw[d a U]at o;cases o
  . rw[D]at o;cases o) (λp n hp hk=>by
  obtain⟨U,_,o⟩:=E.hM p hp;rcases o with⟨_,a4⟩|⟨_,a4⟩
  . simp_all
  . exact Bd (t:=t) hu (m:=0) (y:={g:=0,fn:=g₂.frame.fn,pos:=g₂.frame.place,act:=.recvClosed A.cF}) S a4 U rfl d0 hk) (zH Q) (λi T=>LK (za T)) (by simp) O
 exact⟨u,_,k,_,w,sl,_,_,_,rfl,hS,e4 _ x a (h1 0) h2 h3⟩
end
def sU(n:Nat)(f1 a:FuncId)(b c:String):Trace:=#[{g:=0,fn:=f1,pos:=b,act:=.go n},{g:=n,fn:=a,pos:=c,act:=.start}]
theorem fY{n:Nat}{f1 b:FuncId}{c d:String}{op:MemOp}(h:op∈sU n f1 b c d):op.act.touch?=none/\(op.act≠.mark .disable/\op.act≠.mark .enable)/\(∀B,op.act.low B)/\∀a,op.act≠.mark (.release a):=by
 simp only[sU,List.mem_toArray,aax,aaE,or_false]at h;rcases h with rfl|rfl<;>exact⟨rfl,⟨by simp,by simp⟩,λB=>trivial,by simp⟩
theorem bot_join(k:ah):ah.bot.join k=k:=rfl
section
variable{P:acD}{A:bJ}{Fin:abz}{Z:Base}{s s':MS P}{f f':Nat->Node P}{q q':acs}{kk kk':acy}{OO OO':acx}{J J' M M':ack}{gs gs':abH}{w w':World}{t u:Trace}{j m:Nat}{g g' g₂ child:aco}{z v:Value}
theorem xC{gs:abH}{g' child:aco}(a:0<gs.size):(∀i,i≠0->i≠gs.size->((gs.setIfInBounds 0 g').push child)[i]?=gs[i]?)/\((gs.setIfInBounds 0 g').push child)[0]?=some g'/\((gs.setIfInBounds 0 g').push child)[gs.size]?=some child:=by grind
theorem zY{gs:abH}(b:gs[0]?=some g)(c:stepG P true g w=.spawn g' child w #[])(sl:abC):
 runT P (crowd gs w sl) 0=(.next (crowd ((gs.setIfInBounds 0 g').push child) w sl),sU gs.size g.frame.fn child.frame.fn g.frame.place g.frame.place):=by
 have a:=runT_crowd_spawn (P:=P) (sl:=sl) (i:=0) b (show stepG P (0==0) g w=_ from c);rw[fL]at a;exact a
theorem Df(m:Nat):(oZ P A Fin m).solo=false:=by
 cases m with
 |zero=>unfold oZ;grind
 |succ m=>rfl
theorem pP(e:s.ms=.add m):dA P A s 0:=.inl ⟨rfl,by simp_all⟩
theorem xD(e:s.ms=.spawn m):dA P A s 0:=.inl ⟨rfl,by simp_all⟩
theorem zZ(a:s.c=.none)(e:s.ms=.add m):¬gu P A s 0:=by
 have:=A.hb;rintro(⟨_,h⟩|⟨l,b,d,f⟩|⟨_,h⟩)
 . simp_all
 . omega
 simp_all
theorem Dg(e:s.ms=.add m):ck P A Fin s 0=oZ P A Fin m:=by
 unfold ck
 simp_all
theorem Ic(hZ:A.b+A.n+1<=Z.lk)(K:bF (bY P A Fin Z hZ) Z s f q kk OO J M gs w t)(Y:s.ms=.spawn m)(hg:gs[0]?=some g){N:abz}(ht:(E0 P A Fin m).de (kk 0) (OO 0) g N)(sl:abC):
 Goes P A Fin Z hZ s gs w t sl 0:=by
 have F:c8 P A Z s kk OO J M gs.size w t:=K.ex;have hb:=A.hb;obtain⟨rfl,g',child,hs,L,a7⟩:=ht;have O:=F.I.ms;rw[Y]at O;obtain⟨aO,D⟩:=O;have o:gs.size=A.b+s.sp:=by have:=F.size;rw[D]at this;simpa[jm.isNone]using this
 have u:s.sp<A.n:=by omega
 have hj:A.n-(m+1)=s.sp:=by omega
 rw[hj]at L;obtain⟨Q⟩:=T.tree (P:=P) (m:=iu P A s.sp) rfl L;obtain⟨R⟩:=T.tree (Df (P:=P) (A:=A) (Fin:=Fin) m) a7;have a8:=(Array.getElem?_eq_some_iff.1 hg).1;obtain⟨_,_,_,_,_,_,d0,_⟩:=K.live _ (xD Y);have dn:Deaf t gs.size=0:=K.above _ (ZF _);have S:=zY (sl:=sl) hg (hs w (K.cO.sat 0));have hu:ku (sU gs.size g.frame.fn child.frame.fn g.frame.place g.frame.place):=λop h=>(fY h).2.1
 have a9:∀n,Knows t 0 n->Knows (t++sU gs.size g.frame.fn child.frame.fn g.frame.place g.frame.place) gs.size n:=λn hn=>u' (t:=t) (c:=0) hu (m1:=0) (m2:=1) (x:={g:=0,fn:=g.frame.fn,pos:=g.frame.place,act:=.go gs.size}) (y:={g:=gs.size,fn:=child.frame.fn,pos:=g.frame.place,act:=.start}) rfl rfl rfl rfl d0 dn hn
 have k:s.w s.sp=.idle:=by have:=(F.I.idle s.sp u).2 (ZF _);cases e:s.w s.sp<;>rw[e]at this<;>first|rfl|cases this
 have ad:¬bT P A s gs.size:=by
  rintro(h|⟨l,z,B⟩|⟨z,B⟩)
  . omega
  . omega
  omega
 obtain⟨fk,fO⟩:=F.CS gs.size (by omega) ad
 obtain⟨X,hX⟩:∃X:Node P,X=⟨iu P A s.sp,kk 0,aj.bot,child,Q⟩:=⟨_,rfl⟩;obtain⟨s',d⟩:∃s',s'=s.kF s.sp (.run false X) (.add m) (s.sp+1):=⟨_,rfl⟩;have r:s'.w s.sp=.run false X:=by rw[d,fy]
 have U:∀{l:Nat},l≠s.sp->s'.w l=s.w l:=λh=>by rw[d,ju h]
 have C:s'.c=s.c:=by rw[d];rfl
 have H:s'.ms=.add m:=by rw[d];rfl
 have V:s'.sp=s.sp+1:=by rw[d];rfl
 have hI:bO A.n s':=by rw[d];refine F.I.kF u (by rw[k,Y];rfl) (by rw[k];rfl) rfl (by simp_all) rfl (by rw[k];rfl) rfl (.inr ⟨rfl,rfl⟩) (λh=>by cases h) ⟨by omega,D⟩
 have W:∀l,J l->dU P A s' l:=λl hl=>by
  rcases(F.hJ l).1 hl with⟨a,z,B,h3⟩|⟨z,B⟩
  . refine .inl ⟨a,z,B,?_⟩
    by_cases e:a=s.sp
    . subst e;rw[r];rfl
    simp_all
  . exact .inr ⟨z,by simp_all⟩
 have hP:=K.cO.hand (J':=dU P A s') (M':=M) (w':=w) (src:=0) (dst:=gs.size) (by omega) (by omega) a9 (λop h=>(fY h).1) (λop h=>(fY h).2.2.1 _) rfl ⟨⟨.refl _,rfl⟩,λ_ _=>rfl⟩ (λb=>.inl rfl) (λn a ha b0 h=>h.elim (λ⟨j,z,B⟩=>.inr (.inl ⟨j,W j z,B.app _⟩)) (λ⟨p,z,B⟩=>.inr (.inr (.inl ⟨p,z,B.app _⟩))))
 rw[fk,bot_join]at hP;obtain⟨al,av,ax⟩:=xC (g':=g') (child:=child) a8
 have ay:c8 P A Z s' (bS kk gs.size (kk 0)) OO (dU P A s') M ((gs.setIfInBounds 0 g').push child).size w (t++sU gs.size g.frame.fn child.frame.fn g.frame.place g.frame.place):=by
  refine F.chan hI ⟨λ_ h=>absurd (C.trans D) h,λ_=>by simp_all,λ_=>by simp_all⟩ (by rw[d];rfl) (λ_ l _=>?_) (by rw[Array.size_push,aac,V,C,D];simp[jm.isNone];omega) (by rw[C];exact F.zT) (λ_ _=>rfl) (by rw[d];rfl) (by rw[d];rfl) (by rw[d];rfl) (by rw[d];rfl) (λl _=>?_) (λi b n v h=>?_) (au _ _ (by omega)) (λi=>ZL) (.inl C) (λop h=>⟨(fY h).1,(fY h).2.2.2⟩) (λi E=>?_) (λi aC hn=>?_)
  . by_cases e:l=s.sp
    . subst e;rw[r,k];exact .inr ⟨rfl,rfl⟩
    . rw[U e];exact .inl ⟨rfl,au _ _ (by omega)⟩
  . by_cases e:l=s.sp
    . subst e;rw[r,k];rfl
    grind
  . by_cases e:i=gs.size
    . subst e;rw[ao]at h;grind
    . rw[au _ _ e]at h;grind
  . rcases E with h0|⟨l,z,B⟩|⟨z,B⟩
    . exact .inl (.inl h0)
    . rw[V]at z
      by_cases e:l=s.sp
      . simp_all
      . exact .inl (.inr (.inl ⟨l,by omega,B⟩))
    simp_all
  . have aE:¬bT P A s i:=λh=>hn (by
     rcases h with h0|⟨l,z,B⟩|⟨z,B⟩
     . exact .inl h0
     . exact .inr (.inl ⟨l,by omega,B⟩)
     simp_all)
    have G:i≠gs.size:=λe=>hn (.inr (.inl ⟨s.sp,by omega,by omega⟩))
    rw[au _ _ G];exact F.CS i aC aE
 have hL:MS.gg A.n s' s:=by rw[d];refine uq u ?_;rw[k,Y];have e1:(bn.run (P:=P) false X).cx=20:=rfl;have e2:(om.add m).cx=40*m+200:=rfl;have e3:(om.spawn m).cx=40*m+225:=rfl;omega
 have hS:ia A s s' (λi=>i=0\/i=gs.size):=⟨λl _ hl=>U (λe=>hl (.inr (by omega))),λ_=>C,λh=>absurd (.inl rfl) h,by rw[d];rfl,by rw[d];rfl⟩
 refine⟨_,_,S,s',bS (bS f 0 ⟨_,_,_,_,R⟩) gs.size X,q,bS kk gs.size (kk 0),OO,dU P A s',M,_,_,_,rfl,hL,?_⟩;refine K.H9 hu hP ay (by simp) (λi=>i=0\/i=gs.size) (λi E=>al i (λe=>E (.inl e)) (λe=>E (.inr e))) (lf hZ hS (λi E=>by rw[au _ _ (λe=>E (.inr e)),au _ _ (λe=>E (.inl e))]) (λ_ _=>rfl) (λi E _=>au _ _ (λe=>E (.inr e))) (λ_ _ _=>rfl) (λl _ _ h=>W l h)) (λi E=>?_)
 rcases E with rfl|rfl
 . refine⟨g',av,λ_=>?_,λh=>absurd h (zZ (C.trans D) H),λh=>absurd h (mJ (by simp_all)),λh=>absurd (pP H) h⟩
   have G:(0:Nat)≠gs.size:=by omega
   rw[au _ _ G,ao,au _ _ G];refine⟨by omega,rfl,?_,rfl,rfl,R.running,by rw[cj hu];exact d0,.inl rfl,Dc⟩
   show oZ P A Fin m=ck P A Fin s' 0;rw[Dg H]
 . have aL:dA P A s' gs.size:=by rw[o];exact kg u r
   refine⟨child,ax,λ_=>?_,λh=>absurd h (by rw[o];exact uh u r),λh=>absurd h (by rw[o];exact jR u r),λh=>absurd aL h⟩
   rw[ao,ao,hX];refine⟨by show gs.size<A.b+A.n+1;omega,rfl,?_,rfl,fO.symm,Q.running,by rw[cj hu];exact dn,.inr (.inl ⟨s.sp,u,o,by rw[r];rfl⟩),λl h X' z B h3=>?_⟩
   . show iu P A s.sp=ck P A Fin s' gs.size
     rw[o,nI u r]
   . obtain rfl:l=s.sp:=by omega
     rw[r]at h3;cases h3;rw[hX];exact ve.refl _
theorem Ie(hZ:A.b+A.n+1<=Z.lk)(r:A.dir=false)(O:bF (bY P A Fin Z hZ) Z s f q kk OO J M gs w t)(R:s.ms=.add 0)(hg:gs[0]?=some g){N:abz}(ht:(oZ P A Fin 0).de (kk 0) (OO 0) g N)(sl:abC):
 Goes P A Fin Z hZ s gs w t sl 0:=by
 have u:c8 P A Z s kk OO J M gs.size w t:=O.ex;have hb:=A.hb;have D:=vb r;unfold oZ at ht;rw[if_neg (by simp_all)]at ht
 obtain⟨rfl,g',child,hs,a8,a9⟩:=ht;have S:=u.I.ms;rw[R]at S;obtain⟨G,B⟩:=S;have G:s.sp=A.n:=by omega
 have d:gs.size=A.b+A.n:=by have:=u.size;rw[B,G]at this;simpa[jm.isNone]using this
 obtain⟨U⟩:=T.tree (P:=P) (m:=xp P A) rfl a8;obtain⟨V⟩:=T.tree (xA (P:=P) (A:=A) (Fin:=Fin) _ _) a9;have ad:=(Array.getElem?_eq_some_iff.1 hg).1;obtain⟨_,_,_,_,_,_,d0,_⟩:=O.live _ (pP R);have dn:Deaf t gs.size=0:=O.above _ (ZF _);have W:=zY (sl:=sl) hg (hs w (O.cO.sat 0));have hu:ku (sU gs.size g.frame.fn child.frame.fn g.frame.place g.frame.place):=λop h=>(fY h).2.1
 have al:∀n,Knows t 0 n->Knows (t++sU gs.size g.frame.fn child.frame.fn g.frame.place g.frame.place) gs.size n:=λn hn=>u' (t:=t) (c:=0) hu (m1:=0) (m2:=1) (x:={g:=0,fn:=g.frame.fn,pos:=g.frame.place,act:=.go gs.size}) (y:={g:=gs.size,fn:=child.frame.fn,pos:=g.frame.place,act:=.start}) rfl rfl rfl rfl d0 dn hn
 have av:¬bT P A s gs.size:=by
  rintro(h|⟨l,F,z⟩|⟨F,z⟩)
  . omega
  . omega
  simp_all
 obtain⟨fk,fO⟩:=u.CS gs.size (by omega) av
 obtain⟨s',o⟩:∃s':MS P,s'={s with ms:=.recv,c:=.er}:=⟨_,rfl⟩
 have K:s'.w=s.w:=by rw[o]
 have C:s'.c=.er:=by rw[o]
 have L:s'.ms=.recv:=by rw[o]
 have ax:s'.sp=s.sp:=by rw[o]
 obtain⟨v0,m0,Q⟩:=u.I.calm (by rw[B];rfl)
 have hI:bO A.n s':=by
  rw[o];refine⟨?_,u.I.g2,λh=>(by simp_all),u.I.g3,u.I.GM,λi E h=>?_,⟨u.I.g5.1,λh=>(by simp_all)⟩,λh=>(by cases h),u.I.g7,λh=>(by cases h),λk h=>(by cases h),u.I.ok,rfl,u.I.sp,u.I.idle,⟨G,by simp⟩,λ_ h=>(by cases h),u.I.mu⟩
  . have:=u.I.g1
    rw[R]at this;exact this
  . have h:s.w i=.dn .d7:=h
    have:=Q i E;rw[h]at this;cases this
 have X:∀l,J l->dU P A s' l:=λl Q=>by
  rcases(u.hJ l).1 Q with⟨a,F,z,h3⟩|⟨F,z⟩
  . exact .inl ⟨a,F,z,by simp_all⟩
  . rw[B]at z;cases z
 have hP:=O.cO.hand (J':=dU P A s') (M':=M) (w':=w) (src:=0) (dst:=gs.size) (by omega) (by omega) al (λop h=>(fY h).1) (λop h=>(fY h).2.2.1 _) rfl ⟨⟨.refl _,rfl⟩,λ_ _=>rfl⟩ (λb=>.inl rfl) (λn a ha b2 h=>h.elim (λ⟨j,F,z⟩=>.inr (.inl ⟨j,X j F,z.app _⟩)) (λ⟨p,F,z⟩=>.inr (.inr (.inl ⟨p,F,z.app _⟩))))
 rw[fk,bot_join]at hP;obtain⟨ay,aC,aE⟩:=xC (g':=g') (child:=child) ad;have Y:=u.zT;rw[B]at Y
 have aL:c8 P A Z s' (bS kk gs.size (kk 0)) OO (dU P A s') M ((gs.setIfInBounds 0 g').push child).size w (t++sU gs.size g.frame.fn child.frame.fn g.frame.place g.frame.place):=by
  refine u.chan hI (Bz r (by simp_all)) (by rw[o]) (λh=>by simp_all) (by rw[Array.size_push,aac,ax,C,d,G,r];rfl) (by rw[C];exact Y) (λ_ _=>rfl) (by rw[o]) (by rw[o]) (by rw[o]) (by rw[o]) (λl _=>by rw[K]) (λi b n v h=>?_) (au _ _ (by omega)) (λi=>ZL) (.inr ⟨B,.inl C,λm R=>by simp_all⟩) (λop h=>⟨(fY h).1,(fY h).2.2.2⟩) (λi E=>?_) (λi aO hn=>?_)
  . by_cases e:i=gs.size
    . subst e;rw[ao]at h;grind
    . rw[au _ _ e]at h;grind
  . rcases E with h0|⟨l,F,z⟩|⟨F,z⟩
    . exact .inl (.inl h0)
    . exact .inl (.inr (.inl ⟨l,by omega,z⟩))
    simp_all
  . have b0:¬bT P A s i:=λh=>hn (by
     rcases h with h0|⟨l,F,z⟩|⟨F,z⟩
     . exact .inl h0
     . exact .inr (.inl ⟨l,by omega,z⟩)
     simp_all)
    have H:i≠gs.size:=λe=>hn (.inr (.inr ⟨by omega,by simp_all⟩))
    rw[au _ _ H];exact u.CS i aO b0
 have hL:MS.gg A.n s' s:=by
  refine .inl ?_;rw[o];show om.recv.cx+sumTo A.n (λi=>(s.w i).cx)+jm.er.cx s.gc<s.ms.cx+sumTo A.n (λi=>(s.w i).cx)+s.c.cx s.gc
  rw[B,R];have e2:om.recv.cx=100:=rfl;have e3:jm.er.cx s.gc=14:=rfl;have e4:jm.none.cx s.gc=0:=rfl;have e5:(om.add 0).cx=200:=rfl;omega
 have a7:MS.rem P A.n s'=List.range A.n:=by unfold MS.rem;rw[K];exact List.filter_eq_self.2 λl Q=>by rw[u.I.early (u.dd.trans r) B l (List.mem_range.1 Q)];rfl
 have hS:ia A s s' (λi=>i=0\/i=gs.size):=⟨λl _ Q=>by rw[K],λh=>absurd (.inr (by omega)) h,λh=>absurd (.inl rfl) h,by rw[o],by rw[o]⟩
 refine⟨_,_,W,s',bS (bS f 0 ⟨_,_,_,_,V⟩) gs.size ⟨_,_,_,_,U⟩,q,bS kk gs.size (kk 0),OO,dU P A s',M,_,_,_,rfl,hL,?_⟩;refine O.H9 hu hP aL (by simp) (λi=>i=0\/i=gs.size) (λi E=>ay i (λe=>E (.inl e)) (λe=>E (.inr e))) (lf hZ hS (λi E=>by rw[au _ _ (λe=>E (.inr e)),au _ _ (λe=>E (.inl e))]) (λ_ _=>rfl) (λi E _=>au _ _ (λe=>E (.inr e))) (λ_ _ _=>rfl) (λl _ _ h=>X l h)) (λi E=>?_)
 rcases E with rfl|rfl
 . refine⟨g',aC,λ_=>?_,λh=>absurd h (sR r (.inl L)),λh=>absurd h (mJ (by simp_all)),λh=>absurd (iV L) h⟩
   have H:(0:Nat)≠gs.size:=by omega
   rw[au _ _ H,ao,au _ _ H];refine⟨by omega,rfl,?_,rfl,rfl,V.running,by rw[cj hu];exact d0,.inl rfl,Dc⟩
   show rf P A Fin _ _=ck P A Fin s' 0;rw[nJ L,a7,aaw]
 . have b1:dA P A s' gs.size:=by rw[d,<-D];exact uj (.inr C)
   refine⟨child,aE,λ_=>?_,λh=>absurd h (by rw[d,<-D];exact GU r (.inr C)),λh=>absurd h (by rw[d,<-D];exact qy (Bz r (by simp_all))),λh=>absurd b1 h⟩
   rw[ao,ao];refine⟨by show gs.size<A.b+A.n+1;omega,rfl,?_,rfl,fO.symm,U.running,by rw[cj hu];exact dn,.inr (.inr ⟨d.trans D.symm,by rw[C];rfl⟩),by rw[d,<-D];exact Qd⟩
   show xp P A=ck P A Fin s' gs.size;rw[d,<-D,GW r C]
theorem cA.T5(h:cA Z kk OO J M w t)(b:∀i,J i->J' i):cA Z kk OO J' M w t:=⟨h.sat,h.jl,h.nE,h.Bb,h.clean,h.seen,λn a c d=>(h.acc n a c d).imp_right λx=>x.imp_left λ⟨j,e,f⟩=>⟨j,b j e,f⟩,h.n0,h.xc,h.lF,h.oW,h.yS,h.mine⟩
theorem Lj(C:gM P A.ng)(X:iD P A.ng)(F:A.b+A.n+1<=Z.lk)(o:A.dir=true)(V:bF (bY P A Fin Z F) Z s f q kk OO J M gs w t)(G:s.ms=.add 0)(hg:gs[0]?=some g){N:abz}(ht:(oZ P A Fin 0).de (kk 0) (OO 0) g N)(sl:abC):
 Goes P A Fin Z F s gs w t sl 0:=by
 have e:c8 P A Z s kk OO J M gs.size w t:=V.ex;have B:=bd (P:=P) (A:=A) (Fin:=Fin) (Z:=Z) F;have hb:=A.hb;have W:=KS o;unfold oZ at ht;rw[if_pos o]at ht;obtain⟨rfl,c0,rest,a7,hF⟩:=ht;have H:=e.I.ms;rw[G]at H;obtain⟨K,p⟩:=H;have K:s.sp=A.n:=by omega
 obtain⟨_,_,_,_,_,_,d0,_⟩:=V.live _ (pP G);obtain⟨g2,⟨n,u⟩,E⟩:=pJ (P:=P) (n:=A.ng) (b:=A.gb) (kind:=.normal) (cs:=c0::rest) (Wd:=kQ A) X C;cases n with
 |zero=>exact absurd rfl (C8 C u E)
 | succ n=>
   obtain⟨g1,⟨aE,a8⟩,a9⟩:=u;have x:=runT_crowd_go (P:=P) (sl:=sl) (i:=0) hg (by rw[a7];exact a8 true w (B.wd e))
   rw[fL]at x;obtain⟨s',d⟩:∃s':MS P,s'={s with ms:=.off,c:=.wt .w0}:=⟨_,rfl⟩
   have r:s'.w=s.w:=by rw[d]
   have j:s'.c=.wt .w0:=by rw[d]
   have ad:s'.ms=.off:=by rw[d]
   have L:s'.sp=s.sp:=by rw[d]
   have Y:vH P A s':=⟨λ_ _=>ad,λ_=>by simp_all,λh=>by simp_all⟩
   obtain⟨v0,m0,Q⟩:=e.I.calm (by rw[p];rfl)
   have hI:bO A.n s':=by
    rw[d];refine⟨?_,e.I.g2,λh=>(by simp_all),e.I.g3,e.I.GM,λi R h=>?_,⟨e.I.g5.1,λh=>(by simp_all)⟩,λh=>(by cases h),e.I.g7,λh=>(by cases h),λk h=>(by cases h),e.I.ok,rfl,e.I.sp,e.I.idle,⟨K,by simp⟩,λ_ h=>(by cases h),e.I.mu⟩
    . have:=e.I.g1
      rw[G]at this;exact this
    . have h:s.w i=.dn .d7:=h
      have:=Q i R;rw[h]at this;cases this
   have S:∀l,J l->dU P A s' l:=λl Q=>by
    rcases(e.hJ l).1 Q with⟨a,D,z,h3⟩|⟨D,z⟩
    . exact .inl ⟨a,D,z,by simp_all⟩
    . rw[p]at z;cases z
   have hP:cA Z kk OO (dU P A s') M w (t++#[]):=by rw[qz];exact V.cO.T5 S
   have al:c8 P A Z s' kk OO (dU P A s') M gs.size w (t++#[]):=by
    refine e.chan hI Y (by rw[d]) (λ_ l _=>.inl ⟨by rw[r],rfl⟩) (by rw[L,j,o,e.size,p];rfl) (λh=>by simp_all) (λ_ _=>rfl) (by rw[d]) (by rw[d]) (by rw[d]) (by rw[d]) (λl _=>by rw[r]) (λi b n v h=>⟨i,h⟩) rfl (λi=>ZL) (.inr ⟨p,.inr ⟨_,j⟩,λm G=>by simp_all⟩) (λop h=>by simp at h) (λi R=>.inl ?_) (λi av hn=>e.CS i av λh=>hn ?_)
    . rcases R with h0|⟨l,D,z⟩|⟨D,_⟩
      . exact .inl h0
      . exact .inr (.inl ⟨l,by omega,z⟩)
      . exact .inl (D.trans W)
    . rcases h with h0|⟨l,D,z⟩|⟨D,_⟩
      . exact .inl h0
      . exact .inr (.inl ⟨l,by omega,z⟩)
      simp_all
   have hL:MS.gg A.n s' s:=by
    refine .inl ?_;rw[d];show om.off.cx+sumTo A.n (λi=>(s.w i).cx)+(jm.wt .w0).cx s.gc<s.ms.cx+sumTo A.n (λi=>(s.w i).cx)+s.c.cx s.gc
    rw[p,G];have e2:om.off.cx=0:=rfl;have e3:(jm.wt .w0).cx s.gc=13:=rfl;have e4:jm.none.cx s.gc=0:=rfl;have e5:(om.add 0).cx=200:=rfl;omega
   have hS:eZ A s s' 0:=⟨λl _ _=>by rw[r],λh=>absurd W.symm h,λh=>absurd rfl h,L,by rw[d],.inl λ_ _=>by rw[r]⟩
   have T:¬dA P A s' 0:=by have:=BA Y j;simp_all
   have ax:¬fq P A s' 0:=by have:=qy Y;simp_all
   have ay:gu P A s' 0:=by have:=ui (P:=P) (A:=A) j;simp_all
   have U:=sN Y j;rw[W]at U
   have aC:Beside (bY P A Fin Z F) s s' f f q (upd q 0 n) kk kk OO OO J (dU P A s') w 0 g g1:=lN F hS (λ_ _=>rfl) (λi R=>upd_ne q n R) (λ_ _ _=>rfl) (λ_ _ _=>rfl) (λi _ h=>S i h) (.inl ⟨by simp_all,by simp_all⟩) (λ{i k O y} E=>B.kJ (s:=s) (i:=i) (k:=k) (O:=O) (g:=y) E)
   refine⟨_,_,x,s',f,upd q 0 n,kk,OO,dU P A s',M,_,_,_,rfl,hL,?_⟩;refine bF.step B V hg (λop h=>by simp at h) hP al (λl y Q E=>B.sC e Q _ _ E) aC ⟨λh=>absurd h T,λ_=>⟨T,?_,?_,g2,?_,?_⟩,λh=>absurd h ax,λ_ h _=>absurd ay h⟩
   . omega
   . rw[qz,d0]
     show 0=dL P A s' 0;rw[U];rfl
   . refine .inr (.inr ⟨W.symm,?_⟩)
     rw[j];exact⟨c0,rest,E,by simp_all⟩
   . exact .inr (by rw[upd_same];exact a9)
theorem Ll(C:gM P A.ng)(X:iD P A.ng)(hsl:∀(n:Nat) (k:ah) (O:aj) (g gB:aco),jb P (λ_=>True) n g gB->Fin k O gB->Fin k O g)(R:A.b+A.n+1<=Z.lk)(d:A.dir=true)(G:bF (bY P A Fin Z R) Z s f q kk OO J M gs w t)(S:s.c=.wt .wa)(hg:gs[0]?=some g)(T:Ss P A Fin (.wt .wa) (kk 0) (OO 0) g)(sl:abC):
 ∃ops m',runT P (crowd gs w sl) 0=(.next m',ops)/\∃gs' w' U k' O' g',m'=crowd gs' w' U/\dM P Z.W0 k' O' g' gs' w' (t++ops)/\Fin k' O' g':=by
 have D:c8 P A Z s kk OO J M gs.size w t:=G.ex;have hb:=A.hb;have e0:=KS d;obtain⟨c0,rest,hM,hT⟩:=T;rw[if_pos d]at hT;obtain⟨V,hF⟩:=hT;obtain⟨H,W,hr,⟨k,F⟩⟩:=TH (Wd:=λ_=>True) (main:=true) (w:=w) C X hM (by decide)
 have v:=runT_crowd_go (P:=P) (sl:=sl) (i:=0) hg W;obtain⟨u,E⟩:∃u:Trace,u=MemOp.ofEvents 0 g.frame.fn g.frame.place #[⟨.mark (.acquire ⟨A.gb,0,none⟩),false,true⟩]:=⟨_,rfl⟩;have z:∀op∈u,op=⟨0,g.frame.fn,g.frame.place,.mark (.acquire ⟨A.gb,0,none⟩)⟩:=λop h=>by rw[E,ofEvents_eq]at h;simpa[MemAct.ofEvent]using h
 have Y:u[0]?=some ⟨0,g.frame.fn,g.frame.place,.mark (.acquire ⟨A.gb,0,none⟩)⟩:=by rw[E,ofEvents_eq];simp[MemAct.ofEvent]
 rw[<-E]at v;obtain⟨_,_,_,m⟩:=D.I.g8 (by rw[S];rfl)
 have a7:=(Array.getElem?_eq_some_iff.1 hg).1
 have d0:Deaf t 0=0:=by
  obtain⟨_,_,a8,_⟩:=G.walk _ (ui S);have r:(bY P A Fin Z R).deaf s A.cl=0:=by show dL P A s A.cl=0;rw[sN D.off S];rfl
  simp_all
 have hu:ku u:=λop h=>by grind
 have hG:A.gb<w.heap.size:=by obtain⟨c,e,r⟩:=D.yZ;grind
 have L:∀i o,gs[i]?=some o->i≠0->woken P g H w o=o:=λi o ho h0=>by
  have nl:¬dA P A s i:=by
   rintro(⟨e,_⟩|⟨l,r,N,Q⟩|⟨e,_⟩)
   . exact h0 e
   . simp_all
   omega
  have nw:¬gu P A s i:=by
   rintro(⟨e,_⟩|⟨l,r,N,Q⟩|⟨e,_⟩)
   . exact h0 e
   . simp_all
   omega
  have nh:¬fq P A s i:=by
   rintro(⟨e,_⟩|⟨l,r,N,Q⟩)
   . exact h0 e
   simp_all
  exact woken_quitsD (G.rest i o ho nl nw nh).2
 obtain⟨K,x,a,r,N,Q,hS⟩:=G1 (gs':=(gs.map (woken P g H w)).setIfInBounds 0 H) (g:=H) R G m (.inr e0) hu (λop h=>by rw[z op h];rfl) (λop h=>by rw[z op h];exact hG) d0 (λi hi=>by
  rcases(D.hJ i).1 hi with⟨a,a1,a2,B⟩|⟨B,_⟩
  . rw[m a a1]at B;cases B
  omega) (λp n hp hk=>by
  obtain⟨a1,a2,B⟩:=D.hM p hp
  rcases B with⟨B,_⟩|⟨B,_⟩
  . exact mZ (y:=⟨0,g.frame.fn,g.frame.place,.mark (.acquire ⟨A.gb,0,none⟩)⟩) hu Y rfl d0 B a1 (λk hk e=>by
     rcases qw e with⟨r,_⟩|⟨op,a9,r⟩
     . exact D.norel k _ (by omega) r
     grind) hk
  simp_all) (zH (by simp_all)) (λi hi=>by
  grind) (by simp) V
 exact⟨u,_,v,_,w,sl,_,_,_,rfl,hS,hsl _ _ _ _ _ F (hF K x a (r 0) (λj hj=>(r (A.b+j)).1 _ _ _ ((D.yL d j hj).2 (by rw[m j hj];rfl))) N Q)⟩
theorem Lm(C:gn P A.nm)(X:gq P A.nm)(F:mc P A.nm)(v:A.b+A.n+1<=Z.lk)(a:A.dir=true)(H:bF (bY P A Fin Z v) Z s f q kk OO J M gs w t)(hj:j<A.n){Y:vG P}(p:s.w j=.un .ue Y)(hg:gs[A.b+j]?=some g)(K:GN P A j (.un .ue Y) (kk (A.b+j)) (OO (A.b+j)) g)(sl:abC):
 Goes P A Fin Z v s gs w t sl (A.b+j):=by
 have d:c8 P A Z s kk OO J M gs.size w t:=H.ex;have B:=bd (P:=P) (A:=A) (Fin:=Fin) (Z:=Z) v;have hb:=A.hb;have L:(A.b+j==0)=false:=by simp;omega
 obtain⟨kind,c,rest,hk,hM,hm,ad,Q⟩:=K;have hN:=Q (by simp)
 rw[show Eu P A Y.N=T P (kP P A) gN by simp[Eu,a]]at hN
 obtain⟨R,S,hr,g2,z,D⟩:=Bl (Wd:=λ_=>True) (main:=false) (w:=w) C X hM
 obtain⟨k,U⟩:=z.trans (lL F D hk);obtain⟨tr⟩:=T.tree (P:=P) (m:=kP P A) rfl hN;obtain⟨T,_⟩:=TT.pre U tr;obtain⟨x,r⟩:∃x:bn P,x=.yJ:=⟨_,rfl⟩;have o:(s.aT j x s.sh).w j=.yJ:=by rw[aU,r]
 have V:EvM A.fb A.fo #[⟨.mark .enable,false,true⟩]:=λe he=>by simp_all
 have E:=runT_crowd_go (P:=P) (sl:=sl) (i:=A.b+j) hg (by rw[L];exact S)
 have G:bT P A s (A.b+j):=iG d.I hj (by rw[p];rfl)
 obtain⟨y1,y2,y3⟩:=d.K0 V G g.frame.fn g.frame.place;have u:∀op∈MemOp.ofEvents (A.b+j) g.frame.fn g.frame.place #[⟨.mark .enable,false,true⟩],op.g=A.b+j:=λop W=>by obtain⟨e,_,rfl⟩:=Go.Conc.mem_ofEvents W;rfl
 have hJ:J (A.b+j):=(d.hJ _).2 (vU hj (by rw[p];rfl))
 have hP:=H.cO.sync (i:=A.b+j) (.inr hJ) u rfl ⟨⟨.refl _,rfl⟩,λ_ _=>rfl⟩ (λb=>.inl rfl) y2 y1
 have hI:bO A.n (s.aT j x s.sh):=d.I.vV hj (by rw[p];rfl) (by rw[r];rfl) (.inr (d.dd.trans a)) (by rw[r];rfl) (by rw[r,p];rfl)
 have hL:MS.gg A.n (s.aT j x s.sh) s:=sL hj (by rw[r,p];simp[bn.cx])
 have a7:=d.xu (x:=x) (sh:=s.sh) (w':=w) hj (by rw[r,p];rfl) (by rw[r,p];rfl) (λ_=>by rw[r,p];rfl) hI d.mu (λ_ _=>rfl) d.vd y3
 have hS:eZ A s (s.aT j x s.sh) (A.b+j):=xu hj (.inr ⟨λhl=>by
  obtain⟨o1,o2,o3,o4,_⟩:=d.off.2.1 a
  rcases hl with⟨_,h⟩|⟨l,_,h1,_⟩|⟨_,h⟩
  . grind
  . omega
  simp_all,(d.off.2.1 a).2.1⟩)
 have a8:Beside (bY P A Fin Z v) s (s.aT j x s.sh) f (bS f (A.b+j) ⟨kP P A,kk (A.b+j),OO (A.b+j),R,T⟩) q q kk kk OO OO J J w (A.b+j) g R:=lN v hS (λi hi=>au _ _ hi) (λi hi=>rfl) (λ_ _ _=>rfl) (λ_ _ _=>rfl) (λ_ _ h=>h) (.inl ⟨id,id⟩) (λ{i k O y} D=>B.kJ (s:=s) (i:=i) (k:=k) (O:=O) (g:=y) D)
 refine⟨_,_,E,s.aT j x s.sh,bS f (A.b+j) ⟨kP P A,kk (A.b+j),OO (A.b+j),R,T⟩,q,kk,OO,J,M,_,_,_,rfl,hL,?_⟩;refine bF.step B H hg u hP a7 (λl y hl D=>B.sC d hl _ _ D) a8 ⟨λ_=>?_,λh=>absurd h (oz hj (.inr o)),λh=>absurd h (um hj o),λh=>absurd (sO hj o) h⟩
 rw[ao];refine⟨by show A.b+j<A.b+A.n+1;omega,rfl,?_,rfl,rfl,hr,?_,.inr hJ,GZ o⟩
 . show kP P A=ck P A Fin (s.aT j x s.sh) (A.b+j)
   rw[xz hj o]
 . obtain⟨_,_,a9,_⟩:=H.walk _ (iP (P:=P) (A:=A) (s:=s) hj (by rw[p];rfl))
   rw[Deaf_own,a9];show deafBehind (dL P A s (A.b+j)) _=0;rw[eF hj,p];rfl
end
section
variable{P:acD}{A:bJ}{Fin:abz}{Z:Base}{s s':MS P}{f f':Nat->Node P}{q q':acs}{kk kk':acy}{OO OO':acx}{J J' M M':ack}{gs gs':abH}{w w':World}{t u:Trace}{j m:Nat}{g g' g₂ child:aco}{z v:Value}
theorem BC(L:A.b+A.n+1<=Z.lk)(z:bF (bY P A Fin Z L) Z s f q kk OO J M gs w t):∃(i:Nat) (g:aco),gs[i]?=some g/\g.status=.running:=by
 have o:c8 P A Z s kk OO J M gs.size w t:=z.ex;have B:=bd (P:=P) (A:=A) (Fin:=Fin) (Z:=Z) L;refine aaa λC=>?_
 have a:∀i,¬dA P A s i:=λi k=>by
  obtain⟨_,N,_,_,_,O,_⟩:=z.live i k
  grind
 have zM:∀i,gu P A s i->QZ P A s i:=λi D=>by
  obtain⟨_,_,_,x,x',N,O,R⟩:=z.walk i D
  rcases R with⟨h,_⟩|h
  . exact h
  . exact absurd ⟨i,x,N,h.first (B.kJ O).1⟩ C
 have hb:=A.hb
 obtain⟨S,T,U,V,E⟩:s.sp=A.n/\s.c≠.none/\s.c≠.gone/\(∀j,j<A.n->s.w j≠.wait)/\s.ms.pend=0:=by
  have d:=o.I.ms;cases e:s.ms with
  |parked=>rw[e]at d;exact⟨d.1,d.2.1,d.2.2.1,d.2.2.2,rfl⟩
  |add l=>exact absurd (pP e) (a 0)
  |spawn l=>exact absurd (xD e) (a 0)
  |recv=>exact absurd (iV e) (a 0)
  | bu l p=>
    rw[e]at d
    rcases zM 0 (E8 e)with⟨l,_,_,r,F,_⟩|⟨_,h,_⟩
    . omega
    simp_all
  | off=>
    rw[e]at d
    have hd:A.dir=true:=by
     cases q:A.dir with
     |true=>rfl
     |false=>exact absurd e (o.off.2.2 q)
    refine⟨d.1,d.2,(o.off.2.1 hd).2.2.2.2,λj W D=>?_,rfl⟩
    obtain⟨_,_,_,_,_,_,_,h|⟨_,_,_,_,_,_,_,_,_,_,h⟩⟩:=z.held (A.b+j) (.inr ⟨j,W,rfl,D⟩)
    . omega
    simp_all
 have Q:s.c=.wt .w4/\s.gm=0:=by
  cases e:s.c with
  |none=>simp_all
  |gone=>simp_all
  |er=>exact absurd (uj (.inr e)) (a _)
  |jo=>exact absurd (uj (.inl e)) (a _)
  | wt p=>
    rcases zM _ (ui e)with⟨l,_,_,r,F,_⟩|⟨_,h,h'⟩
    . omega
    simp_all
 have m:∀l,l<A.n->gu P A s (A.b+l)->∃sv Y,s.w l=.lk (.gE sv) Y/\s.sh.ms=0:=λl k h=>by
  rcases zM _ h with⟨l',sv,Y,r,F,h3,h4⟩|⟨r,_⟩
  . simp_all
  . omega
 have u:∀l,l<A.n->s.w l=.gone\/∃sv Y,s.w l=.lk (.gE sv) Y/\s.sh.ms=0:=λl k=>by
  have v:=o.I.idle l k;cases e:s.w l with
  |idle=>rw[e]at v;have:=v.1 rfl;omega
  |run h X=>exact absurd (kg k e) (a _)
  |lk p Y=>have:=m l k (.inr (.inl ⟨l,k,rfl,by simp_all⟩));simp_all
  |un p Y=>have:=m l k (.inr (.inl ⟨l,k,rfl,by simp_all⟩));simp_all
  |wait=>simp_all
  |yJ=>exact absurd (sO k e) (a _)
  |dn p=>have:=m l k (mH k e);simp_all
  |gone=>simp_all
 have y:∀l,l<A.n->s.w l=.gone:=λl k=>by
  rcases u l k with h|⟨sv,Y,h,h0⟩
  . exact h
  . have r:=o.I.mu.alive (λi G=>by
     rcases u i G with h|⟨sv,Y,h,_⟩
     . exact .inl (by rw[h];rfl)
     . exact .inr ⟨sv,by rw[h];rfl⟩) h0 l k
    rw[h]at r;cases r
 have H:s.gc=0:=by
  have r:=o.I.g1;rw[E]at r
  have F:sumTo A.n (λj=>(s.w j).cnt)=0:=by
   have:∀n,n<=A.n->sumTo n (λj=>(s.w j).cnt)=0:=λn=>by
    induction n with
    |zero=>intro _;rfl
    | succ n ih=>
      intro hn;have e1:=ih (by omega)
      simp only[sumTo,e1,y n (by omega)]
      rfl
   simp_all
  omega
 have K:s.c.waits=true:=by rw[Q.1];rfl
 by_cases hv:s.gv=1
 . obtain⟨i,G,h⟩:=o.I.g7 hv H
   simp_all
 . have:=o.I.g2
   obtain⟨i,G,h⟩:=o.I.g6 K (by omega) Q.2
   simp_all
variable(C:gM P A.ng)(X:iD P A.ng)(CM:gn P A.nm)(XM:gq P A.nm)(F:mc P A.nm)
include C X CM XM F in
theorem Ig(r:A.b+A.n+1<=Z.lk)(sl:abC)(i:Nat){k:ah}{O:aj}{g:aco}{N:abz}(L:g.status=.running)(h:(ck P A Fin s i).de k O g N)(c:∀k' O' g',N k' O' g'->TT P (ck P A Fin s i) k' O' g')
 (u:bF (bY P A Fin Z r) Z s f q kk OO J M gs w t) (U:dA P A s i) (Q:f i=⟨ck P A Fin s i,k,O,g,.de N L h c⟩):
 ∃ ops y,runT P (crowd gs w sl) i=(.next y,ops)/\
  ((∃s' f' q' kk' OO' J' M' gs' w' o,y=crowd gs' w' o/\MS.gg A.n s' s/\bF (bY P A Fin Z r) Z s' f' q' kk' OO' J' M' gs' w' (t++ops))\/
   (∃gs' w' o k' O' g',y=crowd gs' w' o/\dM P Z.W0 k' O' g' gs' w' (t++ops)/\Fin k' O' g')):=by
 have R:c8 P A Z s kk OO J M gs.size w t:=u.ex
 have goes:Goes P A Fin Z r s gs w t sl i->∃ops y,runT P (crowd gs w sl) i=(.next y,ops)/\
  ((∃s' f' q' kk' OO' J' M' gs' w' o,y=crowd gs' w' o/\MS.gg A.n s' s/\bF (bY P A Fin Z r) Z s' f' q' kk' OO' J' M' gs' w' (t++ops))\/
   (∃gs' w' o k' O' g',y=crowd gs' w' o/\dM P Z.W0 k' O' g' gs' w' (t++ops)/\Fin k' O' g')):=λ⟨ops,y,S,T⟩=>⟨ops,y,S,.inl T⟩
 obtain⟨_,d,_,B,D,_,_,_,_⟩:=u.live i U;rw[Q]at d B D;have d:gs[i]?=some g:=d;have B:k=kk i:=B;have D:O=OO i:=D;subst B D
 rcases U with⟨rfl,E⟩|⟨j,x,rfl,H⟩|⟨rfl,G⟩
 . cases e:s.ms with
   | add l=>
     rw[Dg e]at h;cases l with
     | zero=>
       by_cases hd:A.dir=true
       . exact goes (Lj C X r hd u e d h sl)
       . exact goes (Ie r (Bool.eq_false_iff.2 hd) u e d h sl)
     |succ l=>exact goes (La C X r u e rfl rfl d h sl)
   |bu l p=>rw[e]at E;exact E.elim
   | spawn l=>
     have m:ck P A Fin s 0=E0 P A Fin l:=by unfold ck;rw[if_pos rfl,e]
     rw[m]at h;exact goes (Ic r u e d h sl)
   |parked=>rw[e]at E;exact E.elim
   |off=>rw[e]at E;exact E.elim
   | recv=>
     have a:A.dir=false:=by
      cases q:A.dir with
      |false=>rfl
      |true=>exact absurd e (R.off.2.1 q).1
     rw[nJ e]at h;obtain⟨g₂,z,V,r2,r3,r4⟩:=Lb h
     by_cases K:∃j,j<A.n/\s.w j=.wait
     . obtain⟨j,x,H⟩:=K
       exact goes (Lf r a u e x H d V h sl)
     . by_cases G:s.c=.gone
       . obtain⟨ops,y,S,gs',w',o,k',O',g',T,e3⟩:=Q7 r a u e G d h sl
         exact⟨ops,y,S,.inr ⟨gs',w',o,k',O',g',T,e3⟩⟩
       . exact goes (Lg r a u e (λj x H=>K ⟨j,x,H⟩) G d V r2 r3 r4 sl)
 . cases e:s.w j with
   | run b X0=>
     have m:=nI (Fin:=Fin) x e;have I:=h;rw[m]at I
     rcases I with I|I|⟨a,rfl,W,g₂,z,v,hs,hv,ht⟩
     . exact goes (H2 CM XM F r u x e (Y:=⟨ck P A Fin s (A.b+j),_,_,g,N,L,h,c⟩) Q I sl)
     . exact goes (C4 CM XM F r u x e (Y:=⟨ck P A Fin s (A.b+j),_,_,g,N,L,h,c⟩) Q I sl)
     . have hb:b=false:=by
        cases b with
        |false=>rfl
        |true=>exact absurd W (R.y7 j x (by rw[e];rfl))
       subst hb
       by_cases E:s.ms=.parked
       . exact goes (Lc r a u x e E d hs hv ht sl)
       . exact goes (O4 r a u x e E d hs W hv ht sl)
   |yJ=>have m:=xz (Fin:=Fin) x e;rw[m]at h;exact goes (H8 C X r u x e d h sl)
   |_=>rw[e]at H;exact H.elim
 . have a:A.dir=false:=by
    cases q:A.dir with
    |false=>rfl
    | true=>
      obtain⟨_,_,o3,o4,_⟩:=R.off.2.1 q;cases e:s.c with
      |er=>exact absurd e o3
      |jo=>exact absurd e o4
      |_=>rw[e]at G;exact G.elim
   cases e:s.c with
   |er=>rw[GW a e]at h;exact goes (H7 C X r u e rfl rfl d h a sl)
   | jo=>
     rw[GV a (by rw[e];simp)]at h
     exact goes (Lh r a u e d h sl)
   |_=>rw[e]at G;exact G.elim
def Ends(P:acD)(Fin:abz)(Z:Base)(gs:abH)(w:World)(t:Trace)(sl:abC)(i:Nat):Prop:=∃ops b,runT P (crowd gs w sl) i=(.next b,ops)/\∃gs' w' a c d g',b=crowd gs' w' a/\dM P Z.W0 c d g' gs' w' (t++ops)/\Fin c d g'
variable(hsl:∀(n:Nat) (k:ah) (O:aj) (g gB:aco),jb P (λ_=>True) n g gB->Fin k O gB->Fin k O g)
include C X CM XM F hsl in
theorem Ih(a:A.b+A.n+1<=Z.lk)(sl:abC)(i:Nat){g:aco}(d:bF (bY P A Fin Z a) Z s f q kk OO J M gs w t)(z:gu P A s i)(k:gs[i]?=some g)(m:TL P A Fin s i (kk i) (OO i) g):
 Goes P A Fin Z a s gs w t sl i\/E5 P A s gs w sl i g\/Ends P Fin Z gs w t sl i:=by
 have D:c8 P A Z s kk OO J M gs.size w t:=d.ex;have hb:=A.hb;rcases z with⟨rfl,E⟩|⟨j,o,rfl,z⟩|⟨rfl,B⟩
 . cases e:s.ms with
   | bu l p=>
     rcases m with⟨_,h⟩|⟨l,r,G,_⟩|⟨r,h⟩
     . rw[e]at h;exact .inl (C' C X a d e k h sl)
     . omega
     . have:=D.I.ms
       rw[e]at this;rw[this.2.1]at h;exact h.elim
   |_=>rw[e]at E;exact E.elim
 . rcases m with⟨r,_⟩|⟨l,r,G,h⟩|⟨r,_⟩
   . omega
   . obtain rfl:l=j:=by omega
     cases e:s.w l with
     | lk p Y=>
       rw[e]at h;by_cases u:p=.la
       . subst u;exact .inl (OP CM XM F a d o e k h sl)
       . exact(OK CM XM a d o e k h u sl).imp_right .inl
     | un p Y=>
       rw[e]at h;by_cases v:p=.ur
       . subst v;exact .inl (OQ CM XM a d o e k h sl)
       . by_cases x:p=.ue
         . subst x
           by_cases hd:A.dir=true
           . exact .inl (Lm CM XM F a hd d o e k h sl)
           . exact .inl (OM CM XM F a d o e k h (Bool.eq_false_iff.2 hd) sl)
         . exact .inl (OL CM XM a d o e k h v x sl)
     |dn p=>rw[e]at h;exact .inl (OW C X a d o e k h sl)
     |_=>rw[e]at z;exact z.elim
   . omega
 . rcases m with⟨r,h⟩|⟨l,r,G,h⟩|⟨_,h⟩
   . have:s.c≠.none:=λq=>by rw[q]at B;exact B
     rw[D.off.1 (By r) this]at h;exact h.elim
   . omega
   . cases e:s.c with
     | wt p=>
       rw[e]at h;by_cases y:p=.wa
       . subst y
         by_cases hd:A.dir=true
         . have H:=KS hd
           rw[H]at k h ⊢;exact .inr (.inr (Ll C X hsl a hd d e k h sl))
         . exact .inl (OZ C X a d e k h (Bool.eq_false_iff.2 hd) sl)
       . exact(OY C X a d e y k h sl).imp_right .inl
     |_=>rw[e]at B;exact B.elim
include C X CM XM F hsl in
theorem Ln(d:A.b+A.n+1<=Z.lk)(a:bF (bY P A Fin Z d) Z s f q kk OO J M gs w t)(sl:abC):
 ∃N gs' w' j r k' O' g',runNT P N (crowd gs w sl) t=(.next (crowd gs' w' j),r)/\dM P Z.W0 k' O' g' gs' w' r/\Fin k' O' g':=
 Kv (bd (P:=P) (A:=A) (Fin:=Fin) (Z:=Z) d) Fin (λa=>BC d a) (by intro s f q kk OO J M gs w t sl i k O g N u h c a v x;exact Ig C X CM XM F d sl i u h c a v x)
  (by
    intro s f q kk OO J M gs w t sl i g a y z l _;rcases Ih C X CM XM F hsl d sl i a y z l with⟨ops,m,o,p⟩|⟨hd,e⟩|⟨ops,m,o,p⟩
    . exact⟨ops,m,o,.inl p⟩
    . exact⟨_,_,e,.inr (.inr ⟨hd,rfl,rfl⟩)⟩
    . exact⟨ops,m,o,.inr (.inl p)⟩) s _ f _ q kk OO J M gs w sl t rfl rfl a
end

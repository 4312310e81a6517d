import Derived.Test.YtabmephejpgigaaGreatDoorC12
set_option linter.all false
namespace Go.cr
section
open Go.Conc
open Go.ConcN (sumTo upd sumTo_upd upd_ne upd_same)
def runNT_add{P}:∀  a b   m m1   t c ,runNT P a m t=(.next m1,c)->runNT P (a+b) m t=runNT P b m1 c
 | 0,b,m,m1,t,c,h=>by
   simp only[runNT,zG,Stepped.next.injEq]at h
   simp_all
 | a + 1,b,m,m1,t,c,h=>by
   have e:a+1+b=(a+b)+1:=by omega
   rw[e];simp only[runNT]at h ⊢;cases d:stepT P m with
   | mk r ops=>
     rw[d]at h;cases r with
     |next f=>simp only at h ⊢;exact runNT_add a b f m1 _ c h
     |ended o w=>simp at h
def wT(w w':World):Prop:=w.heap=w'.heap/\lP w.os w'.os/\w'.output=w.output
def wT.refl  w :wT w w:=⟨rfl,.refl _,rfl⟩
def cq.Er{Z kk g J M w w' t}(h:cq Z kk g J M w t)(d:wT w w'):cq Z kk g J M w' t:=by
 have e:=d.1.symm;have c:∀{k O},Sat k O w->Sat k O w':=λc=>⟨c.apart,λb i v x=>by rw[(pU e _).1];exact c.cell b i v x,λb s x=>by have:=c.sh b s x;simpa[World.shape?,e]using this,λb o x=>by rw[e];exact c.obj b o x,λb n x=>by rw[e];exact c.tail b n x,λb f x=>by rw[e];exact c.part b f x⟩
 exact⟨λi=>c (h.sat i),h.jb,h.mU,λi=>by rw[e];exact h.Am i,h.clean,λop x=>by rw[e];exact h.seen op x,h.acc,h.n0,h.v3,λa x=>by rw[e];exact h.lg a x,λr x=>by rw[e];exact h.om r x,h.yj.step d.2.1 d.2.2 (by simp_all) (λb _=>by rw[e]),h.mine⟩
structure dR  P   d   k   O   g  (gs:aaJ)  w   t  (Z:Base)  q :Prop where
 lk:0≠Z.lk
 g0:gs[0]?=some g
 lv:Leavers P t gs q
 df:Deaf t 0=d
 cJ:cq Z (bP (λ_=>ao.bot) 0 k) (bP (λ_=>ai.bot) 0 O) (λ_=>False) (λ_=>False) w t
def Pf(P:abm)(k:ao)(O:ai)(g:abd)(d:Nat)(N:ao->ai->abd->aba):Prop:=∀w,Sat k O w->∃g' w' es k' O',stepG P true g w=.go g' w' es/\(∃a:World,wT a w'/\Sat k' O' a/\(Eff k O w k' O' a es.toList\/(a=w/\k'=k/\O'=O/\(es=#[⟨.mark .disable,false,true⟩]\/es=#[⟨.mark .enable,false,true⟩]))))/\N k' O' g' (deafBehind d es)
section
variable{P:abm}{k k':ao}{O O':ai}{g g':abd}{gs:aaJ}{w w':World}{t:Trace}{Z:Base}{q:abg}{d:Nat}
def dE.U8{W0}(h:dE P W0 k O g gs w t):∃Z q,Z.W0=W0/\dR P 0 k O g gs w t Z q:=by
 obtain⟨Z,_,e,_,a,b,⟨q,c⟩,hd,d,_⟩:=cq.start h 1 ⟨0,0,none⟩ (by decide);exact⟨Z,q,a,by omega,b,c,hd,d⟩
def dR.back(h:dR P 0 k O g gs w t Z q):dE P Z.W0 k O g gs w t:=by have:=h.cJ.finish (P:=P) h.g0 h.lv h.df;rw[an,an]at this;exact this
def dR.at(h:dR P d k O g gs w t Z q)  x :dR P d k O g gs (w.at x) t Z q:=⟨h.lk,h.g0,h.lv,h.df,h.cJ.at x⟩
def dR.Er(h:dR P d k O g gs w t Z q)(e:wT w w'):dR P d k O g gs w' t Z q:=⟨h.lk,h.g0,h.lv,h.df,h.cJ.Er e⟩
def dR.sat(h:dR P d k O g gs w t Z q):Sat k O w:=by have:=h.cJ.sat 0;rwa [an,an]at this
def y8{α}  f   i  (x y:α):bP (bP f i x) i y=bP f i y:=by
 funext j;by_cases e:j=i
 . subst e;rw[an,an]
 rw[ar _ _ e,ar _ _ e,ar _ _ e]
def dR.own(h:dR P d k O g gs w t Z q){es fn pos}(y:Sat k' O' w')(l:Eff k O w k' O' w' es.toList\/(w'=w/\k'=k/\O'=O/\(es=#[⟨.mark .disable,false,true⟩]\/es=#[⟨.mark .enable,false,true⟩]))):
 dR P (deafBehind d es) k' O' g' (gs.setIfInBounds 0 g') w' (t++MemOp.ofEvents 0 fn pos es) Z q:=by
 have p:=(zs.1 h.g0).1;have f:∀op∈MemOp.ofEvents 0 fn pos es,op.g=0:=λop c=>by obtain⟨e,_,rfl⟩:=zH c;rfl
 refine⟨h.lk,zU p,⟨λi x z s=>?_,λj u=>?_⟩,by rw[Deaf_own,h.df],?_⟩
 . rw[YC (by omega)]at s
   rw[Deaf_other t (by omega) _ f];exact h.lv.old i x z s
 . rw[Zp]at u
   rw[Deaf_other t (by omega) _ f];exact h.lv.above j u
 rcases l with l|⟨rfl,rfl,rfl,l⟩
 . have:=h.cJ.own (i:=0) h.lk (.inl rfl) (k':=k') (O':=O') (fn:=fn) (pos:=pos) (by rw[an,an];exact l) y
   rwa [y8,y8]at this
 have o:∀op∈MemOp.ofEvents 0 fn pos es,op.act.touch?=none/\op.act.low w'.heap.size:=λop c=>by
  obtain⟨e,r,rfl⟩:=zH c
  rcases l with rfl|rfl<;>simp at r<;>subst r<;>exact⟨rfl,trivial⟩
 exact h.cJ.sZ (λa b=>a=b) rfl ⟨⟨.refl _,rfl⟩,λ_ _=>rfl⟩ (λb=>.inl rfl) (λop c=>(o op c).2) (λa b e n x _ _ _ A=>by subst e;exact A.app _) (λj b n v h=>⟨j,rfl,h⟩) (λj b n h=>⟨j,rfl,h⟩) (λj b x h=>⟨j,rfl,h,λ_ h=>h⟩) h.cJ.jb
  (λsaid=>noRace_appendMute (h.cJ.clean said) λop c=>(o op c).1) (λop c a ha=>by simp_all) (λm op a c ha=>by grind) (λn a ha r h=>h.elim (λ⟨_,h,_⟩=>h.elim) (λ⟨_,h,_⟩=>h.elim))
def ys(c:Leavers P t gs q){a a' x w'}:(gs.map (woken P a a' w')).setIfInBounds 0 x=gs.setIfInBounds 0 x:=by
 apply aam;intro j;by_cases b:0=j
 . grind
 rw[YC b,YC b,ZE];cases d:gs[j]? with
 |none=>rfl
 |some y=>simp only[YW,kn];exact woken_quitsD (c.old j y (by omega) d)
def zc{N}(p:g.status=.running)(F:Pf P k O g d N):
 ∀  n   gs   w   sl   t   q ,sumTo gs.size q=n->dR P d k O g gs w t Z q ->
  ∃M gs' w' l Q q' k' O' g' d',runNT P M (crowd gs w sl) t=(.next (crowd gs' w' l),Q)/\dR P d' k' O' g' gs' w' Q Z q'/\N k' O' g' d':=by
 intro n
 induction n using Nat.strongRecOn with
 |ind n ih=>
 intro gs w sl t q hn o
 have T:∀x∈gs,awake x:=by
  intro x hx;obtain⟨i,D,rfl⟩:=Array.mem_iff_getElem.1 hx
  rcases Nat.eq_zero_or_pos i with rfl|r
  . have:gs[0]=g:=by simpa[YM D]using o.g0
    rw[this];exact awake_of (.inl p)
  exact awake_of ((o.lv.old i _ r (YM D)).status.elim .inl λx=>.inr (.inr x))
 obtain⟨i,x,B,l,D,hg,H⟩:=crowd_pick (P:=P) (w:=w) (sl:=sl) T ⟨0,g,o.g0,p⟩;have U:=(zs.1 D).1;have s:=o.at B
 rcases Nat.eq_zero_or_pos i with rfl|r
 . obtain rfl:x=g:=by rw[o.g0]at D;grind
   obtain⟨g',w',es,k',O',s1,⟨w2,s0,s2,s3⟩,s4⟩:=F (w.at B) s.sat;have c:=runT_crowd_go (P:=P) (sl:=l) (i:=0) D (show stepG P (0==0) x (w.at B)=_ from s1)
   rw[ys o.lv]at c;exact⟨1,_,w',l,_,q,k',O',g',_,by simp only[runNT,H,c],(s.own (fn:=x.frame.fn) (pos:=x.frame.place) s2 s3).Er s0,s4⟩
 have R:=o.lv.old i x r D;have V:(i==0)=false:=by simp;omega
 cases G:q i with
 |zero=>rw[G]at R;rw[R.1]at hg;cases hg
 | succ E=>
   rw[G]at R
   rcases R with⟨hf,_⟩|⟨_,g',es,W,I,X⟩
   . grind
   have c:=runT_crowd_go (P:=P) (sl:=l) (i:=i) D (by rw[V];exact I (w.at B))
   have ad:sumTo gs.size (upd q i E)+(E+1)=sumTo gs.size q+E:=by have:=sumTo_upd q E id U;simpa[G]using this
   have A:∀op∈MemOp.ofEvents i x.frame.fn x.frame.place es,op.g=i:=λop f=>by obtain⟨e,_,rfl⟩:=zH f;rfl
   have Y:∀op∈MemOp.ofEvents i x.frame.fn x.frame.place es,op.act.touch?=none:=λop f=>by obtain⟨e,he,rfl⟩:=zH f;exact touch_mute (W e he)
   have J:∀op∈MemOp.ofEvents i x.frame.fn x.frame.place es,op.act.low (w.at B).heap.size:=λop f=>by obtain⟨e,he,rfl⟩:=zH f;exact low_mute (W e he) _
   have hP:=s.cJ.sZ (w':=w.at B) (kk':=bP (λ_=>ao.bot) 0 k) (OO':=bP (λ_=>ai.bot) 0 O) (J':=λ_=>False) (M':=λ_=>False) (u:=MemOp.ofEvents i x.frame.fn x.frame.place es) (λa b=>a=b) rfl ⟨⟨.refl _,rfl⟩,λ_ _=>rfl⟩ (λb=>.inl rfl) J (λa b e n y _ _ _ h=>by subst e;exact h.app _) (λj b n v h=>⟨j,rfl,h⟩) (λj b n h=>⟨j,rfl,h⟩) (λj b x h=>⟨j,rfl,h,λ_ h=>h⟩) s.cJ.jb
    (λsaid=>noRace_appendMute (s.cJ.clean said) Y) (λop f a ha=>by grind) (λm op a f ha=>by grind) (λn a ha W h=>h.elim (λ⟨_,h,_⟩=>h.elim) (λ⟨_,h,_⟩=>h.elim))
   have a7:dR P d k O g ((gs.map (woken P x g' (w.at B))).setIfInBounds i g') (w.at B) (t++MemOp.ofEvents i x.frame.fn x.frame.place es) Z (upd q i E):=by
    refine⟨o.lk,?_,⟨λj y hj S=>?_,λj hj=>?_⟩,?_,hP⟩
    . rw[YC (by omega),ZE,o.g0]
      simp[woken_run p]
    . by_cases C:i=j
      . subst C
        rw[zU (by grind)]at S
        obtain rfl:=YX S;rw[upd_same,Deaf_own];exact X
      rw[YC C,ZE]at S;obtain⟨z,hz,rfl⟩:=YI.1 S;have K:=o.lv.old j z hj hz;rw[woken_quitsD K,upd_ne q E (zj C),Deaf_other t C _ A];exact K
    . rw[Deaf_other t (g':=i) (by grind) _ A]
      exact o.lv.above j (by grind)
    rw[Deaf_other t (by omega) _ A];exact o.df
   obtain⟨M,gs',a8,L,Q,q',k',O',a9,d',e1,e2,e3⟩:=ih (sumTo gs.size (upd q i E)) (by omega) _ (w.at B) l _ (upd q i E) (by simp) a7
   exact⟨M+1,gs',a8,L,Q,q',k',O',a9,d',by simp only[runNT,H,c];exact e1,e2,e3⟩
inductive iu(P:abm)(N:aaG):ao->ai->abd->aba
 |done {k:ao}{O:ai}{g:abd}:N k O g->iu P N k O g 0
 |step {k:ao}{O:ai}{g:abd}{d:Nat}(N':ao->ai->abd->aba):g.status=.running->Pf P k O g d N'->(∀k' O' g' d',N' k' O' g' d'->iu P N k' O' g' d')->iu P N k O g d
def Kf{N}(h:iu P N k O g d):∀  gs   w   sl   t   q ,dR P d k O g gs w t Z q ->
 ∃M gs' w' a j k' O' g',runNT P M (crowd gs w sl) t=(.next (crowd gs' w' a),j)/\dE P Z.W0 k' O' g' gs' w' j/\N k' O' g':=by
 induction h with
 |done h=>exact λgs w sl t q b=>⟨0,gs,w,sl,t,_,_,_,rfl,b.back,h⟩
 |step F l m _ n=>intro gs w sl t q b;obtain⟨o,c,p,e,r,s,G,H,I,J,u,v,x⟩:=zc l m _ gs w sl t q rfl b;obtain⟨M2,f,y,i,z,A,B,C,f1,D,E⟩:=n _ _ _ _ x c p e r s v;exact⟨o+M2,f,y,i,z,A,B,C,by rw[runNT_add _ _ _ _ _ _ u];exact f1,D,E⟩
def iu.phase{N}(h:iu P N k O g 0):zX P k O g N:=λW0 gs w sl t a=>by obtain⟨Z,q,rfl,b⟩:=a.U8;exact Kf h gs w sl t q b
def dE.ghost{W0}(h:dE P W0 k O g gs w t){k' O'}(b:km k O k' O'):dE P W0 k' O' g gs w t:=by
 obtain⟨Z,q,rfl,a⟩:=h.U8;obtain⟨c,d⟩:=b w a.sat;have:=a.own (g':=g) (es:=#[]) (fn:=0) (pos:=  "") c (.inl d)
 have e:t++MemOp.ofEvents 0 0  "" #[]=t:=by rw[ofEvents_eq];simp
 have f:gs.setIfInBounds 0 g=gs:=by
  apply aam;intro j;by_cases i:0=j
  . subst i
    rw[zU (zs.1 a.g0).1,a.g0]
  simp_all
 rw[e,f]at this;exact this.back
def Kg{m}(H:m.main=true)(I:∀k O g N,¬m.cY k O g N){Q}(h:T P m Q k O g):
 ∀  W0   gs   w   sl   t ,dE P W0 k O g gs w t ->
  ∃M gs' w' n E k' O' g',runNT P M (crowd gs w sl) t=(.next (crowd gs' w' n),E)/\dE P W0 k' O' g' gs' w' E/\Q k' O' g':=by
 induction h with
 |stop h=>exact λW0 gs w sl t a=>⟨0,gs,w,sl,t,_,_,_,rfl,a,h⟩
 | step N i _ l j=>
   intro W0 gs w sl t a;rw[H]at l;obtain⟨Z,q,rfl,J⟩:=a.U8
   obtain⟨o,b,p,c,r,q1,K,L,R,d1,s,u,rfl,v⟩:=zc (N:=λk' O' g' S=>S=0/\N k' O' g') i (λw U=>by
    obtain⟨g',w',es,k',O',V,F,W,X⟩:=l w U;refine⟨g',w',es,k',O',V,⟨w',.refl _,W,.inl F⟩,?_,X⟩;have G:=bX (t:=#[]) (v8 (λe Y=>F.evs e Y) 0 0  "") 0
    rw[Deaf_own]at G;exact G) _ gs w sl t q rfl J
   obtain⟨M2,d,x,f,y,z,A,B,f1,C,D⟩:=j _ _ _ v _ b p c r u.back;exact⟨o+M2,d,x,f,y,z,A,B,by rw[runNT_add _ _ _ _ _ _ s];exact f1,C,D⟩
 |ghost i _ j=>exact λW0 gs w sl t a=>j W0 gs w sl t (a.ghost i)
 |phase N i _ l j=>intro W0 gs w sl t a;obtain⟨o,b,p,c,r,K,L,R,s,u,v⟩:=l W0 gs w sl t a;obtain⟨M2,d,x,f,y,z,A,B,f1,C,D⟩:=j _ _ _ v W0 b p c r u;exact⟨o+M2,d,x,f,y,z,A,B,by rw[runNT_add _ _ _ _ _ _ s];exact f1,C,D⟩
 |cY N h0 i _ _=>simp_all
end
def iL(fo:Nat)(s:Mu.Sh):Nat->aaR:=λi=>if i=fo then some (.int .i32 (enc s.w.L s.w.K s.w.S s.w.N))else if i=fo+1 then some (.int .u32 s.ms)else none
def fM:Mu.Sh:=⟨.zero,0⟩
def dM:Mu.Sh:=⟨{Mu.Wd.zero with L:=true},0⟩
def wU  fo :iL fo fM=bD fo:=by
 funext i;simp[iL,bD,fM,enc,Mu.Wd.zero]
def wV(fo:Nat):Nat->aaR:=iL fo dM
section
variable{P:abm}{k:ao}{O:ai}{b o:Nat}{w w':World}{s s':Mu.Sh}
def NV(f:Sat k O w)(g:O b=some (.part (iL o s))):ShM b o w s:=by
 obtain⟨c,e,a,h,d⟩:=f.part _ _ g;refine⟨?_,?_,λi=>?_⟩
 . exact mh a (d o _ (by simp[iL]))
 . exact mh a (d (o+1) _ (by simp[iL]))
 exact kG a
def heap_set{w:World}{b i v c e z}(h:w.heap[b]?=some (.cells c e z)):(w.setCell ⟨b,i,none⟩ v).heap[b]?=some (.cells (c.setIfInBounds i v) e z):=by have a:=(zs.1 h).1;simp[World.setCell,Zi,h]
def uF{w:World}{b i d v}(h:d≠b):(w.setCell ⟨b,i,none⟩ v).heap[d]?=w.heap[d]?:=by simp[World.setCell,Zi,zj h]
def P8{es}(u:Sat k O w)(M:O b=some (.part (iL o s)))(G:MW b o w w')(H:ShM b o w' s')(I:EvM b o es)(a7:∀e∈es,∀m,e.loc≠.mark m):
 ∃R ,wT R w'/\Sat k (O.set b (.part (iL o s'))) R/\Eff k O w k (O.set b (.part (iL o s'))) R es.toList:=by
 obtain⟨c,e,D,h2,h3⟩:=u.part _ _ M;have a8:=(zs.1 D).1
 have key:∃x,w'.heap[b]?=some (.cells x e (0,0))/\x.size=c.size/\(∀i,i≠o->i≠o+1->x[i]?=c[i]?)/\(∀d,d≠b->w'.heap[d]?=w.heap[d]?)/\w'.heap.size=w.heap.size:=by
  rcases G.2 with T|⟨i,v,p,P,T⟩
  . simp_all
  refine⟨c.setIfInBounds i v,by rw[T];exact heap_set D,by simp,λj hj a9=>?_,λd hd=>by rw[T];exact uF hd,by simp_all⟩
  grind
 obtain⟨x,B,U,k3,E,k5⟩:=key;have ad:x[o]?=some (.int .i32 (enc s'.w.L s'.w.K s'.w.S s'.w.N)):=by have:=H.cw;simpa[World.cell?,B]using this
 have al:x[o+1]?=some (.int .u32 s'.ms):=by have:=H.cs;simpa[World.cell?,B]using this
 have A:∀i,(i=o\/i=o+1)->aR O b i:=λi p=>.inr (.inr ⟨_,M,by rcases p with rfl|rfl<;>simp[iL]⟩)
 have l:∀d y,(O.set b (.part (iL o s'))) d=some y->(d=b/\y=.part (iL o s'))\/(d≠b/\O d=some y):=λd y h=>by
  by_cases hd:d=b
  . subst hd;simp[ai.set]at h;simp_all
  simp[ai.set,hd]at h;simp_all
 have r:∀i v,k.cell b i=some v->i≠o/\i≠o+1:=λi v t=>⟨λe=>u.apart _ _ _ t (A i (.inl e)),λe=>u.apart _ _ _ t (A i (.inr e))⟩
 refine⟨{w with heap:=w'.heap},⟨rfl,G.1⟩,⟨λd i v t X=>?_,λd i v t=>?_,λd z hz=>?_,λd y C=>?_,λd n C=>?_,λd f C=>?_⟩,⟨.refl k,?_,λd hd Q=>?_,λd n hd Q c2 e2 V=>?_,λd f hd Q c2 e2 V=>?_,λd hd=>?_,λd y C=>?_,λd i v t=>.inl t,λd z hz=>.inl hz,λW J=>?_,rfl,rfl,rfl,λW J=>?_,λd f P=>?_⟩⟩
 . by_cases hd:d=b
   . subst hd
     obtain⟨Y,Z⟩:=r i v t;rcases X with⟨_,q⟩|⟨_,q,_⟩|⟨f,q,P⟩
     . grind
     . grind
     simp[ai.set]at q;subst q;simp[iL,Y,Z]at P
   exact u.apart d i v t (by simpa[aR,ai.set,hd]using X)
 . have F:=u.cell d i v t
   by_cases hd:d=b
   . subst hd
     obtain⟨Y,Z⟩:=r i v t;simp only[World.cell?,D,B]at F ⊢
     simp_all
   simpa[World.cell?,E d hd]using F
 . have F:=u.sh d z hz
   by_cases hd:d=b
   . subst hd
     simp only[World.shape?,D,B,U]at F ⊢;exact F
   simpa[World.shape?,E d hd]using F
 . rcases l d _ C with⟨_,q⟩|⟨hd,g⟩
   . cases q
   rw[show({w with heap:=w'.heap}:World).heap[d]?=w.heap[d]? from E d hd];exact u.obj d y g
 . rcases l d _ C with⟨_,q⟩|⟨hd,g⟩
   . cases q
   rw[show({w with heap:=w'.heap}:World).heap[d]?=w.heap[d]? from E d hd];exact u.tail d n g
 . rcases l d _ C with⟨rfl,q⟩|⟨hd,g⟩
   . cases q
     refine⟨x,e,B,by simp_all,λi v p=>?_⟩;unfold iL at p
     grind
   rw[show({w with heap:=w'.heap}:World).heap[d]?=w.heap[d]? from E d hd];exact u.part d f g
 . simp_all
 . grind
 . grind
 . by_cases a:d=b
   . subst a
     rw[M]at Q;cases Q;rw[D]at V;cases V;exact⟨x,B,U,λi p=>k3 i (λq=>by subst q;simp[iL]at p) (λq=>by subst q;simp[iL]at p)⟩
   grind
 . by_cases a:d=b
   . subst a
     simp only[World.shape?,D,B,U]
   simp[World.shape?,E d a]
 . rcases l d _ C with⟨rfl,rfl⟩|⟨a,g⟩
   . refine .inl ⟨_,M,λi p=>?_⟩
     unfold iL at p ⊢
     grind
   exact .inl ⟨y,g,.refl y⟩
 . rcases I W (by simp_all)with q|⟨i,p,q,_⟩
   . simp_all
   simp only[iO,q];grind
 . rcases I W (by simp_all)with q|⟨i,p,q,_⟩
   . simp_all
   simp only[iI,q];omega
 by_cases a:d=b
 . subst a;exact⟨iL o s',by simp[ai.set]⟩
 exact⟨f,by simp[ai.set,a,P]⟩
def ai.set_set(O:ai)  b   x y :(O.set b x).set b y=O.set b y:=by funext d;by_cases h:d=b<;>simp[ai.set,h]
def ai.aj(O:ai)  b   x :(O.set b x) b=some x:=by simp[ai.set]
def ai.AR{O:ai}{b x}(h:O b=some x):O.set b x=O:=by
 funext d;by_cases e:d=b
 . subst e;simp[ai.set,h]
 simp[ai.set,e]
structure Lk  k   b o  (f:Mu.Sh->ai):Prop where
 sat:∀{s w},Sat k (f s) w->ShM b o w s
 Ue:∀{s s' w w' es},Sat k (f s) w->MW b o w w'->ShM b o w' s'->EvM b o es->(∀e∈es,∀m,e.loc≠.mark m)->∃w2 ,wT w2 w'/\Sat k (f s') w2/\Eff k (f s) w k (f s') w2 es.toList
 has:∀s,∃x,f s b=some x
def Lk.part(O:ai):Lk k b o λs=>O.set b (.part (iL o s)) where
 sat h:=NV h (ai.aj O b _)
 Ue a c d e f:=by
  have:=P8 a (ai.aj O b _) c d e f
  rwa [ai.set_set]at this
 has s:=⟨_,ai.aj O b _⟩
def lD(c:aaS)(o:Nat)(s:Mu.Sh):aaS:=(c.setIfInBounds o (.int .i32 (enc s.w.L s.w.K s.w.S s.w.N))).setIfInBounds (o+1) (.int .u32 s.ms)
def kR{c i}(a:i≠o)(b:i≠o+1):(lD c o s)[i]?=c[i]?:=by
 unfold lD
 grind
def sz{c}(h:o+1<c.size):(lD c o s)[o]?=some (.int .i32 (enc s.w.L s.w.K s.w.S s.w.N)):=by
 unfold lD
 grind
def sA{c}(h:o+1<c.size):(lD c o s)[o+1]?=some (.int .u32 s.ms):=by
 unfold lD
 simp_all
def lE{c}:(lD c o s).size=c.size:=by simp[lD]
def Lk.obj(O:ai){c e}(hc:o+1<c.size):Lk k b o λs=>O.set b (.obj (.cells (lD c o s) e (0,0))) where
 sat h:=by have a:=h.obj b _ (ai.aj O b _);exact⟨mh a (sz hc),mh a (sA hc),λi=>kG a⟩
 Ue {s s' w w' es} hs t u A P:=by
  have a:=hs.obj b _ (ai.aj O b _);have Q:=(zs.1 a).1;have D:(O.set b (.obj (.cells (lD c o s) e (0,0)))) b=some (.obj (.cells (lD c o s) e (0,0))):=by simp[ai.set]
  have R:∀d x,d≠b->(O.set b x) d=O d:=λd x h=>by simp[ai.set,h]
  have key:w'.heap[b]?=some (.cells (lD c o s') e (0,0))/\(∀d,d≠b->w'.heap[d]?=w.heap[d]?)/\w'.heap.size=w.heap.size:=by
   have key:∃p,w'.heap[b]?=some (.cells p e (0,0))/\p.size=c.size/\(∀i,i≠o->i≠o+1->p[i]?=c[i]?)/\(∀d,d≠b->w'.heap[d]?=w.heap[d]?)/\w'.heap.size=w.heap.size:=by
    rcases t.2 with r|⟨i,v,J,hf,r⟩
    . exact⟨_,by rw[r];exact a,lE,λ_ T U=>kR T U,λd _=>by rw[r],by rw[r]⟩
    refine⟨_,by rw[r];exact heap_set a,by rw[Zp,lE],λj V E=>?_,λd hd=>by rw[r];exact uF hd,by simp_all⟩;rw[YC (by omega)];exact kR V E
   obtain⟨p,k1,Y,W,l,M⟩:=key;refine⟨?_,l,M⟩;rw[k1];have F:p[o]?=some (.int .i32 (enc s'.w.L s'.w.K s'.w.S s'.w.N)):=by have:=u.cw;simpa[World.cell?,k1]using this
   have G:p[o+1]?=some (.int .u32 s'.ms):=by have:=u.cs;simpa[World.cell?,k1]using this
   have:p=lD c o s':=by
    apply aam;intro i;by_cases e1:i=o
    . subst e1;rw[F,sz hc]
    by_cases e2:i=o+1
    . subst e2;rw[G,sA hc]
    rw[W i e1 e2,kR e1 e2]
   rw[this]
  obtain⟨k1,l,M⟩:=key
  have B:∀d i x y,aR (O.set b (.obj x)) d i->aR (O.set b (.obj y)) d i:=λd i x y hc=>by
   by_cases hd:d=b
   . subst hd;exact .inl ⟨y,by simp[ai.set]⟩
   simpa[aR,ai.set,hd]using hc
  have H:∀d i v,k.cell d i=some v->d≠b:=λd i v m e=>hs.apart _ _ _ m (by subst e;exact .inl ⟨_,D⟩)
  refine⟨{w with heap:=w'.heap},⟨rfl,t.1⟩,⟨λd i v m hc=>hs.apart d i v m (B _ _ _ _ hc),λd i v m=>?_,λd z hz=>?_,λd y hy=>?_,λd n hy=>?_,λd f hy=>?_⟩,⟨.refl k,?_,λd hd hn=>?_,λd n hd hn c2 e2 X=>?_,λd f hd hn c2 e2 X=>?_,λd hd=>?_,λd y hy=>?_,λd i v m=>.inl m,λd z hz=>.inl hz,λI C=>?_,rfl,rfl,rfl,λI C=>?_,λd f hf=>?_⟩⟩
  . have h0:=hs.cell d i v m
    simpa[World.cell?,l d (H d i v m)]using h0
  . have h0:=hs.sh d z hz
    by_cases hd:d=b
    . subst hd
      simp only[World.shape?,a,k1,lE]at h0 ⊢;exact h0
    simpa[World.shape?,l d hd]using h0
  . by_cases hd:d=b
    . subst hd
      simp only[ai.set,YD,kn,Own.obj.injEq]at hy
      simp_all
    rw[show({w with heap:=w'.heap}:World).heap[d]?=w.heap[d]? from l d hd];exact hs.obj d y (by simp_all)
  . have hd:d≠b:=λq=>by subst q;simp[ai.set]at hy
    rw[show({w with heap:=w'.heap}:World).heap[d]?=w.heap[d]? from l d hd];exact hs.tail d n (by simp_all)
  . have hd:d≠b:=λq=>by subst q;simp[ai.set]at hy
    rw[show({w with heap:=w'.heap}:World).heap[d]?=w.heap[d]? from l d hd];exact hs.part d f (by simp_all)
  . simp_all
  . grind
  . grind
  . grind
  . by_cases g:d=b
    . subst g
      simp only[World.shape?,a,k1,lE]
    simp[World.shape?,l d g]
  . by_cases g:d=b
    . subst g;exact .inl ⟨_,D,trivial⟩
    exact .inl ⟨y,by simp_all,.refl y⟩
  . rcases A I (by simp_all)with q|⟨i,J,q,_⟩
    . simp_all
    simp only[iO,q];exact .inl (.inl ⟨_,D⟩)
  . rcases A I (by simp_all)with q|⟨i,J,q,_⟩
    . simp_all
    simp only[iI,q];omega
  grind
 has s:=⟨_,ai.aj O b _⟩
variable{n:BV}(C:fQ P n)(X:fR P n){kind:abi}{Wd:aaT}{cs:aaY}{g:abd}{main:Bool}
def SY(b o:Nat):aaU:=#[⟨.cell ⟨b,o,none⟩,false,true⟩,⟨.cell ⟨b,o,none⟩,true,true⟩]
def P9  b o :EvM b o (SY b o)/\(∀e∈SY b o,∀m,e.loc≠.mark m)/\∀d,deafBehind d (SY b o)=d:=by
 refine⟨j8 (.inl rfl),λe a m h=>?_,λd=>rfl⟩;simp[SY]at a
 grind
include C X in
def Kh(a:ShM b o w fM)(h:np P n b o kind .gT cs g):∃e w',stepG P main g w=.go e w' (SY b o)/\MW b o w w'/\ShM b o w' dM/\Next P n b o kind Wd cs .le e:=by
 obtain⟨c,y,fr,j,rfl,k,f,d,rfl⟩:=h;have l:(ti P n b o kind).1.kind≠.early:=by simp[ti,lW]
 have i:=a.cw;rw[show enc fM.w.L fM.w.K fM.w.S fM.w.N=0 from rfl]at i;exact⟨_,_,gE f (C.o2 b o kind) l X.jX (v:=0) (n:=1) (λx h=>h) (λx h=>h) i (a.fz o),uU rfl,a.aT {Mu.Wd.zero with L:=true},nxt (C.e2 _ b o kind) k f d rfl (.inl rfl)⟩
include C X in
def Ki(i:ShM b o w dM)(h:np P n b o kind .held cs g):∃r w' es,stepG P main g w=.go r w' es/\MW b o w w'/\ShM b o w' fM/\EvM b o es/\(∀e∈es,∀m,e.loc≠.mark m)/\(∀d,deafBehind d es=d)/\Next P n b o kind Wd cs .ue r:=by
 obtain⟨c,y,fr,j,rfl,u,s,k,rfl⟩:=h;have l:({y with N:=0}:Sy).ok:=⟨⟨by simp,by simp⟩,u.2⟩;have p:=s.re (y':={y with N:=0}) (.inr rfl) (.inl rfl) (.inl rfl) (.inl rfl);have a:=k.fZ (y':={y with N:=0}) (by simpa[qT,oo]using(C.p3 b o kind).1);have f:=oY (main:=main) (cs:=j++cs) (w:=w) s (C.UF b o kind) (by simp[qT,oo]) X.add (λx h=>h) i.cw (i.fz _);have e:IntKind.i32.wrap (enc dM.w.L dM.w.K dM.w.S dM.w.N+-1)=enc false false false 0:=by decide
 rw[e]at f;have q:=i.aT Mu.Wd.zero;have v:SR {y with N:=0} (.word false false false 0) (.int .i32 (enc false false false 0)):=pV rfl;have key:=C.u5 (Fl.of {y with N:=0}) b o kind true false (by rfl);exact⟨_,_,_,f,uU rfl,q,j8 (.inl rfl),(λe t m h=>(by simp at t;rcases t with rfl|rfl<;>cases h)),(λd=>rfl),nxt (y:={y with N:=0}) key l p a v rfl⟩
def iu.yM{N Wd a d}(i:∀w,Sat k O w->Wd w){m}:∀{g},iQ P Wd m g a->iu P N k O a d->iu P N k O g d:=by
 induction m with
 |zero=>intro g h b;obtain rfl:g=a:=h;exact b
 | succ m l=>
   intro g h b;obtain⟨c,e,n⟩:=h;refine .step (λk' O' g' j=>k=k'/\O=O'/\c=g'/\d=j) e.1 (λw f=>⟨c,w,#[],k,O,e.2 true w (i w f),⟨w,.refl _,f,.inl (.refl ..)⟩,rfl,rfl,rfl,rfl⟩) ?_
   grind
def iu.next{N p c d}(e:∀w,Sat k O w->Wd w)(h:Next P n b o kind Wd cs p c)(f:∀a,np P n b o kind p cs a->iu P N k O a d):iu P N k O c d:=by obtain⟨_,a,⟨m,g⟩,i⟩:=h;exact iu.yM e g (f a i)
variable{N:aaG}
def Cr{e}(g:Sat k O w){x}(h:O b=some x)(f:e.loc=.mark (.acquire ⟨b,o,none⟩)\/e.loc=.mark (.releaseMerge ⟨b,o,none⟩)):Eff k O w k O w [e]:=by
 have a:=Eff.refl k O w;have d:=g.sR h;refine⟨a.le,a.size,a.keep,a.tail,a.part,a.shape,a.own,a.cell,a.sh,λx c=>?_,rfl,rfl,rfl,λx c=>?_,a.tok⟩
 . rw[lb]at c;subst c
   rcases f with q|q<;>simp[iO,q,jD]
 rw[lb]at c;subst c;rcases f with q|q<;>simp only[iI,q]<;>exact d
def Lk.wd{f}(L:Lk k b o f)  s :∀w,Sat k (f s) w->∃v,w.cell? ⟨b,o,none⟩=some v:=λw a=>⟨_,(L.sat a).cw⟩
include C X in
def wW(F:lO P n){c rest}(u:kind≠.early){f}(L:Lk k b o f)(x:N k (f dM) (jG kind c rest (.tuple #[]))):iu P N k (f fM) (G (Frame.enter P n.lock #[.pointer (some ⟨b,o,none⟩)] kind) (c::rest)) 0:=by
 have t:=L.wd fM;have e:=L.wd dM;obtain⟨_,r⟩:=L.has dM;obtain⟨q,⟨m,s⟩,a⟩:=qB (P:=P) (n:=n) (b:=b) (o:=o) (kind:=kind) (Wd:=λw=>∃v,w.cell? ⟨b,o,none⟩=some v) (cs:=c::rest) F;refine iu.yM t s ?_;refine .step (λk' O' g' i=>k=k'/\f fM=O'/\i=1/\Next P n b o kind (λw=>∃v,w.cell? ⟨b,o,none⟩=some v) (c::rest) .gT g') a.running.1 (λw g=>?_) ?_
 . obtain⟨d,j,l⟩:=Au (main:=true) (w:=w) C X a
   exact⟨d,w,_,k,f fM,j,⟨w,.refl _,g,.inr ⟨rfl,rfl,rfl,.inl rfl⟩⟩,rfl,rfl,rfl,l⟩
 rintro _ _ d _ ⟨rfl,rfl,rfl,p⟩;refine iu.next t p λq a=>?_
 refine .step (λk' O' g' i=>k=k'/\f dM=O'/\i=1/\Next P n b o kind (λw=>∃v,w.cell? ⟨b,o,none⟩=some v) (c::rest) .le g') a.running.1 (λw g=>?_) ?_
 . obtain⟨d,w',j,l,y,z⟩:=Kh (main:=true) (w:=w) C X (L.sat g) a
   obtain⟨A,B,D⟩:=P9 b o;obtain⟨E,H,I,J⟩:=L.Ue g l y A B;exact⟨d,w',_,k,_,j,⟨E,H,I,.inl J⟩,rfl,rfl,D 1,z⟩
 rintro _ _ d _ ⟨rfl,rfl,rfl,p⟩;refine iu.next e p λq a=>?_
 refine .step (λk' O' g' i=>k=k'/\f dM=O'/\i=0/\Next P n b o kind (λw=>∃v,w.cell? ⟨b,o,none⟩=some v) (c::rest) .la g') a.running.1 (λw g=>?_) ?_
 . obtain⟨d,j,l⟩:=FL (main:=true) (w:=w) C X (λw h=>h) a
   exact⟨d,w,_,k,_,j,⟨w,.refl _,g,.inr ⟨rfl,rfl,rfl,.inr rfl⟩⟩,rfl,rfl,rfl,l⟩
 rintro _ _ d _ ⟨rfl,rfl,rfl,p⟩;refine iu.next e p λq a=>?_
 refine .step (λk' O' g' i=>k=k'/\f dM=O'/\i=0/\Next P n b o kind (λw=>∃v,w.cell? ⟨b,o,none⟩=some v) (c::rest) .back g') a.running.1 (λw g=>?_) ?_
 . obtain⟨d,j,l⟩:=FK (main:=true) (w:=w) C X a
   exact⟨d,w,_,k,_,j,⟨w,.refl _,g,.inl (Cr g r (.inl rfl))⟩,rfl,rfl,rfl,l⟩
 rintro _ _ d _ ⟨rfl,rfl,rfl,p⟩;refine iu.next e p λq a=>?_
 obtain⟨m,s⟩:=r7 (Wd:=λw=>∃v,w.cell? ⟨b,o,none⟩=some v) F a u;exact iu.yM e s (.done x)
include C X in
def sB(F:lO P n){c rest}(t:kind≠.early){f}(L:Lk k b o f)(u:N k (f fM) (jG kind c rest (.tuple #[]))):iu P N k (f dM) (G (Frame.enter P n.unlock #[.pointer (some ⟨b,o,none⟩)] kind) (c::rest)) 0:=by
 have r:=L.wd dM;have p:=L.wd fM;obtain⟨_,x⟩:=L.has dM;obtain⟨q,⟨m,s⟩,a⟩:=oq (P:=P) (n:=n) (b:=b) (o:=o) (kind:=kind) (Wd:=λw=>∃v,w.cell? ⟨b,o,none⟩=some v) (cs:=c::rest) F;refine iu.yM r s ?_;refine .step (λk' O' g' g=>k=k'/\f dM=O'/\g=0/\Next P n b o kind (λw=>∃v,w.cell? ⟨b,o,none⟩=some v) (c::rest) .ur g') a.running.1 (λw e=>?_) ?_
 . obtain⟨d,i,j⟩:=wq (main:=true) (w:=w) C X (λw h=>h) (L.sat e).cw a
   exact⟨d,w,_,k,f dM,i,⟨w,.refl _,e,.inl (.refl ..)⟩,rfl,rfl,rfl,j⟩
 rintro _ _ d _ ⟨rfl,rfl,rfl,l⟩;refine iu.next r l λq a=>?_
 refine .step (λk' O' g' g=>k=k'/\f dM=O'/\g=0/\Next P n b o kind (λw=>∃v,w.cell? ⟨b,o,none⟩=some v) (c::rest) .ud g') a.running.1 (λw e=>?_) ?_
 . obtain⟨d,i,j⟩:=FJ (main:=true) (w:=w) C X a
   exact⟨d,w,_,k,_,i,⟨w,.refl _,e,.inl (Cr e x (.inr rfl))⟩,rfl,rfl,rfl,j⟩
 rintro _ _ d _ ⟨rfl,rfl,rfl,l⟩;refine iu.next r l λq a=>?_
 refine .step (λk' O' g' g=>k=k'/\f dM=O'/\g=1/\Next P n b o kind (λw=>∃v,w.cell? ⟨b,o,none⟩=some v) (c::rest) .held g') a.running.1 (λw e=>?_) ?_
 . obtain⟨d,i,j⟩:=FI (main:=true) (w:=w) C X a
   exact⟨d,w,_,k,_,i,⟨w,.refl _,e,.inr ⟨rfl,rfl,rfl,.inl rfl⟩⟩,rfl,rfl,rfl,j⟩
 rintro _ _ d _ ⟨rfl,rfl,rfl,l⟩;refine iu.next r l λq a=>?_
 refine .step (λk' O' g' g=>k=k'/\f fM=O'/\g=1/\Next P n b o kind (λw=>∃v,w.cell? ⟨b,o,none⟩=some v) (c::rest) .ue g') a.running.1 (λw e=>?_) ?_
 . obtain⟨d,w',es,i,j,y,z,A,B,D⟩:=Ki (main:=true) (w:=w) C X (L.sat e) a
   obtain⟨E,H,I,J⟩:=L.Ue e j y z A;exact⟨d,w',_,k,_,i,⟨E,H,I,.inl J⟩,rfl,rfl,B 1,D⟩
 rintro _ _ d _ ⟨rfl,rfl,rfl,l⟩;refine iu.next p l λq a=>?_
 refine .step (λk' O' g' g=>k=k'/\f fM=O'/\g=0/\Next P n b o kind (λw=>∃v,w.cell? ⟨b,o,none⟩=some v) (c::rest) .BZ g') a.running.1 (λw e=>?_) ?_
 . obtain⟨d,i,j⟩:=Av (main:=true) (w:=w) C X a
   exact⟨d,w,_,k,_,i,⟨w,.refl _,e,.inr ⟨rfl,rfl,rfl,.inr rfl⟩⟩,rfl,rfl,rfl,j⟩
 rintro _ _ d _ ⟨rfl,rfl,rfl,l⟩;refine iu.next p l λq a=>?_
 obtain⟨m,s⟩:=lx (Wd:=λw=>∃v,w.cell? ⟨b,o,none⟩=some v) F a t;exact iu.yM p s (.done u)
def Rel.zd{σ f}(a:Rel k O σ)(h:σ b=some (.part f)):O b=some (.part f):=by
 obtain⟨x,c,d⟩:=a.1 b _ h (by simp);cases d;exact c
def jh(b o:Nat)(a:AV):Prop:=∀k v,V k v a->v=.pointer (some ⟨b,o,none⟩)
def p9  b o   l   h :jh b o (.kp b l h o):=λk v a=>by cases a;rfl
def nQ  b o :jh b o (.ref b o):=λk v a=>by cases a;rfl
def Vs.one{a c}(h:Vs k c [a]):∃v,c=[v]/\V k v a:=by
 obtain⟨b,d⟩:=h
 match c with
 |[v]=>exact⟨v,rfl,d 0 v a rfl rfl⟩
 |[]=>simp at b
 |_::_::_=>simp at b
include C X in
def Hj(F:lO P n){m}(j:m.solo=true){a}(ha:jh b o a){σ f}(d:σ b=some (.part (bD o)))(h:f (.val (.cH [])) (σ.set b (.part (wV o)))):aB P m n.lock [a] σ f:=by
 intro Q k O e c rest kind l p g q s;obtain⟨v,rfl,r⟩:=p.one;obtain rfl:=ha _ _ r;refine .phase (λk' O' g'=>T P m Q k' O' g') j (λ_ _ _ h=>h) (iu.phase ?_);have L:=Lk.part (k:=k) (b:=b) (o:=o) O;have:=wW (P:=P) (N:=λk' O' g'=>T P m Q k' O' g') C X F l L (c:=c) (rest:=rest) ?_
 . simp only[wU]at this
   rwa [ai.AR (g.zd d)]at this
 exact q k _ (.tuple #[]) (.cH []) _ (.refl k) (.cH _ _ rfl λi v a h=>by simp at h) (g.set (.part _)) h
include C X in
def Ct(F:lO P n){m}(l:m.solo=true){a}(ha:jh b o a){σ g}(d:σ b=some (.part (wV o)))(h:g (.val (.cH [])) (σ.set b (.part (bD o)))):aB P m n.unlock [a] σ g:=by
 intro Q k O f c rest kind p q j r t;obtain⟨v,rfl,s⟩:=q.one;obtain rfl:=ha _ _ s;refine .phase (λk' O' g'=>T P m Q k' O' g') l (λ_ _ _ h=>h) (iu.phase ?_);have L:=Lk.part (k:=k) (b:=b) (o:=o) O;have:=sB (P:=P) (N:=λk' O' g'=>T P m Q k' O' g') C X F p L (c:=c) (rest:=rest) ?_
 . have e:O.set b (.part (iL o dM))=O:=ai.AR (j.zd d)
   simp only[e]at this;exact this
 simp only[wU];exact r k _ (.tuple #[]) (.cH []) _ (.refl k) (.cH _ _ rfl λi v a h=>by simp at h) (j.set (.part _)) h
def Rel.vn{σ l}(d:Rel k O σ)(h:σ b=some (.cells l)):∃c e,O b=some (.obj (.cells c e (0,0)))/\c.size=l.length/\(∀(i:Nat) v a,c[i]?=some v->l[i]?=some a->V k v a)/\∀(i:Nat) v,c[i]?=some v->flat v=true:=by
 obtain⟨x,g,f⟩:=d.1 b _ h (by simp);cases f with
 |cells c e l j m n=>grind
def ze{c}{l:abj}{e}(m:c.size=l.length)(n:∀(i:Nat) v a,c[i]?=some v->l[i]?=some a->V k v a)(p:∀(i:Nat) v,c[i]?=some v->flat v=true)(j:l[o+1]?=some (.lit (.int .u32 0)))(h:s.ms=0):jY k (.obj (.cells (lD c o s) e (0,0))) (.cells (l.set o (.lit (.int .i32 (enc s.w.L s.w.K s.w.S s.w.N))))):=by
 have d:o+1<c.size:=by grind
 refine .cells _ _ _ (by rw[lE];simp_all) (λi v a b ha=>?_) (λi v b=>?_)
 . by_cases f:i=o
   . subst f
     rw[sz d]at b;rw[Zx (by omega)]at ha;cases b;cases ha;exact .lit _
   rw[Zv (zj f)]at ha;by_cases g:i=o+1
   . subst g
     rw[sA d,h]at b;rw[j]at ha;cases b;cases ha;exact .lit _
   rw[kR f g]at b
   grind
 by_cases f:i=o
 . subst f
   rw[sz d]at b;cases b;rfl
 by_cases g:i=o+1
 . subst g
   rw[sA d]at b;cases b;rfl
 rw[kR f g]at b
 grind
def wX{c}{l:abj}{n}(p:c.size=l.length)(e:∀(i:Nat) v a,c[i]?=some v->l[i]?=some a->V k v a)(h:l[o]?=some (.lit (.int .i32 n)))(j:n=enc s.w.L s.w.K s.w.S s.w.N)(m:l[o+1]?=some (.lit (.int .u32 0)))(d:s.ms=0):lD c o s=c:=by
 have b:o+1<c.size:=by grind
 apply aam;intro i;by_cases f:i=o
 . subst f
   rw[sz b,<-j,YM (by omega)];have:=e i c[i] _ (YM (by omega)) h;generalize c[i]=u at this;cases this;rfl
 by_cases g:i=o+1
 . subst g
   rw[sA b,d,YM b];have:=e _ _ _ (YM b) m;generalize c[o+1]=u at this;cases this;rfl
 rw[kR f g]
include C X in
def Es(F:lO P n){m}(u:m.solo=true){a}(ha:jh b o a){σ q l}(d:σ b=some (.cells l))(w:l[o]?=some (.lit (.int .i32 0)))(f:l[o+1]?=some (.lit (.int .u32 0)))(h:q (.val (.cH [])) (σ.set b (.cells (l.set o (.lit (.int .i32 1)))))):aB P m n.lock [a] σ q:=by
 intro Q k O g c rest kind x y r z H;obtain⟨v,rfl,A⟩:=y.one;obtain rfl:=ha _ _ A;obtain⟨B,D,E,j,t,G⟩:=r.vn d;refine .phase (λk' O' g'=>T P m Q k' O' g') u (λ_ _ _ h=>h) (iu.phase ?_)
 have p:o+1<B.size:=by rw[j];exact(YJ.1 f).1
 have L:=Lk.obj (k:=k) (b:=b) (o:=o) O (e:=D) p;have:=wW (P:=P) (N:=λk' O' g'=>T P m Q k' O' g') C X F x L (c:=c) (rest:=rest) ?_
 . simp only[wX (s:=fM) j t w rfl f rfl]at this
   rwa [ai.AR E]at this
 exact z k _ (.tuple #[]) (.cH []) _ (.refl k) (.cH _ _ rfl λi v a h=>by simp at h) (r.set (ze (s:=dM) j t G f rfl)) h
include C X in
def AS(F:lO P n){m}(u:m.solo=true){a}(ha:jh b o a){σ q l}(d:σ b=some (.cells l))(w:l[o]?=some (.lit (.int .i32 1)))(f:l[o+1]?=some (.lit (.int .u32 0)))(h:q (.val (.cH [])) (σ.set b (.cells (l.set o (.lit (.int .i32 0)))))):aB P m n.unlock [a] σ q:=by
 intro Q k O g c rest kind x y r z H;obtain⟨v,rfl,A⟩:=y.one;obtain rfl:=ha _ _ A;obtain⟨B,D,E,j,t,G⟩:=r.vn d;refine .phase (λk' O' g'=>T P m Q k' O' g') u (λ_ _ _ h=>h) (iu.phase ?_)
 have p:o+1<B.size:=by rw[j];exact(YJ.1 f).1
 have L:=Lk.obj (k:=k) (b:=b) (o:=o) O (e:=D) p;have:=sB (P:=P) (N:=λk' O' g'=>T P m Q k' O' g') C X F x L (c:=c) (rest:=rest) ?_
 . simp only[wX (s:=dM) j t w rfl f rfl]at this
   rwa [ai.AR E]at this
 exact z k _ (.tuple #[]) (.cH []) _ (.refl k) (.cH _ _ rfl λi v a h=>by simp at h) (r.set (ze (s:=fM) j t G f rfl)) h
def Rel.del{σ}(h:Rel k O σ)  r :Rel k (O.del r) (σ.del r):=⟨λb a e c=>by
 by_cases hb:b=r
 . subst hb;simp[ab.del]at e
 . simp only[ab.del,hb,Rp]at e
   obtain⟨x,d,f⟩:=h.1 b a e c;exact⟨x,by simp[ai.del,hb,d],f⟩,λb a e c=>by
 by_cases hb:b=r
 . subst hb;simp[ab.del]at e
 simp only[ab.del,hb,Rp]at e;obtain⟨d,f⟩:=h.2 b a e c;exact⟨by simp[ai.del,hb,d],f⟩⟩
def Rel.gu{σ}(h:Rel k O σ)  r  (d:∃s,k.sh r=some s):Rel k (O.del r) (σ.set r .gu):=⟨λb a e c=>by
 by_cases hb:b=r
 . subst hb;simp[ab.set]at e;subst e;cases c
 . simp only[ab.set,hb,Rp]at e
   obtain⟨x,f,g⟩:=h.1 b a e c;exact⟨x,by simp[ai.del,hb,f],g⟩,λb a e c=>by
 by_cases hb:b=r
 . subst hb;simp[ab.set]at e;exact⟨by simp[ai.del],d,λl q=>by simp_all⟩
 simp only[ab.set,hb,Rp]at e;obtain⟨f,g⟩:=h.2 b a e c;exact⟨by simp[ai.del,hb,f],g⟩⟩
def T.sat{m Q}(b:g.status=.running)(h:(∃w,Sat k O w)->T P m Q k O g):T P m Q k O g:=by
 by_cases a:∃w,Sat k O w
 . exact h a
 exact .step (λ_ _ _=>False) b (λ_ _ _ h=>h.elim) λw c=>absurd ⟨w,c⟩ a
variable{A:bJ}{j:Nat}
def Hk(hd:A.dir=false){a}(ha:jh A.fb A.fo a){σ p}(d:σ A.fb=some .gu)(h:∀x,A.GI x->(∀y,σ A.mb=some y->y.gone=true)->p (.val (.cH [])) ((σ.set A.mb x).set A.fb (.part JM))):aB P (gW P A j) A.nm.lock [a] σ p:=by
 intro Q k O g c rest kind r s l t E;obtain⟨v,rfl,u⟩:=s.one;obtain rfl:=ha _ _ u;obtain⟨w,⟨e,B⟩,_⟩:=l.2 _ _ d rfl;refine .cY (λk' O' g'=>T P (gW P A j) Q k' O' g') rfl (.inl ⟨kind,c,rest,e,r,rfl,w,B,λq=>by simp_all,λk' x y f b m n C D=>?_⟩) (λ_ _ _ h=>h);rw[show f=JM by simpa[bJ.Tk,hd]using D];refine t k' _ (.tuple #[]) (.cH []) _ b (.cH _ _ rfl λi v a h=>by simp at h) (((l.mono b).set m).set (.part _)) (h y n λz hz=>?_);cases o:z.gone with
 |true=>rfl
 | false=>
   obtain⟨F,G,_⟩:=l.1 _ z hz o
   simp_all
def Cu(hd:A.dir=false){a}(ha:jh A.fb A.fo a){σ n f y}(b:σ A.fb=some (.part f))(p:σ A.mb=some y)(r:A.GI y)(d:y.gone=false)(h:n (.val (.cH [])) ((σ.del A.mb).set A.fb .gu)):aB P (gW P A j) A.nm.unlock [a] σ n:=by
 intro Q k O e c rest kind s t g u D;obtain⟨v,rfl,z⟩:=t.one;obtain rfl:=ha _ _ z;obtain⟨x,B,l⟩:=g.1 _ _ p d;have o:=g.zd b;refine T.sat rfl λ⟨w,C⟩=>?_
 obtain⟨E,F,_,m,_⟩:=C.part _ _ o;refine .cY (λk' O' g'=>T P (gW P A j) Q k' O' g') rfl (.inr (.inl ⟨kind,c,rest,f,x,y,s,rfl,o,B,l,r,λq=>by simp_all,?_⟩)) (λ_ _ _ h=>h);rw[show Dw P A (λk' O' g'=>T P (gW P A j) Q k' O' g')=λk' O' g'=>T P (gW P A j) Q k' O' g' by simp[Dw,hd]];exact u k _ (.tuple #[]) (.cH []) _ (.refl k) (.cH _ _ rfl λi v a h=>by simp at h) ((g.del A.mb).gu A.fb ⟨_,m⟩) h
end
section
variable{P:abm}(L:iT P){o:Oper}{env:Env}{σ:ab}{K:aaP}{Kp:aaP}
def zf{i d e}(h:dv P i d=true)(a:i.kind=.chan e):∃dir,d=.chan dir e:=by cases d<;>simp_all [dv]
def Cv{t e:Nat}{x i h kd n}(l:o.op=.makeChan t x)(ht:L.tt t=some i)(m:i.kind=.chan e)(p:L.tt e=some h)(q:ak env x=.lit (.int kd n))(y:0<=n/\n<=1000000/\h.bytes<=1000000)
 (u:∀b,σ b=none->K (.chan b) (σ.set b (.raw (.chan n.toNat #[] false 0 0 false)))):aJ P o env σ K Kp:=
 aJ.val (s:=λf=>Instr.makeChan t (f x)) (λf=>by simp[execOp,l]) λk O f v j=>by
  have c:=v x (by simp_all)
  rw[q]at c;rw[c8 c];unfold Instr.makeChan;refine af (ag ?_);refine af (aD L ht λd _ hd=>?_)
  obtain⟨dir,rfl⟩:=zf hd m;simp only;refine af (cN L p λinfo _ _ hb _=>?_)
  have w:((info.bytes:Int)*n)<=1000000*1000000:=by rw[hb];exact Int.mul_le_mul (by omega) (by omega) (by omega) (by omega)
  have g:¬(n<0\/n>IntKind.i64.max\/(info.bytes:Int)*n>2 ^ 48-112):=by have:IntKind.i64.max=9223372036854775807:=rfl;omega
  rw[YA g];refine af (s:=newObj _) ⟨rfl,λr a=>ag ?_⟩
  exact .here ⟨.made a.2.2,_,_,.chan r,(j.mono (.made a.2.2)).set (.raw _ rfl),u r (j.isNone a.1 a.2.2)⟩
end
def wY(P:abm)(d:Deferred):abd:=G {(default:Frame)with fn:=P.funcs.size,defers:=[d],mode:=.panicking [goexitEntry]} []
def zg:Item->Bool
 |.inRegion _ []=>true
 |.inBlock _=>true
 |.inScope _=>true
 |.code .skip=>true
 |.code .ret=>true
 |_=>false
def wZ{P f fn tmps}(b:P.funcs[f]?=some fn)(d:fn.results=#[]):∀  todo ,todo.all zg=true->∃n,QuitsD P n 0 (G ⟨f,tmps,todo,[],.run,.deferred,none⟩ [cA P])
 |[],_=>⟨_,.ctl rfl (λw=>by simp[G,stepG,stepG.exec,kg]) (tk b d (todo:=[]) (tmps:=tmps))⟩
 | i ::k,h=>by
   simp only[Zl,za]at h;obtain⟨n,e⟩:=wZ (tmps:=tmps) b d k h.2;by_cases a:i=.code .ret
   . subst a
     exact⟨_,.ctl rfl (λw=>by simp[G,stepG,stepG.exec,kg]) (tk b d (todo:=.code .ret::k) (tmps:=tmps))⟩
   refine⟨_,.ctl rfl (λw=>?_) e⟩;cases i with
   |code c=>cases c<;>first|(exact absurd rfl a)|(simp[zg]at h;done)|simp[G,stepG,stepG.exec]
   |inRegion ops l=>cases l<;>first|(simp[zg]at h;done)|simp[G,stepG,stepG.exec]
   |_=>first|(simp[zg]at h;done)|simp[G,stepG,stepG.exec]
section
variable{P:abm}{fid n:Nat}{ro:aaX}{s:St}{k:abb}{K:aaN}{A:bJ}{Fin:aaG}
def vD.none{m Q kind cs a}:vD P m Q fid n ro kind cs (λ_ _=>False) a:=⟨λ_ _ _ _ _ _ _ _ _ _ h=>h.elim,λ_ _ _ _ _ _ _ _ _ _ _ h=>h.elim⟩
def xa{fn}:seen P fn #[]=#[]:=rfl
def Et{fr cs x w cases b sh}(h:x.runT P w #[]=(.ok (.comm cases b sh) w,#[])):stepG.apply P true fr cs none x w=.comm (G fr cs) cases b sh w #[]:=by simp only[stepG.apply,YD,h,ite_self,xa,GStep.after];rfl
def Cw{fr cs x w f cap args}(h:x.runT P w #[]=(.ok (.spawn {target:=.fn f cap,args}) w,#[])):stepG.apply P true fr cs none x w=.spawn (G (fr.finish undef) cs) (wY P {target:=.fn f cap,args}) w #[]:=by simp only[stepG.apply,YD,h,ite_self,xa,GStep.after];simp[wY,G]
def xc{b:Bool}{ops i rest o ch x tmps defs kind cs}{m:Mo}{env d c}(r:ops[i]?=some o)(f:o.op=.send ch x)(p:tmps.size=n)(q:eV d tmps env)(s:bT ops n env o)
 (g:Oper.ok n o=true) (h:ak env ch=.chan c)  w :
 ∃ v,V d v (ak env x)/\stepG P m.main (G ⟨fid,tmps,.inRegion ops (i::rest)::k,defs,.run,kind,ro⟩ cs) w=.comm (G ⟨fid,tmps,.inRegion ops (i::rest)::k,defs,.run,kind,ro⟩ cs) #[scase c v (.tuple #[])] true .send w #[]/\
   v=Frame.eval ⟨fid,tmps,.inRegion ops (i::rest)::k,defs,.run,kind,ro⟩ x:=by
 have a:∀y∈o.op.operands,V d (Frame.eval ⟨fid,tmps,.inRegion ops (i::rest)::k,defs,.run,kind,ro⟩ y) (ak env y):=λy A=>by
  refine V.eval q p y ?_;simp only[Oper.ok,za,YK]at g
  grind
 have j:=a ch (by simp_all);have t:=a x (by simp_all);rw[h]at j;generalize u:Frame.eval ⟨fid,tmps,.inRegion ops (i::rest)::k,defs,.run,kind,ro⟩ ch=B at j;cases j;refine⟨_,t,?_,rfl⟩;rw[dH r (gx p q s) (.inr λc e=>by simp_all) w];have l:execOp (Frame.eval ⟨fid,tmps,.inRegion ops (i::rest)::k,defs,.run,kind,ro⟩) o=pure (.comm #[scase c (Frame.eval ⟨fid,tmps,.inRegion ops (i::rest)::k,defs,.run,kind,ro⟩ x) (.tuple #[])] true .send):=by simp[execOp,f,u,scase]
 rw[l];by_cases z:(kind==CallKind.early)=true<;>simp[stepG.apply,seen,z,GStep.after,G]
def uY{α}{f:TypeDesc->Sem α}{t d w es}(h:P.underlying t=some d):(underlying t >>=f).runT P w es=(f d).runT P w es:=by
 unfold underlying
 simp_all
def xd{α}{f:Value->Sem α}{t info z w es}(h:P.info? t=some info)(hz:info.zero=some z):(zeroValue t >>=f).runT P w es=(f z).runT P w es:=by
 unfold zeroValue typeInfo
 simp_all
def xe(L:iT P){ok ops i rest o ct ce v a ch tmps defs kind cs}{m:Mo}{env x c}(A:ops[i]?=some o)(b:o.op=.recv ct ch ok)(f:L.tt ct=some v)(g:v.kind=.chan ce)(h:L.tt ce=some a)
 (y:tmps.size=n) (z:eV x tmps env) (B:bT ops n env o) (j:Oper.ok n o=true) (l:ak env ch=.chan c)  w :
 stepG P m.main (G ⟨fid,tmps,.inRegion ops (i::rest)::k,defs,.run,kind,ro⟩ cs) w=.comm (G ⟨fid,tmps,.inRegion ops (i::rest)::k,defs,.run,kind,ro⟩ cs) #[rcase c a.zero] true (.recv ok) w #[]:=by
 have p:V x (Frame.eval ⟨fid,tmps,.inRegion ops (i::rest)::k,defs,.run,kind,ro⟩ ch) (ak env ch):=by
  refine V.eval z y ch ?_;simp only[Oper.ok,za,YK]at j
  simp_all
 rw[l]at p;generalize C:Frame.eval ⟨fid,tmps,.inRegion ops (i::rest)::k,defs,.run,kind,ro⟩ ch=D at p;cases p;rw[dH A (gx y z B) (.inr λc e=>by simp_all) w]
 obtain⟨⟨d,q,r⟩,_⟩:=L.facts f;obtain⟨dir,rfl⟩:=zf r g;obtain⟨_,info,s,_,_,t,_⟩:=L.facts h
 have u:(execOp (Frame.eval ⟨fid,tmps,.inRegion ops (i::rest)::k,defs,.run,kind,ro⟩) o).runT P w #[]=(.ok (.comm #[rcase c a.zero] true (.recv ok)) w,#[]):=by simp only[execOp,b,C];rw[uY q];simp only;rw[xd s t];rfl
 exact Et u
def Cx{ops i rest o fo args h f first cap tmps defs kind cs}{m:Mo}{env d}(A:ops[i]?=some o)(j:o.op=.go ⟨.value fo,args,h⟩)
 (r:tmps.size=n) (s:eV d tmps env) (B:bT ops n env o) (l:Oper.ok n o=true) (p:ak env fo=.fn f first cap):
 ∃ t u,Vs d t cap/\Vs d u (first++args.toList.map (ak env))/\∀w,stepG P m.main (G ⟨fid,tmps,.inRegion ops (i::rest)::k,defs,.run,kind,ro⟩ cs) w=
   .spawn (G (Frame.finish ⟨fid,tmps,.inRegion ops (i::rest)::k,defs,.run,kind,ro⟩ undef) cs) (wY P {target:=.fn f t.toArray,args:=u.toArray}) w #[]:=by
 have b:∀x∈o.op.operands,V d (Frame.eval ⟨fid,tmps,.inRegion ops (i::rest)::k,defs,.run,kind,ro⟩ x) (ak env x):=λx C=>by
  refine V.eval s r x ?_;simp only[Oper.ok,za,YK]at l
  grind
 have q:=b fo (by simp_all);rw[p]at q;generalize D:Frame.eval _ fo=cf at q;cases q with
 | fn _ g y J K L E M F=>
   have H:=Vs.ofArray (k:=d) (ρ:=Frame.eval ⟨fid,tmps,.inRegion ops (i::rest)::k,defs,.run,kind,ro⟩) (env:=env) (xs:=args) (λx C=>b x (by simp_all));refine⟨y.toList,g.toList++(args.map (Frame.eval ⟨fid,tmps,.inRegion ops (i::rest)::k,defs,.run,kind,ro⟩)).toList,⟨by omega,λi v a z ha=>F i v a (by grind) ha⟩,Vs.append ⟨by omega,λi v a z ha=>E i v a (by grind) ha⟩ ⟨by grind,λi v a z ha=>H.2 i v a (by grind) ha⟩,λw=>?_⟩;rw[dH A (gx r s B) (.inr λc e=>by simp_all) w];refine(Cw (f:=f) (cap:=y) (args:=g++args.map (Frame.eval ⟨fid,tmps,.inRegion ops (i::rest)::k,defs,.run,kind,ro⟩)) ?_).trans ?_
   . simp only[execOp,j,resolve,D,Deferred.ofValue]
     rfl
   have I:∀x:aaS,(g.toList++x.toList).toArray=g++x:=λx=>by grind
   rw[I,Array.toArray_toList]
def Eu{m Q kk O tmps defs kind cs f fn ops i rest o args j}(z:ops[i]?=some o)(p:o.op=.call ⟨.value (.func f),args,j⟩)(A:bT ops n s.env o)(q:Oper.ok n o=true)
 (B:P.funcs[f]?=some fn) (hb:fn.body.isSome=true) (t:(fn.name==  "runtime.NumGoroutine")=false) (g:Bt n kk O tmps defs kind cs s)
 (h:∀cargs,Vs kk cargs (args.toList.map (ak s.env))->T P m Q kk O (G (Frame.enter P f cargs.toArray .normal) (⟨fid,tmps,.inRegion ops (i::rest)::k,defs,.run,kind,ro⟩::fy s.rc cs))):T P m Q kk O (G ⟨fid,tmps,.inRegion ops (i::rest)::k,defs,.run,kind,ro⟩ (fy s.rc cs)):=by
 refine T.ns (λw=>dH z (gx g.size g.env A) (.inr λc e=>by simp_all) w) (dF ?_)
 have b:∀x∈o.op.operands,V kk (Frame.eval ⟨fid,tmps,.inRegion ops (i::rest)::k,defs,.run,kind,ro⟩ x) (ak s.env x):=λx y=>by
  refine V.eval g.env g.size x ?_;simp only[Oper.ok,za,YK]at q
  grind
 have C:=Vs.ofArray (k:=kk) (ρ:=Frame.eval ⟨fid,tmps,.inRegion ops (i::rest)::k,defs,.run,kind,ro⟩) (env:=s.env) (xs:=args) (λx y=>b x (by simp_all))
 have u:fn.body.isNone=false:=by cases y:fn.body<;>simp_all
 simp only[execOp,p,resolve];refine af ?_;show dD P (Deferred.ofValue (.func (.func f) #[] #[]) _) kk O _ _;simp only[Deferred.ofValue];refine ag ?_;simp only[invoke,callFunc];refine af (bY ?_);rw[B];simp only[t,u,LK,Rp];refine ag λ_=>⟨λd w r s l=>by simp,?_⟩
 have:=h (args.map (Frame.eval ⟨fid,tmps,.inRegion ops (i::rest)::k,defs,.run,kind,ro⟩)).toList ⟨by grind,λi v a D ha=>C.2 i v a (by grind) ha⟩
 have key:∀x:aaS,x=(args.map (Frame.eval ⟨fid,tmps,.inRegion ops (i::rest)::k,defs,.run,kind,ro⟩)).toList.toArray->T P m Q kk O (G (Frame.enter P f x .normal) (⟨fid,tmps,.inRegion ops (i::rest)::k,defs,.run,kind,ro⟩::fy s.rc cs)):=λx e=>by grind
 grind
def qD(P:abm)(m:Mo)(fid n:Nat)(ro:aaX)(K:aaN)(kd:abi)(a:aaY)(b:ao)(Fin:aaG):Prop:=∀todo s k' O' tmps defs,Go P m fid n ro todo s K->s.rc=.no->Bt n k' O' tmps defs kd a s->b.Le k'->Fin k' O' (G ⟨fid,tmps,todo,defs,.run,kd,ro⟩ a)
def Go.Kj{m ops i rest o args f fn}(r:ops[i]?=some o)(g:o.op=.call ⟨.value (.func A.ng.add),args,f⟩)(u:bT ops n s.env o)(j:Oper.ok n o=true)
 (w:P.funcs[A.ng.add]?=some fn) (hb:fn.body.isSome=true) (l:(fn.name==  "runtime.NumGoroutine")=false) (ha:args.toList.map (ak s.env)=[.ref A.gb 0,.lit (.int .i64 1)])
 (h:Go P (Ee P A Fin m) fid n ro (.inRegion ops rest::k) {s with env:=bd s.env o.dst (.cH [])} (λ_ _=>False)):Go P (ot P A Fin (m+1)) fid n ro (.inRegion ops (i::rest)::k) s K:=by
 intro Q kk O tmps defs kind cs p q E;refine Eu r g u j w hb l q λb t=>?_
 rw[ha]at t;obtain⟨z,c⟩:=t
 have e:b.toArray=#[.pointer (some ⟨A.gb,0,none⟩),.int .i64 1]:=by
  match b,z,c with
  |[x,y],_,c=>have B:=c 0 x _ rfl rfl;have p:=c 1 y _ rfl rfl;cases B;cases p;rfl
 rw[e];refine .cY gg rfl ⟨rfl,_,_,rfl,?_⟩ (λ_ _ _ h=>h.elim);obtain⟨d,C,D⟩:=q.put (fid:=fid) (ro:=ro) (rest:=rest) (kk:=k) (σ':=s.σ) (v:=.tuple #[]) (a:=.cH []) (.refl kk) r (.cH _ _ rfl λi v a h=>by simp at h) q.rel;show T P (Ee P A Fin m) gg kk O (G (Frame.finish ⟨fid,tmps,.inRegion ops (i::rest)::k,defs,.run,kind,ro⟩ (.tuple #[])) (fy s.rc cs));rw[C];exact h gg kk O d defs kind cs p D .none
def jv(b:Nat):ab:=λc=>if c=b then some .gu else none
def Ga{m}{f:FuncId}{fn body cap args σ0}{KE:ao->aaN}(k:P.funcs[f]?=some fn)(hb:fn.body=some body)(n:(fn.name==  "runtime.NumGoroutine")=false)(q:(args++cap).length<=fn.ntmps){kk}(d:Rel kk ai.bot σ0)
 (o:vD P m gg f fn.ntmps none .deferred [cA P] (KE kk) kk)
 (h:∀l,Go P m f fn.ntmps none [.code body] ⟨dh (args++cap),σ0,[],.told .deferred [cA P] l⟩ (KE l)){a b}(g:Vs kk a cap) (i:Vs kk b args):
 T P m gg kk ai.bot (wY P {target:=.fn (.func f) a.toArray,args:=b.toArray}):=by
 have p:fn.body.isNone=false:=by simp[hb]
 have hinv:∀w,(invoke (.fn (.func f) a.toArray) b.toArray).runT P w #[]=(.ok (.enter f (b++a).toArray) w,#[]):=λw=>by
  show Sem.runT P (callFunc f (b.toArray++a.toArray)) w #[]=_;unfold callFunc;rw[fN,k]
  simp_all
 refine T.cZ (g':=G (Frame.enter P f (b++a).toArray .deferred) [cA P]) rfl (λw=>?_) ?_
 . simp only[wY,G,stepG,unwind,callDeferred,hinv]
   simp;rfl
 have c:=i.append g;have e:Frame.enter P f (b++a).toArray .deferred=⟨f,(b++a).toArray++Array.replicate (fn.ntmps-(b++a).length) undef,[.code body],[],.run,.deferred,none⟩:=by simp[Frame.enter,k,hb]
 have j:((b++a).toArray++Array.replicate (fn.ntmps-(b++a).length) undef).size=fn.ntmps:=by
  have:=c.1
  simp_all
 rw[e];exact h kk gg kk ai.bot _ [] .deferred [cA P] (by simp) ⟨j,sW c _,d,trivial,rfl,rfl,.refl kk⟩ o
def Qa(P:abm)(A:bJ)(fn:Func):aaN:=λe s=>fn.results=#[]/\(e=.leave none\/e=.leave (some .ret))/\(∃a,s.rc=.told .deferred [cA P] a)/\∃r,s.D=[.mark r,.call (.func A.ng.done) [] [.ref A.gb 0]]/\s.σ r=some (.raw (.deferred (some [])))
def Hl{f:FuncId}{fn fd}(hf:P.funcs[f]?=some fn)(d:P.funcs[A.ng.done]?=some fd)(z:fd.body.isSome=true)(a:(fd.name==  "runtime.NumGoroutine")=false){kk}:vD P (kD P A) gg f fn.ntmps none .deferred [cA P] (Qa P A fn) kk where
 leave k' O' tmps defs s todo n hle hs B e:=by
  obtain⟨b,I,⟨J,c⟩,r,o,p⟩:=e;obtain⟨env,σ,D,rc⟩:=s;simp only at c o p;subst c o;show T P (kD P A) gg k' O' (G ⟨f,tmps,todo,defs,.run,.deferred,none⟩ [cA P]);have g:=hs.ds
  match defs,g with
  | [d1,d2],⟨q,t,_⟩=>
    simp only[sU]at q t;obtain⟨C,E,rfl,i,j⟩:=t;subst q;have e1:C=#[]:=by have:=i.1;simp_all
    have e2:E=#[.pointer (some ⟨A.gb,0,none⟩)]:=by
     obtain⟨v,L,k⟩:=Vs.one j;cases k
     grind
    subst e1 e2;refine T.cZ (g':=G ⟨f,tmps,todo,[{target:=.collected r,args:=#[]},{target:=.fn (.func A.ng.done) #[],args:=#[.pointer (some ⟨A.gb,0,none⟩)]}],.returning,.deferred,none⟩ [cA P]) rfl (λw=>?_) ?_
    . rcases B with⟨rfl,rfl⟩|⟨kk,rfl,rfl⟩|⟨_,_,_,_,rfl⟩
      . simp[G,stepG,stepG.exec]
      . simp[G,stepG,stepG.exec]
      grind
    refine T.BG (fid:=f) (s:=Instr.takeDeferred r) rfl (K:=λcalls u F=>calls=[]/\u=k') (nxt:=λcalls w=>.go (G ⟨f,tmps,todo,calls++[{target:=.fn (.func A.ng.done) #[],args:=#[.pointer (some ⟨A.gb,0,none⟩)]}],.returning,.deferred,none⟩ [cA P]) w) ?_ ?_ ?_
    . rintro calls u F w' _ _ ⟨rfl,rfl⟩
      refine⟨_,rfl,?_⟩
      have hinv:∀w,(invoke (.fn (.func A.ng.done) #[]) #[.pointer (some ⟨A.gb,0,none⟩)]).runT P w #[]=(.ok (.enter A.ng.done #[.pointer (some ⟨A.gb,0,none⟩)]) w,#[]):=λw=>by
       show Sem.runT P (callFunc A.ng.done _) w #[]=_;unfold callFunc;have l:fd.body.isNone=false:=by simp_all
       rw[fN,d];simp only[a,l,LK,Rp];simp
      refine T.cZ (g':=G (Frame.enter P A.ng.done #[.pointer (some ⟨A.gb,0,none⟩)] .deferred) [kg P f tmps todo,cA P]) rfl (λw=>?_) ?_
      . simp only[G,stepG,unwind,callDeferred,hinv,aai]
        simp;rfl
      exact .cY gg rfl ⟨rfl,f,fn,tmps,todo,hf,b,rfl⟩ (λ_ _ _ h=>h.elim)
    . intro w v w' y
      simp only[G,stepG,unwind]
      simp_all
    obtain⟨x,hx,m⟩:=hs.rel.1 r _ p (by simp);cases m with
    |raw _ hc=>unfold Instr.takeDeferred;refine af (s:=getObj r) ⟨_,hx,rfl,?_⟩;exact af (s:=setObj r _) ⟨⟨_,hx,rfl⟩,rfl,ag ⟨rfl,rfl⟩⟩
 panic k' O' tmps defs s todo M N hle hs H e:=by obtain⟨_,h|h,_⟩:=e<;>cases h
def Cy{kk O σ b}(d:Rel kk O σ)(h:σ b=some .gu):Rel kk ai.bot (jv b):=by
 refine⟨λc a e f=>?_,λc a e _=>?_⟩
 . unfold jv at e
   split at e
   . cases e;cases f
   cases e
 unfold jv at e;split at e
 . next q=>subst q;cases e;exact⟨rfl,(d.2 _ _ h rfl).2.1,λl q=>by cases q⟩
 cases e
def Go.GB{m KE ops i rest o fo args c f fn body first cap}(u:ops[i]?=some o)(d:o.op=.go ⟨.value fo,args,c⟩)(v:bT ops n s.env o)(e:Oper.ok n o=true)
 (g:ak s.env fo=.fn (.func f) first cap) (x:P.funcs[f]?=some fn) (hb:fn.body=some body) (j:(fn.name==  "runtime.NumGoroutine")=false) (y:((first++args.toList.map (ak s.env))++cap).length<=fn.ntmps) (l:s.σ A.fb=some .gu) (p:∀kk,vD P (gW P A (A.n-(m+1))) gg f fn.ntmps none .deferred [cA P] KE kk)
 (z:∀B,Go P (gW P A (A.n-(m+1))) f fn.ntmps none [.code body] ⟨dh ((first++args.toList.map (ak s.env))++cap),jv A.fb,[],.told .deferred [cA P] B⟩ KE)
 (h:Go P (ot P A Fin m) fid n ro (.inRegion ops rest::k) {s with env:=bd s.env o.dst .cu} (λ_ _=>False)):Go P (Ee P A Fin m) fid n ro (.inRegion ops (i::rest)::k) s K:=by
 intro Q kk O tmps defs kind cs C b F;obtain⟨G,H,q,r,t⟩:=Cx (P:=P) (fid:=fid) (k:=k) (rest:=rest) (defs:=defs) (kind:=kind) (ro:=ro) (cs:=fy s.rc cs) (m:=Ee P A Fin m) u d b.size b.env v e g;obtain⟨a,D,E⟩:=b.put (fid:=fid) (ro:=ro) (rest:=rest) (kk:=k) (σ':=s.σ) (.refl kk) u (.cu undef) b.rel;refine .cY gg rfl ⟨rfl,_,_,λw _=>t w,Ga (KE:=λ_=>KE) x hb j y (Cy b.rel l) (p _) z q r,?_⟩ (λ_ _ _ h=>h.elim);rw[D];exact h gg kk O a defs kind cs C E .none
def Go.U9(u:A.dir=false){ops i rest o fo args d f fn body first cap}(v:ops[i]?=some o)(e:o.op=.go ⟨.value fo,args,d⟩)(x:bT ops n s.env o)(g:Oper.ok n o=true)
 (j:ak s.env fo=.fn (.func f) first cap) (y:P.funcs[f]?=some fn) (hb:fn.body=some body) (l:(fn.name==  "runtime.NumGoroutine")=false) (z:((first++args.toList.map (ak s.env))++cap).length<=fn.ntmps) (p:s.σ A.fb=some .gu)
 (B:∀C,Go P (wA P A) f fn.ntmps none [.code body] ⟨dh ((first++args.toList.map (ak s.env))++cap),jv A.fb,[],.told .deferred [cA P] C⟩ (λ_ _=>False))
 (h:Go P (qC P A Fin A.n (List.range A.n)) fid n ro (.inRegion ops rest::k) {s with env:=bd s.env o.dst .cu} (λ_ _=>False)):Go P (ot P A Fin 0) fid n ro (.inRegion ops (i::rest)::k) s K:=by
 intro Q kk O tmps defs kind cs D b G;obtain⟨H,I,q,r,t⟩:=Cx (P:=P) (fid:=fid) (k:=k) (rest:=rest) (defs:=defs) (kind:=kind) (ro:=ro) (cs:=fy s.rc cs) (m:=ot P A Fin 0) v e b.size b.env x g j;obtain⟨a,E,F⟩:=b.put (fid:=fid) (ro:=ro) (rest:=rest) (kk:=k) (σ':=s.σ) (.refl kk) v (.cu undef) b.rel;have c:ot P A Fin 0=_:=YA (by simp_all);rw[c];refine .cY gg rfl ⟨rfl,_,_,λw _=>by have:=t w;rw[c]at this;exact this,Ga (KE:=λ_ _ _=>False) y hb l z (Cy b.rel p) .none B q r,?_⟩ (λ_ _ _ h=>h.elim);rw[E];exact h gg kk O a defs kind cs D F .none
def Go.Kk(f:A.dir=false){j ops i rest o ch x fn fd D}(r:ops[i]?=some o)(g:o.op=.send ch x)(l:Oper.ok n o=true)(C:bT ops n s.env o)(p:ak s.env ch=.chan A.cF)(L:ak s.env x=A.res j)
 (t:s.σ A.fb=some .gu) (u:s.rc=.told .deferred [cA P] D) (y:ro=none) (E:P.funcs[fid]?=some fn) (F:n=fn.ntmps) (z:P.funcs[A.ng.done]?=some fd) (B:fd.body.isSome=true) (q:(fd.name==  "runtime.NumGoroutine")=false)
 (h:Go P (kD P A) fid n ro (.inRegion ops rest::k) {s with env:=bd s.env o.dst (.lit undef)} (Qa P A fn)):Go P (gW P A j) fid n ro (.inRegion ops (i::rest)::k) s K:=by
 intro Q kk O tmps defs kind cs H a M;have c:=a.rc;rw[u]at c;obtain⟨rfl,rfl,I⟩:=c;subst y F;obtain⟨d,N,J⟩:=a.put (fid:=fid) (ro:=none) (rest:=rest) (kk:=k) (σ':=s.σ) (.refl kk) r (.lit undef) a.rel;have ht:=h gg kk O d defs .deferred [cA P] H J (Hl E z B q);refine .cY gg rfl (.inr (.inr ⟨f,rfl,(a.rel.2 _ _ t rfl).1,G ⟨fid,tmps,.inRegion ops (i::rest)::k,defs,.run,.deferred,none⟩ (fy s.rc [cA P]),.tuple #[],Frame.eval ⟨fid,tmps,.inRegion ops (i::rest)::k,defs,.run,.deferred,none⟩ x,λw _=>?_,?_,?_⟩)) (λ_ _ _ h=>h.elim)
 . obtain⟨v,_,e,rfl⟩:=xc (P:=P) (m:=gW P A j) (b:=false) r g a.size a.env C l p w (fid:=fid) (ro:=none) (k:=k) (rest:=rest) (defs:=defs) (kind:=.deferred) (cs:=fy s.rc [cA P])
   exact e
 . obtain⟨v,R,_,rfl⟩:=xc (P:=P) (m:=gW P A j) (b:=false) r g a.size a.env C l p default (fid:=fid) (ro:=none) (k:=k) (rest:=rest) (defs:=defs) (kind:=.deferred) (cs:=fy s.rc [cA P])
   simp_all
 show T P (kD P A) gg kk O (G (Frame.finish ⟨fid,tmps,.inRegion ops (i::rest)::k,defs,.run,.deferred,none⟩ undef) (fy s.rc [cA P]))
 simp_all
def Go.Kl{ops i rest o args d fn}(p:ops[i]?=some o)(e:o.op=.call ⟨.value (.func A.ng.wait),args,d⟩)(r:bT ops n s.env o)(f:Oper.ok n o=true)
 (t:P.funcs[A.ng.wait]?=some fn) (hb:fn.body.isSome=true) (g:(fn.name==  "runtime.NumGoroutine")=false) (ha:args.toList.map (ak s.env)=[.ref A.gb 0])
 (h:Go P (qV P A) fid n ro (.inRegion ops rest::k) {s with env:=bd s.env o.dst (.cH [])} (λ_ _=>False)):Go P (wA P A) fid n ro (.inRegion ops (i::rest)::k) s K:=by
 intro Q kk O tmps defs kind cs u j y;refine Eu p e r f t hb g j λl q=>?_
 rw[ha]at q;obtain⟨v,rfl,m⟩:=Vs.one q;cases m;refine .cY gg rfl ⟨rfl,_,_,rfl,λk' c=>?_⟩ (λ_ _ _ h=>h.elim);obtain⟨b,w,x⟩:=j.put (fid:=fid) (ro:=ro) (rest:=rest) (kk:=k) (σ':=s.σ) (v:=.tuple #[]) (a:=.cH []) c p (.cH _ _ rfl λi v a h=>by simp at h) (j.rel.mono c);show T P (qV P A) gg k' O (G (Frame.finish ⟨fid,tmps,.inRegion ops (i::rest)::k,defs,.run,kind,ro⟩ (.tuple #[])) (fy s.rc cs));rw[w];exact h gg k' O b defs kind cs u x .none
def Ev{c s r tm w a ty cs}(h:w.heap[c]?=some (.chan 0 #[] false s r tm)):
 (invoke (.builtin .close a ty cs) #[.chan (some c)]).runT P w #[]=(.ok (.value (.tuple #[])) {w with heap:=w.heap.setIfInBounds c (.chan 0 #[] true s r tm)},#[⟨.obj c,false,true⟩,⟨.obj c,true,true⟩]):=by
 change Sem.runT P (Sem.getObj c _) w #[]=_;rw[Sem.runT,h];change Sem.runT P (Sem.setObj c _ _) w _=_;rw[Sem.runT,h];rfl
def Cz{fr cs x w w' v es}(a:(fr.kind==.early)=false)(h:x.runT P w #[]=(.ok (.value v) w',es))(b:seen P fr.fn es=es):stepG.apply P true fr cs none x w=.go (G (fr.finish v) cs) w' es:=by simp only[stepG.apply,YD,h,a,GStep.after];simp[b,G]
def Go.Ew{ops i rest o ch g fn y}(j:ops[i]?=some o)(e:o.op=.call ⟨.builtin .close,#[ch],g⟩)(l:Oper.ok n o=true)(B:o.guard=none)(a:ak s.env ch=.chan A.cF)
 (f:s.rc=.told .deferred [cA P] y) (z:s.D=[]) (p:ro=none) (C:P.funcs[fid]?=some fn) (E:fn.results=#[]) (F:(Item.inRegion ops rest::k).all zg=true):Go P (qV P A) fid n ro (.inRegion ops (i::rest)::k) s K:=by
 intro Q kk O tmps defs kind cs J d L;obtain⟨env,σ,D,rc⟩:=s;simp only at f z;subst f;subst z;subst p;obtain⟨rfl,rfl,H⟩:=d.rc;have b:defs=[]:=by cases defs with|nil=>rfl|cons _ _=>exact d.ds.elim
 subst b;obtain⟨c,M,R⟩:=d.put (fid:=fid) (ro:=none) (rest:=rest) (kk:=k) (σ':=σ) (v:=.tuple #[]) (.refl kk) j (.cu _) d.rel;obtain⟨N,S⟩:=wZ (tmps:=c) C E _ F
 have q:V kk (Frame.eval ⟨fid,tmps,.inRegion ops (i::rest)::k,[],.run,.deferred,none⟩ ch) (ak env ch):=by
  refine V.eval d.env d.size ch ?_;simp only[Oper.ok,za,YK]at l
  simp_all
 simp only at a;rw[a]at q;generalize t:Frame.eval ⟨fid,tmps,.inRegion ops (i::rest)::k,[],.run,.deferred,none⟩ ch=T at q;cases q;refine .cY gg rfl ⟨rfl,G (Frame.finish ⟨fid,tmps,.inRegion ops (i::rest)::k,[],.run,.deferred,none⟩ (.tuple #[])) [cA P],N,?_,λw s r I U a=>?_,?_⟩ (λ_ _ _ h=>h.elim)
 . simp[mayWake,G,fy,j,e]
 . have u:Region.wanted o (yielded ops tmps)=true:=by simp[Region.wanted,B]
   have x:(execOp (Frame.eval ⟨fid,tmps,.inRegion ops (i::rest)::k,[],.run,.deferred,none⟩) o).runT P w #[]=(.ok (.value (.tuple #[])) {w with heap:=w.heap.setIfInBounds A.cF (.chan 0 #[] true s r I)},#[⟨.obj A.cF,false,true⟩,⟨.obj A.cF,true,true⟩]):=by
    simp only[execOp,e,resolve];have:(#[ch].map (Frame.eval ⟨fid,tmps,.inRegion ops (i::rest)::k,[],.run,.deferred,none⟩))=#[.chan (some A.cF)]:=by simp[t]
    rw[this];exact Ev (cs:=#[]) a
   rw[show fy (Rec.told CallKind.deferred [cA P] y) [cA P]=[cA P]from rfl];refine(dH (m:=qV P A) j u (.inl rfl) w).trans ?_;exact Cz (by simp) x (by simp[seen])
 simp_all
def Go.Gb(L:iT P){m R ops i rest o ct ce x B ch}(y:ops[i]?=some o)(g:o.op=.recv ct ch true)(l:L.tt ct=some x)(p:x.kind=.chan ce)(q:L.tt ce=some B)
 (r:Oper.ok n o=true) (C:bT ops n s.env o) (t:ak s.env ch=.chan A.cF)
 (h:∀j∈R,Go P (qC P A Fin m (R.erase j)) fid n ro (.inRegion ops rest::k) {s with env:=bd s.env o.dst (.cH [A.res j,.lit (.bool true)])} (λ_ _=>False)):Go P (qC P A Fin (m+1) R) fid n ro (.inRegion ops (i::rest)::k) s K:=by
 intro Q kk O tmps defs kind cs D f I;have c:=xe (P:=P) (fid:=fid) (k:=k) (rest:=rest) (defs:=defs) (kind:=kind) (ro:=ro) (cs:=fy s.rc cs) (m:=qC P A Fin (m+1) R) L y g l p q f.size f.env C r t;refine .cY gg rfl ⟨rfl,_,_,λw _=>c w,λw _=>c w,rfl,λj E k' v d J=>?_⟩ (λ_ _ _ h=>h.elim)
 have e:V k' (.tuple #[v,.bool true]) (.cH [A.res j,.lit (.bool true)]):=.cH _ _ rfl λi u a z ha=>by
  match i with
  |0=>simp_all
  |1=>simp at z ha;subst z;subst ha;exact .lit _
  |i+2=>simp at ha
 obtain⟨b,F,H⟩:=f.put (fid:=fid) (ro:=ro) (rest:=rest) (kk:=k) (σ':=s.σ) d y e (f.rel.mono d);show T P (qC P A Fin m (R.erase j)) gg k' O (G (Frame.finish ⟨fid,tmps,.inRegion ops (i::rest)::k,defs,.run,kind,ro⟩ _) (fy s.rc cs));rw[F];exact h j E gg k' O b defs kind cs D H .none
def Go.AT(L:iT P){m I kd f J R ops i rest o ct ce M N ch}(S:ops[i]?=some o)(t:o.op=.recv ct ch true)(v:L.tt ct=some M)(y:M.kind=.chan ce)(z:L.tt ce=some N)
 (B:Oper.ok n o=true) (T:bT ops n s.env o) (C:ak s.env ch=.chan A.cF) (D:s.σ A.fb=some .gu) (g:s.rc=.told kd f J) (j:qD P m fid n ro I kd f J Fin)
 (h:∀a,A.GI a->Go P m fid n ro (.inRegion ops rest::k) {s with env:=bd s.env o.dst (.cH [.cu,.lit (.bool false)]),σ:=(s.σ.set A.mb a).set A.fb (.part (bD A.fo)),rc:=.no} I):Go P (qC P A Fin 0 R) fid n ro (.inRegion ops (i::rest)::k) s K:=by
 intro Q kk O tmps defs kind cs W e X;have l:=xe (P:=P) (fid:=fid) (k:=k) (rest:=rest) (defs:=defs) (kind:=kind) (ro:=ro) (cs:=fy s.rc cs) (m:=qC P A Fin 0 R) L S t v y z e.size e.env T B C;have b:=e.rc;rw[g]at b;obtain⟨rfl,rfl,E⟩:=b;refine .cY gg rfl ⟨rfl,_,_,λw _=>l w,λw _=>l w,rfl,(e.rel.2 _ _ D rfl).2.1,λk' x a c F H=>?_⟩ (λ_ _ _ h=>h.elim)
 have p:V k' (.tuple #[N.zero,.bool false]) (.cH [.cu,.lit (.bool false)]):=.cH _ _ rfl λi u a q ha=>by
  match i with
  |0=>simp at q ha;subst q;subst ha;exact .cu _
  |1=>simp at q ha;subst q;subst ha;exact .lit _
  |i+2=>simp at ha
 obtain⟨d,U,r⟩:=e.put (fid:=fid) (ro:=ro) (rest:=rest) (kk:=k) (σ':=(s.σ.set A.mb a).set A.fb (.part (bD A.fo))) (O':=(O.set A.mb x).set A.fb (.part (bD A.fo))) c S p (((e.rel.mono c).set F).set (.part _));show Fin k' _ (G (Frame.finish ⟨fid,tmps,.inRegion ops (i::rest)::k,defs,.run,kind,ro⟩ _) (fy s.rc cs));rw[U,g];exact j _ _ k' _ d defs (h a H) rfl ⟨r.size,r.env,r.rel,r.ds,trivial⟩ (E.trans c)
def T.SZ{m Q kk O}:∀  n  {g a},iQ P (λ_=>True) n g a->T P m Q kk O a->T P m Q kk O g
 |0,g,a,h,b=>by obtain rfl:g=a:=h;exact b
 |n+1,g,a,⟨c,d,h⟩,b=>.step (λk' O' g'=>k'=kk/\O'=O/\g'=c) d.1 (λk' O' g' e=>by obtain⟨rfl,rfl,rfl⟩:=e;exact T.SZ n h b) λw f=>⟨c,w,#[],kk,O,d.2 _ w trivial,Eff.refl _ _ _,f,rfl,rfl,rfl⟩
def Go.Pg{m todo}(f:m.solo=true)(B:gh)(C:ga P B.ng)(X:il P B.ng)(CM:fQ P B.nm)(XM:fR P B.nm)(F:lO P B.nm){a E σ'}
 (J:B.dir=false->∃tm,s.σ B.cF=some (.raw (.chan 0 #[] false 0 0 tm))) (hG:s.σ B.gb=some (.cells [.lit (.int .u64 0),.lit (.int .u32 0)])) (hL:s.σ B.fb=some (.part E)) (L:E B.fo=some (.int .i32 0)) (M:E (B.fo+1)=some (.int .u32 0)) (N:B.dir=true->∀j,j<B.n->E (B.fo+2+j)≠none)
 (hM:s.σ B.mb=some a) (R:a.gone=false) (S:B.GI a) (U:s.rc=.no) (p:∀d y,σ' d=some y->(d=B.fb/\y=.gu)\/(d≠B.fb/\d≠B.mb/\d≠B.gb/\(B.dir=false->d≠B.cF)/\s.σ d=some y))
 (h:∀  b   hb   Fin   kd   q   k0 ,qD P m fid n ro K kd q k0 Fin ->
   Go P (ot P (B.at b hb) Fin B.n) fid n ro todo {s with σ:=σ',rc:=.told kd q k0} (λ_ _=>False)):Go P m fid n ro todo s K:=by
 intro Q G O tmps defs kind cs h1 c h3;rw[U];refine T.sat rfl λ⟨w,r⟩=>?_
 obtain⟨xG,oG,rG⟩:=c.rel.1 _ _ hG (by simp)
 obtain⟨xM,oM,rM⟩:=c.rel.1 _ _ hM R;have oL:=c.rel.zd hL;cases rG with
 | cells H eg _ q1 q2 q3=>
   have hg:∀(i:Nat) (v:Value),([.lit (.int .u64 0),.lit (.int .u32 0)]:abj)[i]?=some (AV.lit v)->H[i]?=some v:=λi v hv=>by
    have V:i<H.size:=by grind
    have t:=q2 i H[i] _ (by simp[V]) hv
    generalize hq:H[i]=u at t;cases t
    grind
   obtain⟨ec,cc,_,A,_⟩:=r.part _ _ oL
   refine .phase (λk' O' g'=>T P m Q k' O' g') f (λ_ _ _ h=>h) (Ep B C X CM XM F (λhd=>by
    obtain⟨tm,J⟩:=J hd;obtain⟨xF,oF,rF⟩:=c.rel.1 _ _ J (by simp)
    cases rF
    simp_all) oG (hg 0 _ rfl) (hg 1 _ rfl) oL L M N (λn k' O' g' gB h hT=>T.SZ n h hT) oM rM S λb hb=>?_)
   have D:qD P m fid n ro K kind cs G (λk' O' g'=>T P m Q k' O' g'):=λW s' k' O' g k o hn hs Y=>by have:=o Q k' O' g k kind cs h1 hs (h3.mono Y);rw[hn]at this;exact this
   have o:=h b hb _ kind cs G D;refine o gg G _ tmps defs kind cs h1 ⟨c.size,c.env,⟨λd y e I=>?_,λd y e I=>?_⟩,c.ds,rfl,rfl,.refl G⟩ .none
   . rcases p d y e with⟨rfl,rfl⟩|⟨d1,d2,d3,d4,e⟩
     . cases I
     obtain⟨x,z1,Z⟩:=c.rel.1 d y e I;exact⟨x,by simp only[gh.rest];grind,Z⟩
   rcases p d y e with⟨rfl,rfl⟩|⟨d1,d2,d3,d4,e⟩
   . exact⟨by simp[gh.rest],⟨_,A⟩,λl z=>by cases z⟩
   obtain⟨z1,Z⟩:=c.rel.2 d y e I;exact⟨by simp[gh.rest,z1],Z⟩
def Go.bV{m todo}(c:m.solo=true)(B:gh)(p:B.dir=false)(C:ga P B.ng)(X:il P B.ng)(u:fQ P B.nm)(v:fR P B.nm)(F:lO P B.nm){tm a}
 (w:s.σ B.cF=some (.raw (.chan 0 #[] false 0 0 tm))) (x:s.σ B.gb=some (.cells [.lit (.int .u64 0),.lit (.int .u32 0)])) (z:s.σ B.fb=some (.part (bD B.fo))) (A:s.σ B.mb=some a) (j:a.gone=false) (k:B.GI a) (l:s.rc=.no)
 (h:∀  b   hb   Fin   kd   f   r ,qD P m fid n ro K kd f r Fin ->
   Go P (ot P (B.at b hb) Fin B.n) fid n ro todo {s with σ:=((((s.σ.del B.cF).del B.gb).del B.mb).set B.fb .gu),rc:=.told kd f r} (λ_ _=>False)):Go P m fid n ro todo s K:=
 Go.Pg c B C X u v F (λ_=>⟨tm,w⟩) x z (by simp[bD]) (by simp[bD]) (λq=>by simp_all) A j k l (λd y e=>by
  by_cases g:d=B.fb
  . simp_all
  by_cases i:d=B.mb
  . subst i;simp[ab.set,ab.del,g]at e
  by_cases o:d=B.gb
  . subst o;simp[ab.set,ab.del,g,i]at e
  by_cases t:d=B.cF
  . subst t;simp[ab.set,ab.del,g,i,o]at e
  simp only[ab.set,ab.del,g,i,o,t,Rp]at e
  simp_all) h
end
end
open Go.Conc
section
variable{P:abm}{m:Mo}{fid n:Nat}{ro:aaX}{hold:aaV}{K:aaN}{todo:abb}
def Go.Qb{env a σ D rc}(c:∀t,(env t).W (a t))(h:Go P m fid n ro todo ⟨a,σ,D,rc⟩ K):Go P m fid n ro todo ⟨env,σ,D,rc⟩ K:=λQ k O tmps defs kind cs d b e=>h Q k O tmps defs kind cs d ⟨b.size,λt ht=>c t _ _ (b.env t ht),b.rel,b.ds,b.rc⟩ e
def aa.Qb{env a σ D rc}(c:∀t,(env t).W (a t))(h:aa P m fid n ro hold todo ⟨a,σ,D,rc⟩ K):aa P m fid n ro hold todo ⟨env,σ,D,rc⟩ K:=λb=>Go.Qb c (h b)
def aa.MZ{env σ D rc}  t  {a'}(a:(env t).W a') (h:aa P m fid n ro hold todo ⟨env.upd t a',σ,D,rc⟩ K):aa P m fid n ro hold todo ⟨env,σ,D,rc⟩ K:=
 aa.Qb (λu=>by
  by_cases e:u=t
  . simp_all
  . simp only[Env.upd,e,Rp];exact .refl _) h
def Tok.up{σ0 σ σ' a kk es}(h:Tok σ0 σ a kk es)(c:σ.Le σ'):Tok σ0 σ' a kk es:=by
 refine⟨ab.le_trans h.1 c,?_⟩;rcases h.2 with h|h|⟨b,e,d,f,g⟩
 . exact .inl h
 . simp_all
 . exact .inr (.inr ⟨b,e,d,f,c _ _ g⟩)
def aa.bu{env σ D rc}  t  {b l}  v  (hb:σ b=some (.cells l)) (ht:env t=.ref b 0) (c:v.cells=l) (h:aa P m fid n ro hold todo ⟨env.upd t (.cp v 0),σ.del b,D,rc⟩ K):aa P m fid n ro hold todo ⟨env,σ,D,rc⟩ K:=
 aa.freeze b l hb (λu=>Fz.upd (t:=t) (a':=.cp v 0) (by rw[ht];exact .cp 0 0 v (by grind) (λj a h=>by simp_all)) u) (MO.del _ _ _) h
def qY(L:iT P){t f:Nat}{name i info mt a}(ht:L.tt t=some i)(hi:P.info? t=some info)(e:info.methods.find? (·.name==name)=some mt)(g:mt.path.toList=[])(h:mt.func=some (f,false))(j:i.kind=.struct):nC P t name f a a:=by
 intro k O v K Kp l m;have n:Made.depth≠0:=by decide
 obtain⟨N,o⟩:∃N,P.types.size+Made.depth=N+1:=Nat.exists_eq_succ_of_ne_zero (by omega);rw[o];unfold method;refine af (cN L ht λc b _ _ _=>?_);rw[hi]at b;cases b;simp only[e,g];unfold follow;refine af (ag ?_);simp only[h];refine af ?_;unfold receiverAt;refine af (aD L ht λq _ d=>?_);obtain⟨p,rfl,_⟩:=rz d j;simp only[Place.get];exact ag (ag (m _ l))
def ab.Le.none{σ σ':ab}(h:σ.Le σ'){b}(hb:σ' b=Option.none):σ b=Option.none:=by
 cases e:σ b with
 |none=>rfl
 |some x=>rw[h b x e]at hb;cases hb
end
def sT.plain:sT->Bool
 |.part _=>false
 |.gu=>false
 |.stay _=>false
 |.map _=>false
 |_=>true
structure Km(P:abm)(m:Mo)(nm:BV)(b o mb:Nat)(kd:IntKind)(GI:aaL->Prop)(Un:abh)(Ld:ab->aaL->Prop):Prop where
 lock:∀{a:AV}{σ:ab}{KF:aaQ},jh b o a->Un σ->(∀σ' l,Ld σ' l->GI l->(∀c,c≠b->c≠mb->σ' c=σ c)->(∀y,σ mb=some y->y.plain=false)->KF (.val (.cH [])) σ')->aB P m nm.lock [a] σ KF
 unlock:∀{a:AV}{σ:ab}{l:aaL}{KF:aaQ},jh b o a->Ld σ l->GI l->(∀σ',Un σ'->(∀c,c≠b->c≠mb->σ' c=σ c)->KF (.val (.cH [])) σ')->aB P m nm.unlock [a] σ KF
 map:∀{σ:ab}{l:aaL},Ld σ l->σ mb=some (mapA kd l)
 put:∀{σ:ab}{l l':aaL},Ld σ l->Ld (σ.set mb (mapA kd l')) l'
 un:∀{σ σ':ab},(∀c,c=b\/c=mb->(∃x,σ c=some x/\x.plain=false)->σ' c=σ c)->Un σ->Un σ'
 ld:∀{σ σ':ab}{l:aaL},(∀c,c=b\/c=mb->(∃x,σ c=some x/\x.plain=false)->σ' c=σ c)->Ld σ l->Ld σ' l
 Rq:∀{σ:ab},Un σ->∃x,σ b=some x/\x.plain=false
 Wf:∀{σ:ab}{l:aaL},Ld σ l->∃x,σ b=some x/\x.plain=false
def Rr(b o mb:Nat)(kd:IntKind)(GI:aaL->Prop)(σ:ab):Prop:=σ b=some (.part (bD o))/\∃l,σ mb=some (mapA kd l)/\GI l
def Xz(b o mb:Nat)(kd:IntKind)(σ:ab)(l:aaL):Prop:=σ b=some (.part (wV o))/\σ mb=some (mapA kd l)
def Wg(b:Nat)(σ:ab):Prop:=σ b=some .gu
def XA(b mb:Nat)(kd:IntKind)(σ:ab)(l:aaL):Prop:=σ b=some (.part JM)/\σ mb=some (mapA kd l)
section
variable{P:abm}{nm:BV}(C:fQ P nm)(X:fR P nm)(F:lO P nm)
include C X F in
def CA{m:Mo}(hs:m.solo=true){b o mb:Nat}(d:b≠mb){kd:IntKind}{GI:aaL->Prop}:Km P m nm b o mb kd GI (Rr b o mb kd GI) (Xz b o mb kd) where
 lock {a σ k} ha hu h:=by obtain⟨f,l,e,g⟩:=hu;exact Hj C X F hs ha f (h _ l ⟨ab.aj _ _ _,by rw[ab.ah _ _ (zj d)];exact e⟩ g (λc hc _=>ab.ah _ _ hc) (λy hy=>by rw[e]at hy;cases hy;rfl))
 unlock {a σ l k} ha j hg h:=Ct C X F hs ha j.1 (h _ ⟨ab.aj _ _ _,l,by rw[ab.ah _ _ (zj d)];exact j.2,hg⟩ (λc hc _=>ab.ah _ _ hc))
 map h:=h.2
 put {σ l n} h:=⟨by rw[ab.ah _ _ d];exact h.1,ab.aj _ _ _⟩
 un {σ i} he h:=by obtain⟨f,l,e,g⟩:=h;exact⟨by rw[he b (.inl rfl) ⟨_,f,rfl⟩];exact f,l,by rw[he mb (.inr rfl) ⟨_,e,rfl⟩];exact e,g⟩
 ld {σ i l} he h:=⟨by rw[he b (.inl rfl) ⟨_,h.1,rfl⟩];exact h.1,by rw[he mb (.inr rfl) ⟨_,h.2,rfl⟩];exact h.2⟩
 Rq h:=⟨_,h.1,rfl⟩
 Wf h:=⟨_,h.1,rfl⟩
def Kn{A:bJ}(hd:A.dir=false){j:Nat}{kd:IntKind}{GI:aaL->Prop}(g:∀x,A.GI x↔∃l,x=mapA kd l/\GI l):Km P (gW P A j) A.nm A.fb A.fo A.mb kd GI (Wg A.fb) (XA A.fb A.mb kd) where
 lock {a σ i} ha hu h:=Hk hd ha hu λx hx hm=>by obtain⟨l,rfl,d⟩:=(g x).1 hx;exact h _ l ⟨ab.aj _ _ _,by rw[ab.ah _ _ (zj A.d5),ab.aj]⟩ d (λc e f=>by rw[ab.ah _ _ e,ab.ah _ _ f]) (λy hy=>by have:=hm y hy;cases y<;>first|rfl|cases this)
 unlock {a σ l i} ha d hg h:=Cu hd ha d.1 d.2 ((g _).2 ⟨l,rfl,hg⟩) rfl (h _ (ab.aj _ _ _) (λc e f=>by rw[ab.ah _ _ e];simp[ab.del,f]))
 map h:=h.2
 put {σ l k} h:=⟨by rw[ab.ah _ _ A.d5];exact h.1,ab.aj _ _ _⟩
 un {σ b} he h:=by have h:σ A.fb=some .gu:=h;show b A.fb=some .gu;rw[he _ (.inl rfl) ⟨_,h,rfl⟩];exact h
 ld {σ b l} he h:=⟨by rw[he _ (.inl rfl) ⟨_,h.1,rfl⟩];exact h.1,by rw[he _ (.inr rfl) ⟨_,h.2,rfl⟩];exact h.2⟩
 Rq h:=⟨_,h,rfl⟩
 Wf h:=⟨_,h.1,rfl⟩
end
def zh(ft:Nat):Option TypeDesc->Bool
 |some (.struct fs)=>(match fs.toList with|[f]=>f.name !=  "_" && f.type==ft && f.offset==0|_=>false)
 |_=>false
def Jc.of{P:abm}{mt b c ft:Nat}{kd:IntKind}(e:P.underlying mt=some (.map b c))(a:zh ft (P.underlying b)=true)(g:P.underlying ft=some (.int kd))(h:P.stoodInHeld b=false):Jc P mt b c ft kd:=by
 refine⟨e,?_,g,h⟩;generalize P.underlying b=d at a;unfold zh at a;split at a
 . next fs=>
   split at a
   . next f i=>
     simp only[za,bne_iff_ne,ZJ]at a;refine⟨f,?_,a.1.1,a.1.2,a.2⟩;congr 2
     grind
   . cases a
 . cases a
def ou(b mb:Nat)(σ σ':ab):Prop:=∀c x,σ c=some x->c≠b->(c≠mb\/x.plain=true)->σ' c=some x
def ou.refl(b mb:Nat)(σ:ab):ou b mb σ σ:=λ_ _ h _ _=>h
section
variable{P:abm}(L:iT P){m:Mo}{fid n:Nat}{ro:aaX}{hold:aaV}{s:St}{k:abb}{K:aaN}{A:bJ}{Fin:aaG}
def aa.runN  mu   N  {todo}(h:br L m fid n ro mu hold N todo s K):aa P m fid n ro hold todo s K:=λa=>Go.br L mu hold N a h
def aa.tE{c}(h:aa P m fid n ro hold (.code c::.inLoop c::k) s K):aa P m fid n ro hold (.code (.loop c)::k) s K:=λa=>.OK (h (by simpa[js,kB]using a))
def aa.again{c}(b:kB hold c=true)(h:aa P m fid n ro hold (.code c::.inLoop c::k) s K):aa P m fid n ro hold (.inLoop c::k) s K:=λa=>.inLoop (h (by
 simp only[js,Zl,za]at a ⊢
 simp_all))
def aa.bV{todo}(d:m.solo=true)(B:gh)(e:B.dir=false)(C:ga P B.ng)(X:il P B.ng)(l:fQ P B.nm)(o:fR P B.nm)(F:lO P B.nm){tm a}
 (p:s.σ B.cF=some (.raw (.chan 0 #[] false 0 0 tm))) (q:s.σ B.gb=some (.cells [.lit (.int .u64 0),.lit (.int .u32 0)])) (r:s.σ B.fb=some (.part (bD B.fo))) (t:s.σ B.mb=some a) (g:a.gone=false) (i:B.GI a) (j:s.rc=.no)
 (h:∀  b   hb   Fin   kd   c   f ,qD P m fid n ro K kd c f Fin ->
   aa P (ot P (B.at b hb) Fin B.n) fid n ro hold todo {s with σ:=((((s.σ.del B.cF).del B.gb).del B.mb).set B.fb .gu),rc:=.told kd c f} (λ_ _=>False)):aa P m fid n ro hold todo s K:=λk=>
 Go.bV d B e C X l o F p q r t g i j λb hb Fin kd c f u=>h b hb Fin kd c f u k
def aa.Kj{m ops i rest o args a fn}(f:ops[i]?=some o)(b:o.op=.call ⟨.value (.func A.ng.add),args,a⟩)(g:o.guard=none)(c:Oper.ok n o=true)
 (j:P.funcs[A.ng.add]?=some fn) (hb:fn.body.isSome=true) (d:(fn.name==  "runtime.NumGoroutine")=false) (ha:args.toList.map (ak s.env)=[.ref A.gb 0,.lit (.int .i64 1)])
 (h:aa P (Ee P A Fin m) fid n ro hold (.inRegion ops rest::k) {s with env:=bd s.env o.dst (.cH [])} (λ_ _=>False)):aa P (ot P A Fin (m+1)) fid n ro hold (.inRegion ops (i::rest)::k) s K:=λe=>
 Go.Kj f b (bU g) c j hb d ha (h (by simpa[js,kB]using e))
def aa.yi{m ops i rest o fo args b f fn body first cap hold'}(q:ops[i]?=some o)(c:o.op=.go ⟨.value fo,args,b⟩)(r:o.guard=none)(d:Oper.ok n o=true)
 (e:ak s.env fo=.fn (.func f) first cap) (t:P.funcs[f]?=some fn) (hb:fn.body=some body) (g:(fn.name==  "runtime.NumGoroutine")=false) (u:((first++args.toList.map (ak s.env))++cap).length<=fn.ntmps) (j:s.σ A.fb=some .gu) (a:js hold' [.code body]=true)
 (v:∀l,aa P (gW P A (A.n-(m+1))) f fn.ntmps none hold' [.code body] ⟨dh ((first++args.toList.map (ak s.env))++cap),jv A.fb,[],.told .deferred [cA P] l⟩ (λ_ _=>False))
 (h:aa P (ot P A Fin m) fid n ro hold (.inRegion ops rest::k) {s with env:=bd s.env o.dst .cu} (λ_ _=>False)):aa P (Ee P A Fin m) fid n ro hold (.inRegion ops (i::rest)::k) s K:=λp=>
 Go.GB q c (bU r) d e t hb g u j (λ_=>.none) (λl=>v l a) (h (by simpa[js,kB]using p))
def aa.U9(a:A.dir=false){ops i rest o fo args c f fn body first cap hold'}(q:ops[i]?=some o)(d:o.op=.go ⟨.value fo,args,c⟩)(r:o.guard=none)(e:Oper.ok n o=true)
 (g:ak s.env fo=.fn (.func f) first cap) (t:P.funcs[f]?=some fn) (hb:fn.body=some body) (j:(fn.name==  "runtime.NumGoroutine")=false) (u:((first++args.toList.map (ak s.env))++cap).length<=fn.ntmps) (l:s.σ A.fb=some .gu) (b:js hold' [.code body]=true)
 (v:∀m,aa P (wA P A) f fn.ntmps none hold' [.code body] ⟨dh ((first++args.toList.map (ak s.env))++cap),jv A.fb,[],.told .deferred [cA P] m⟩ (λ_ _=>False))
 (h:aa P (qC P A Fin A.n (List.range A.n)) fid n ro hold (.inRegion ops rest::k) {s with env:=bd s.env o.dst .cu} (λ_ _=>False)):aa P (ot P A Fin 0) fid n ro hold (.inRegion ops (i::rest)::k) s K:=λp=>
 Go.U9 a q d (bU r) e g t hb j u l (λm=>v m b) (h (by simpa[js,kB]using p))
def aa.Kk(a:A.dir=false){j ops i rest o ch x fn fd r}(t:ops[i]?=some o)(c:o.op=.send ch x)(d:Oper.ok n o=true)(u:o.guard=none)(e:ak s.env ch=.chan A.cF)(v:ak s.env x=A.res j)
 (f:s.σ A.fb=some .gu) (g:s.rc=.told .deferred [cA P] r) (l:ro=none) (w:P.funcs[fid]?=some fn) (y:n=fn.ntmps) (m:P.funcs[A.ng.done]?=some fd) (p:fd.body.isSome=true) (b:(fd.name==  "runtime.NumGoroutine")=false)
 (h:aa P (kD P A) fid n ro hold (.inRegion ops rest::k) {s with env:=bd s.env o.dst (.lit undef)} (Qa P A fn)):aa P (gW P A j) fid n ro hold (.inRegion ops (i::rest)::k) s K:=λq=>
 Go.Kk a t c d (bU u) e v f g l w y m p b (h (by simpa[js,kB]using q))
def aa.Kl{ops i rest o args a fn}(f:ops[i]?=some o)(b:o.op=.call ⟨.value (.func A.ng.wait),args,a⟩)(g:o.guard=none)(c:Oper.ok n o=true)
 (j:P.funcs[A.ng.wait]?=some fn) (hb:fn.body.isSome=true) (d:(fn.name==  "runtime.NumGoroutine")=false) (ha:args.toList.map (ak s.env)=[.ref A.gb 0])
 (h:aa P (qV P A) fid n ro hold (.inRegion ops rest::k) {s with env:=bd s.env o.dst (.cH [])} (λ_ _=>False)):aa P (wA P A) fid n ro hold (.inRegion ops (i::rest)::k) s K:=λe=>
 Go.Kl f b (bU g) c j hb d ha (h (by simpa[js,kB]using e))
def aa.Ew{ops i rest o ch a fn g}(h:ops[i]?=some o)(b:o.op=.call ⟨.builtin .close,#[ch],a⟩)(c:Oper.ok n o=true)(j:o.guard=none)(d:ak s.env ch=.chan A.cF)
 (e:s.rc=.told .deferred [cA P] g) (l:s.D=[]) (f:ro=none) (m:P.funcs[fid]?=some fn) (p:fn.results=#[]) (q:(Item.inRegion ops rest::k).all zg=true):aa P (qV P A) fid n ro hold (.inRegion ops (i::rest)::k) s K:=λ_=>
 Go.Ew h b c j d e l f m p q
def aa.Gb{m R ops i rest o ct ce l p ch}(q:ops[i]?=some o)(a:o.op=.recv ct ch true)(b:L.tt ct=some l)(c:l.kind=.chan ce)(d:L.tt ce=some p)
 (e:Oper.ok n o=true) (r:o.guard=none) (f:ak s.env ch=.chan A.cF)
 (h:∀j∈R,aa P (qC P A Fin m (R.erase j)) fid n ro hold (.inRegion ops rest::k) {s with env:=bd s.env o.dst (.cH [A.res j,.lit (.bool true)])} (λ_ _=>False)):aa P (qC P A Fin (m+1) R) fid n ro hold (.inRegion ops (i::rest)::k) s K:=λg=>
 Go.Gb L q a b c d e (bU r) f λj t=>h j t (by simpa[js,kB]using g)
def aa.AT{t kd b u R ops i rest o ct ce v w ch}(x:ops[i]?=some o)(d:o.op=.recv ct ch true)(e:L.tt ct=some v)(f:v.kind=.chan ce)(g:L.tt ce=some w)
 (j:Oper.ok n o=true) (y:o.guard=none) (l:ak s.env ch=.chan A.cF) (p:s.σ A.fb=some .gu) (q:s.rc=.told kd b u) (c:qD P m fid n ro t kd b u Fin)
 (h:∀a,A.GI a->aa P m fid n ro hold (.inRegion ops rest::k) {s with env:=bd s.env o.dst (.cH [.cu,.lit (.bool false)]),σ:=(s.σ.set A.mb a).set A.fb (.part (bD A.fo)),rc:=.no} t):aa P (qC P A Fin 0 R) fid n ro hold (.inRegion ops (i::rest)::k) s K:=λr=>
 Go.AT L x d e f g j (bU y) l p q c λa ha=>h a ha (by simpa[js,kB]using r)
end
section
variable{P:abm}(L:iT P){m:Mo}
def aB.Ey{f:FuncId}{fn args σ b body}  mu   hold   N k  (c:P.funcs[f]?=some fn) (hb:fn.body=some body) (e:args.length=k) (d:nz fn k=true) (a:kB hold body=true)
 (h:br L m f fn.ntmps none mu hold N [.code body] ⟨dh args,σ,[],.no⟩ (QH L m fn.results.toList (mO b))):aB P m f args σ b:=by
 simp only[nz,za]at d;refine aB.thaw (aB.intro L c hb (by simp_all) ?_ (Go.br L mu hold N (by simpa[js]using a) h))
 simp_all
variable{fid n:Nat}{ro:aaX}{hold:aaV}{K:aaN}{todo:abb}
@[simp] theorem Rs{mu s}:br L m fid n ro mu hold 0 todo s K=aa P m fid n ro hold todo s K:=propext YP
def aa.jR{env σ D rc}(I:aaO)(a:I env σ)(h:∀env σ,I env σ->aa P m fid n ro hold todo ⟨env,σ,D,rc⟩ K):aa P m fid n ro hold todo ⟨env,σ,D,rc⟩ K:=h env σ a
end
section
variable{P:abm}(L:iT P){o:Oper}{env:Env}{σ:ab}{K:aaP}{Kp:aaP}
def sC{t e:Nat}{x y it g n p}(Q:o.op=.makeSlice t x y)(ht:L.tt t=some it)(R:it.kind=.slice e)(A:L.tt e=some g)(S:g.size=1)(hb:g.bytes<=1024)
 (hz:(kX g.zero).cells=[p]) (T:p.flat=true) (U:ak env x=.lit (.int .i64 n)) (W:ak env y=.lit (.int .i64 n)) (M:0<=n/\n<=1000000)
 (X:∀b,σ b=none->K (.gq b 0 n.toNat n.toNat) (σ.set b (.cells (List.replicate n.toNat p)))):aJ P o env σ K Kp:=
 aJ.val (s:=λB=>Instr.makeSlice t (B x) (B y)) (λB=>by simp[execOp,Q]) λk O B u Y=>by
  have E:=u x (by simp_all)
  have C:=u y (by simp_all)
  rw[U]at E;rw[W]at C;have Z:=c8 E;have e2:=c8 C
  have hw:IntKind.i64.wrap n=n:=by simp[IntKind.wrap,IntKind.signed,IntKind.bits];omega
  have a7:g.zero.cells.size=1:=by obtain⟨_,_,_,_,_,_,h⟩:=L.facts A;omega
  have m:=vM (k:=k) (z:=g.zero) (by simp_all)
  rw[hz]at m;rw[Z,e2];unfold Instr.makeSlice;refine af (aD L ht λd _ hd=>?_)
  rw[bM hd R];dsimp only;refine af (s:=asInt (.int .i64 n)) (ag ?_);refine af (s:=asInt (.int .i64 n)) (ag ?_);refine af (cN L A λinfo _ _ F _=>?_)
  dsimp only;rw[hw]
  have G:((decide (n<0)||decide ((info.bytes:Int)*n>2 ^ 48))||decide (n<0)||decide (n>n))=false:=by
   have q:(info.bytes:Int)*n<=1024*1000000:=by rw[F];exact Int.mul_le_mul (by omega) M.2 M.1 (by omega)
   grind
  simp only[G,LK,Rp];refine af (oJ ?_);refine af (bF L A ?_);rw[S]
  have j:∀zero:aaS,(n.toNat≠0->zero=g.zero.cells)->dD P (do let a <-newRow e ((Array.range (n.toNat*1)).map (zero[· % zero.size]!));pure (Value.slice (some a) n.toNat n.toNat)) k O (λv k' O'=>lQ k' O' λH O2=>k.Le H/\∃a c,V H v a/\Rel H O2 c/\K a c) (λv k' O'=>k.Le k'/\∃a c,V k' v a/\Rel k' O' c/\Kp a c):=λzero hzero=>by
   have f:∀(i:Nat) v,((Array.range (n.toNat*1)).map (zero[· % zero.size]!))[i]?=some v->i<n.toNat/\g.zero.cells[0]?=some v:=λi v D=>by grind
   refine af (iW (l:=List.replicate n.toNat p) Y (by simp) (λi v a D ha=>?_) (λi v D=>?_) λr k' O' I J w=>ag (.here ⟨J,.gq r 0 n.toNat n.toNat,_,.gq ..,w,X r I⟩))
   . obtain⟨E,C⟩:=f i v D
     have:a=p:=(List.mem_replicate.1 (List.mem_of_getElem? ha)).2;subst this;exact m.2.1 0 v a C rfl
   exact m.2.2 0 v (f i v D).2
  by_cases N:n.toNat*1=0
  . rw[YG N]
    refine af (ag ?_);exact j _ (λh=>by omega)
  rw[YA N];refine af (cM L A (af (ag ?_)));exact j _ (λ_=>rfl)
end
section
variable{P:abm}{m:Mo}{fid n:Nat}{ro:aaX}{hold:aaV}{K:aaN}{todo:abb}
def aa.NW{env σ D rc b d i l cs es sp at_}(hd:d≠b)(hb:σ b=some (.cells l))(z:∀e∈l,e.cells=[e])(A:σ d=some (.cells cs))(f:cs[at_]?=some (.sl 1 es sp))(q:∀e∈es,e.cells=[e])(hi:es[i]?=some (.gq b 0 l.length l.length))
 (B:aa P m fid n ro hold todo ⟨env,(σ.del b).set d (.cells (cs.set at_ (.sl 1 (es.set i (.sl 1 l .any)) sp))),D,rc⟩ K):aa P m fid n ro hold todo ⟨env,σ,D,rc⟩ K:=by
 have C:=ja z;refine aa.freeze b l hb (λu=>.refl _) (λy x o=>?_) B;by_cases e:y=d
 . subst e
   simp[ab.set]at o;subst o;refine⟨hd,.inr ⟨cs,_,A,rfl,by simp,λj a E r g=>?_⟩⟩;by_cases t:j=at_
   . subst t
     rw[f]at r;cases r;have c:=(YJ.1 f).1;rw[Zx c]at g;cases g;refine .rows es _ sp (by simp) q (λx v=>?_) (λp a E s k=>?_)
     . rcases ZR v with v|rfl
       . simp_all
       rfl
     by_cases w:p=i
     . subst w
       rw[hi]at s;cases s;have c:=(YJ.1 hi).1;rw[Zx c]at k;cases k;exact .sl 0 l.length 1 l .any (YF _) (by omega) (λe F=>by simp_all) (λj a h=>by simp_all) (.inl rfl)
     rw[Zv (zj w)]at k;rw[s]at k;cases k;exact .refl _
   rw[Zv (zj t)]at g;rw[r]at g;cases g;exact .refl _
 rw[ab.ah _ _ e]at o;unfold ab.del at o
 simp_all
end
section
variable{P:abm}{m:Mo}{fid n:Nat}{ro:aaX}{hold:aaV}{s:St}{k todo:abb}{K:aaN}
def aa.goto{l}(b:gotoIn l k=some todo)(a:js hold todo=true)(h:aa P m fid n ro hold todo s K):aa P m fid n ro hold (.code (.goto l)::k) s K:=λ_=>Go.cZ (λ_ _ _ _ _=>by simp[G,stepG,stepG.exec,b]) (h a)
def aa.lower(I:Nat->St->Prop)  a  (c:I a s) (d:∀a s,I a s->(∀a' s',a'<a->I a' s'->aa P m fid n ro hold todo s' K)->aa P m fid n ro hold todo s K):aa P m fid n ro hold todo s K:=by
 have key:∀b a s,a<b->I a s->aa P m fid n ro hold todo s K:=λb=>by
  induction b with
  |zero=>omega
  |succ b e=>grind
 grind
end
section
variable{P:abm}(L:iT P){o:Oper}{env:Env}{σ:ab}{K:aaP}{Kp:aaP}
def Hm{t b off:Nat}{p x i f v0 u}(m:o.op=.store t p x)(ht:L.tt t=some i)(n:i.size=1)(q:jh b off (ak env p))(r:ak env x=.lit u)(d:flat u=true)(c:σ b=some (.part f))(w:f off=some v0)
 (y:K (.lit undef) (σ.set b (.part λj=>if j=off then some u else f j))):aJ P o env σ K Kp:=λk O g h l=>by
 have e:=q _ _ (h p (by simp_all));have a:=h x (by simp_all);rw[r]at a;generalize z:g x=v at a;cases a;have:execOp g o=(do storeVar t ⟨b,off,none⟩ u;pure .skip):=by simp[execOp,m,Instr.storeAt,e,Instr.sureAddr,z]
 rw[this];have A:u.cells=#[u]:=by cases u<;>first|rfl|cases d
 refine af ?_;unfold storeVar;refine af (bF L ht ?_);rw[YA (by simp_all)];refine af (ag ?_);rw[A];unfold storeCells;refine af (s:=store ⟨b,off,none⟩ u) ⟨rfl,d,rfl,.inr (.inr ⟨f,v0,l.zd c,w,?_⟩)⟩;unfold storeCells;exact ag (ag ⟨undef,.inr ⟨rfl,rfl⟩,.here ⟨.refl k,.lit undef,_,.lit _,l.set (.part _),y⟩⟩)
end
def ao.lC(k:ao)(r n:Nat)(v:Value):ao:={k with cell:=λb j=>if b=r/\j=n then some v else k.cell b j}
def AU(f:Nat->aaR)(n:Nat):Nat->aaR:=λi=>if i=n then none else f i
def zi{f n i u}(h:AU f n i=some u):f i=some u/\i≠n:=by
 unfold AU at h
 simp_all
def AW{f n i}(h:AU f n i≠none):f i≠none/\i≠n:=by
 cases q:AU f n i with
 |none=>simp_all
 |some u=>have:=zi q;simp_all
def CB{k O r n v f}(l:O r=some (.part f))(E:f n=some v):km k O (k.lC r n v) (O.set r (.part (AU f n))):=λw h=>by
 obtain⟨c,e,B,F,C⟩:=h.part _ _ l
 have G:k.cell r n=none:=by
  cases q:k.cell r n with
  |none=>rfl
  |some u=>exact(h.apart _ _ _ q (.inr (.inr ⟨_,l,by grind⟩))).elim
 have z:k.Le (k.lC r n v):=⟨λb i u j=>by
  have:¬(b=r/\i=n):=λx=>by simp_all
  simpa[ao.lC,this]using j,λ_ _ h=>h⟩
 have p:∀b,b≠r->(O.set r (.part (AU f n))) b=O b:=λb hb=>by simp[ai.set,hb]
 have a:(O.set r (.part (AU f n))) r=some (.part (AU f n)):=by simp[ai.set]
 refine⟨⟨λb i u j D=>?_,λb i u j=>?_,h.sh,λb o hb=>?_,λb m hb=>?_,λb g hb=>?_⟩,⟨z,YF _,λ_ _ _=>rfl,λ_ _ _ _ c _ h=>⟨c,h,rfl,λ_ _=>rfl⟩,λ_ _ _ _ c _ h=>⟨c,h,rfl,λ_ _=>rfl⟩,λ_ _=>rfl,λb x t=>?_,λb i u j=>?_,λ_ _ h=>.inl h,by simp,rfl,rfl,rfl,by simp,λb g hb=>?_⟩⟩
 . have s:aR O b i/\¬(b=r/\i=n):=by
    by_cases hb:b=r
    . subst hb
      rcases D with⟨o,y⟩|⟨m,y,A⟩|⟨g,y,A⟩
      . simp_all
      . simp_all
      . rw[a]at y;cases y
        exact⟨.inr (.inr ⟨f,l,(AW A).1⟩),λx=>(AW A).2 x.2⟩
    . exact⟨by simpa[aR,ai.set,hb]using D,λx=>hb x.1⟩
   exact h.apart b i u (by simpa[ao.lC,s.2]using j) s.1
 . by_cases hb:b=r/\i=n
   . obtain⟨rfl,rfl⟩:=hb
     simp only[ao.lC,and_self,YD,kn]at j;subst j;simp[World.cell?,B,C _ _ E]
   . exact h.cell b i u (by simpa only[ao.lC,hb,Rp]using j)
 . by_cases d:b=r
   . simp_all
   . exact h.obj b o (by simp_all)
 . by_cases d:b=r
   . simp_all
   . exact h.tail b m (by simp_all)
 . by_cases d:b=r
   . subst d;rw[a]at hb;cases hb
     exact⟨c,e,B,F,λi u j=>C i u (zi j).1⟩
   . exact h.part b g (by simp_all)
 . by_cases d:b=r
   . subst d
     rw[a]at t;cases t;exact .inl ⟨_,l,λi H=>(AW H).1⟩
   . rw[p b d]at t;exact .inl ⟨x,t,.refl x⟩
 . by_cases hb:b=r/\i=n
   . obtain⟨rfl,rfl⟩:=hb;exact .inr (.inl (.inr (.inr ⟨f,l,by grind⟩)))
   . exact .inl (by simpa only[ao.lC,hb,Rp]using j)
 grind
section
variable{P:abm}{fid n:Nat}{ro:aaX}{s:St}{k:abb}{K:aaN}{A:bJ}{Fin:aaG}{j:Nat}
def bJ.own(A:bJ)(j:Nat)(v:Value):Nat->aaR:=λi=>if i=A.cell j then some v else none
def Ez(hd:A.dir=true){l h}(r:A.cell j<l.length){σ q}(d:σ A.fb=some .gu)(s:∀x v,A.GI x->(∀y,σ A.mb=some y->y.gone=true)->q (.val (.cH [])) ((σ.set A.mb x).set A.fb (.part (A.own j v)))):aB P (gW P A j) A.nm.lock [.kp A.fb l h A.fo] σ q:=by
 intro Q k O e c rest kind t w g B I;obtain⟨v,rfl,C⟩:=w.one;cases C with
 | kp _ _ N E _ _ J D F _ _=>
   obtain⟨G,_,_⟩:=g.2 _ _ d rfl;refine .cY (λk' O' g'=>T P (gW P A j) Q k' O' g') rfl (.inl ⟨kind,c,rest,_,t,rfl,G,D,λ_=>YU r F,λk' x y f b m n H o=>?_⟩) (λ_ _ _ h=>h)
   obtain⟨u,rfl⟩:∃u,f=A.own j u:=by unfold bJ.Tk at o;rw[YG hd]at o;exact o
   refine B k' _ (.tuple #[]) (.cH []) _ b (.cH _ _ rfl λi v a h=>by simp at h) (((g.mono b).set m).set (.part _)) (s y u n λz hz=>?_)
   cases p:z.gone with
   |true=>rfl
   | false=>
     obtain⟨K,L,_⟩:=g.1 _ z hz p
     simp_all
def Qc(P:abm)(A:bJ)(j:Nat)(fn:Func):aaN:=λe s=>fn.results=#[]/\(e=.leave none\/e=.leave (some .ret))/\(∃a,s.rc=.told .deferred [cA P] a)/\∃pl f y,jh A.fb A.fo pl/\s.D=[.call (.func A.nm.unlock) [] [pl],.call (.func A.ng.done) [] [.ref A.gb 0]]/\
 s.σ A.fb=some (.part f)/\f (A.cell j)=some (A.val j)/\s.σ A.mb=some y/\A.GI y/\y.gone=false
def S3{k d f a}(h:sU k d (.call f [] [a])):∃v,V k v a/\d={target:=.fn f #[],args:=#[v]}:=by
 obtain⟨g,i,rfl,b,c⟩:=h;have j:g=#[]:=by have:=b.1;simp_all
 obtain⟨v,l,e⟩:=Vs.one c;exact⟨v,e,by rw[j,show i=#[v]by grind]⟩
def Ko{f fd v g tmps todo ds cs}(d:P.funcs[f]?=some fd)(hb:fd.body.isSome=true)(a:(fd.name==  "runtime.NumGoroutine")=false){b}  w :
 stepG P b (G ⟨g,tmps,todo,{target:=.fn (.func f) #[],args:=#[v]}::ds,.returning,.deferred,none⟩ cs) w=.go (G (Frame.enter P f #[v] .deferred) (⟨g,tmps,todo,ds,.returning,.deferred,none⟩::cs)) w #[]:=by
 have hinv:∀w,(invoke (.fn (.func f) #[]) #[v]).runT P w #[]=(.ok (.enter f #[v]) w,#[]):=λw=>by
  show Sem.runT P (callFunc f _) w #[]=_;unfold callFunc;have c:fd.body.isNone=false:=by simp_all
  rw[fN,d];simp only[a,c,LK,Rp];simp
 simp only[G,stepG,unwind,callDeferred,hinv];simp;rfl
def Hn(hd:A.dir=true){f:FuncId}{fn fd i}(hf:P.funcs[f]?=some fn)(k:P.funcs[A.ng.done]?=some fd)(l:fd.body.isSome=true)(b:(fd.name==  "runtime.NumGoroutine")=false)(n:P.funcs[A.nm.unlock]?=some i)(o:i.body.isSome=true)(c:(i.name==  "runtime.NumGoroutine")=false){kk}:
 vD P (gW P A j) gg f fn.ntmps none .deferred [cA P] (Qc P A j fn) kk where
 leave k' O' tmps defs s todo F hle hs J p:=by
  obtain⟨d,O,⟨Q,e⟩,pl,K,y,q,H,g,a,Br,r,t⟩:=p;obtain⟨env,σ,D,rc⟩:=s;simp only at e H g Br;subst e H;show T P (gW P A j) gg k' O' (G ⟨f,tmps,todo,defs,.run,.deferred,none⟩ [cA P]);have u:=hs.ds
  match defs,u with
  | [d1,d2],⟨L,M,_⟩=>
    obtain⟨v1,v,rfl⟩:=S3 L;obtain⟨v2,z,rfl⟩:=S3 M;cases z;obtain rfl:=q _ _ v;obtain⟨x,hx,B⟩:=hs.rel.1 _ _ Br t;have I:=hs.rel.zd g;refine T.cZ (g':=G ⟨f,tmps,todo,[{target:=.fn (.func A.nm.unlock) #[],args:=#[.pointer (some ⟨A.fb,A.fo,none⟩)]},{target:=.fn (.func A.ng.done) #[],args:=#[.pointer (some ⟨A.gb,0,none⟩)]}],.returning,.deferred,none⟩ [cA P]) rfl (λw=>?_) ?_
    . rcases J with⟨rfl,rfl⟩|⟨kk,rfl,rfl⟩|⟨_,_,_,_,rfl⟩
      . simp[G,stepG,stepG.exec]
      . simp[G,stepG,stepG.exec]
      grind
    refine T.cZ rfl (λw=>Ko n o c w) (T.sat rfl λ⟨w,hw⟩=>?_);have C:=((CB I a) w hw).2.le;refine .ghost (CB I a) ?_;have E:A.mb≠A.fb:=zj A.d5;refine .cY gg rfl (.inr (.inl ⟨.deferred,_,_,AU K (A.cell j),x,y,by simp,rfl,by simp[ai.set],by simp only[ai.set,E,Rp];exact hx,B.mono C,r,λ_=>by simp[ao.lC],?_⟩)) (λ_ _ _ h=>h.elim);rw[show Dw P A gg=T P (kD P A) gg by simp[Dw,hd]];refine T.cZ (m:=kD P A) rfl (λw=>Ko k l b w) ?_;exact .cY gg rfl ⟨rfl,f,fn,tmps,todo,hf,d,rfl⟩ (λ_ _ _ h=>h.elim)
 panic k' O' tmps defs s todo R S hle hs N p:=by obtain⟨_,h|h,_⟩:=p<;>cases h
def aa.OP(hd:A.dir=true){m ops i rest o fo args d f fn fd e body first cap hold hold'}(z:ops[i]?=some o)(g:o.op=.go ⟨.value fo,args,d⟩)(B:o.guard=none)(j:Oper.ok n o=true)
 (l:ak s.env fo=.fn (.func f) first cap) (y:P.funcs[f]?=some fn) (hb:fn.body=some body) (p:(fn.name==  "runtime.NumGoroutine")=false) (C:((first++args.toList.map (ak s.env))++cap).length<=fn.ntmps) (q:s.σ A.fb=some .gu) (a:js hold' [.code body]=true)
 (r:P.funcs[A.ng.done]?=some fd) (t:fd.body.isSome=true) (b:(fd.name==  "runtime.NumGoroutine")=false) (u:P.funcs[A.nm.unlock]?=some e) (v:e.body.isSome=true) (c:(e.name==  "runtime.NumGoroutine")=false)
 (D:∀w,aa P (gW P A (A.n-(m+1))) f fn.ntmps none hold' [.code body] ⟨dh ((first++args.toList.map (ak s.env))++cap),jv A.fb,[],.told .deferred [cA P] w⟩ (Qc P A (A.n-(m+1)) fn))
 (h:aa P (ot P A Fin m) fid n ro hold (.inRegion ops rest::k) {s with env:=bd s.env o.dst .cu} (λ_ _=>False)):aa P (Ee P A Fin m) fid n ro hold (.inRegion ops (i::rest)::k) s K:=λx=>
 Go.GB z g (bU B) j l y hb p C q (λ_=>Hn hd y r t b u v c) (λw=>D w a) (h (by simpa[js,kB]using x))
def NX{kk v b off l e hole d}(hlen:e.length=l.length)(m:∀j,j<l.length->j∉d->(j∉hole/\e[j]?=l[j]?)\/∃u,kk.cell b j=some u/\flat u=true/\e[j]?=some (.lit u))(h:V kk v (.kp b l hole off)):V kk v (.kp b e d off):=by
 cases h with
 | kp _ _ N E _ _ c n p q r=>
   have key:∀j,∃u,j<l.length->j∉d->(kk.cell b j=some u/\flat u=true)/\∀a,e[j]?=some a->V kk u a:=λj=>by
    by_cases f:j<l.length/\j∉d
    . rcases m j f.1 f.2 with⟨i,k⟩|⟨u,i,k,o⟩
      . grind
      . exact⟨u,λ_ _=>⟨⟨i,k⟩,λa ha=>by rw[o]at ha;cases ha;exact .lit _⟩⟩
    simp_all
   refine .kp b off N E e d (λj=>(key j).choose) n (by omega) (λj f g=>((key j).choose_spec (by omega) g).1) (λj a g ha=>((key j).choose_spec (by grind) g).2 a ha)
def Go.Kr(f:A.dir=true){m J kd g L ops i rest o args u fn b}(M:ops[i]?=some o)(w:o.op=.call ⟨.value (.func A.ng.wait),args,u⟩)(R:bT ops n s.env o)(y:Oper.ok n o=true)
 (S:P.funcs[A.ng.wait]?=some fn) (hb:fn.body.isSome=true) (z:(fn.name==  "runtime.NumGoroutine")=false) (ha:args.toList.map (ak s.env)=[.ref A.gb 0]) (B:s.σ A.fb=some .gu) (l:s.rc=.told kd g L) (p:qD P m fid n ro J kd g L Fin)
 (T:∀kk,(∀j,j<A.n->kk.cell A.fb (A.cell j)=some (A.val j))->∀t v,V kk v (bd s.env o.dst (.cH []) t)->V kk v (b t))
 (h:∀a,A.GI a->Go P m fid n ro (.inRegion ops rest::k) {s with env:=b,σ:=(s.σ.set A.mb a).set A.fb (.part (bD A.fo)),rc:=.no} J):Go P (ot P A Fin 0) fid n ro (.inRegion ops (i::rest)::k) s K:=by
 intro Q kk O tmps defs kind cs W q X;refine Eu M w R y S hb z q λC N=>?_
 rw[ha]at N;obtain⟨v,rfl,D⟩:=Vs.one N;cases D;have c:=q.rc;rw[l]at c;obtain⟨rfl,rfl,E⟩:=c;rw[show ot P A Fin 0=_ from YG f];refine .cY gg rfl ⟨rfl,_,_,rfl,(q.rel.2 _ _ B rfl).2.1,λk' x a d F H I=>?_⟩ (λ_ _ _ h=>h.elim);obtain⟨e,U,r⟩:=q.put (fid:=fid) (ro:=ro) (rest:=rest) (kk:=k) (σ':=(s.σ.set A.mb a).set A.fb (.part (bD A.fo))) (O':=(O.set A.mb x).set A.fb (.part (bD A.fo))) (v:=.tuple #[]) (a:=.cH []) d M (.cH _ _ rfl λi v a h=>by simp at h) (((q.rel.mono d).set H).set (.part _));show Fin k' _ (G (Frame.finish ⟨fid,tmps,.inRegion ops (i::rest)::k,defs,.run,kind,ro⟩ (.tuple #[])) (fy s.rc cs));rw[U,l];exact p _ _ k' _ e defs (h a I) rfl ⟨r.size,λt ht=>T k' F t _ (r.env t ht),r.rel,r.ds,trivial⟩ (E.trans d)
def aa.Kr(c:A.dir=true){m hold w kd d x ops i rest o args f fn}  b  (y:ops[i]?=some o) (g:o.op=.call ⟨.value (.func A.ng.wait),args,f⟩) (z:o.guard=none) (l:Oper.ok n o=true)
 (B:P.funcs[A.ng.wait]?=some fn) (hb:fn.body.isSome=true) (p:(fn.name==  "runtime.NumGoroutine")=false) (ha:args.toList.map (ak s.env)=[.ref A.gb 0]) (q:s.σ A.fb=some .gu) (r:s.rc=.told kd d x) (e:qD P m fid n ro w kd d x Fin)
 (C:∀kk,(∀j,j<A.n->kk.cell A.fb (A.cell j)=some (A.val j))->∀t v,V kk v (bd s.env o.dst (.cH []) t)->V kk v (b t))
 (h:∀a,A.GI a->aa P m fid n ro hold (.inRegion ops rest::k) {s with env:=b,σ:=(s.σ.set A.mb a).set A.fb (.part (bD A.fo)),rc:=.no} w):aa P (ot P A Fin 0) fid n ro hold (.inRegion ops (i::rest)::k) s K:=λu=>
 Go.Kr c y g (bU z) l B hb p ha q r e C λa ha=>h a ha (by simpa[js,kB]using u)
def aa.S4{m todo hold}(f:m.solo=true)(B:gh)(x:B.dir=true)(C:ga P B.ng)(X:il P B.ng)(A:fQ P B.nm)(D:fR P B.nm)(F:lO P B.nm){a g}
 (E:s.σ B.gb=some (.cells [.lit (.int .u64 0),.lit (.int .u32 0)])) (G:s.σ B.fb=some (.part g)) (k:g B.fo=some (.int .i32 0)) (l:g (B.fo+1)=some (.int .u32 0)) (o:∀j,j<B.n->g (B.fo+2+j)≠none) (H:s.σ B.mb=some a) (p:a.gone=false) (r:B.GI a) (t:s.rc=.no)
 (h:∀  b   hb   Fin   kd   c   i ,qD P m fid n ro K kd c i Fin ->
   aa P (ot P (B.at b hb) Fin B.n) fid n ro hold todo {s with σ:=((s.σ.del B.gb).del B.mb).set B.fb .gu,rc:=.told kd c i} (λ_ _=>False)):aa P m fid n ro hold todo s K:=λu=>
 Go.Pg f B C X A D F (λq=>by simp_all) E G k l (λ_=>o) H p r t (λd y e=>by
  by_cases v:d=B.fb
  . simp_all
  by_cases w:d=B.mb
  . subst w;simp[ab.set,ab.del,v]at e
  by_cases z:d=B.gb
  . subst z;simp[ab.set,ab.del,v,w]at e
  simp only[ab.set,ab.del,v,w,z,Rp]at e
  simp_all) λb hb Fin kd c i I=>h b hb Fin kd c i I u
end
structure S5(P:abm)(t ft:Nat):Prop where
 hk:∃f g,P.underlying t=some (.struct #[f,g])/\(f.name≠ "_"/\f.type=ft/\f.offset=0)/\(g.name≠ "_"/\g.type=ft/\g.offset=1)
 hf:P.underlying ft=some (.int .i64)
 hs:P.stoodInHeld t=false
 hg:P.eqGuardType P.depth t=false
section
variable{P:abm}(L:iT P){k:ao}{O:ai}{Kp:aaH}{t ft:Nat}
def zk{K i c n v}(ht:L.tt ft=some i)(ha:i.agg=false)(a:c[n]?=some v)(h:K v k O):dD P (part ft c n) k O K Kp:=by unfold part;refine af (pL L ht ?_);rw[ha];simp only[LK,Rp];rw[a];exact ag h
variable(M:S5 P t ft){i:TI}(ht:L.tt ft=some i)(ha:i.agg=false)
include M ht ha
end
structure Ph(P:abm)(t ft:Nat):Prop where
 hk:P.underlying t=some (.array 4 ft)
 hf:P.underlying ft=some (.int .i64)
 hg:P.eqGuardType P.depth t=false
section
variable{P:abm}(L:iT P){k:ao}{O:ai}{Kp:aaH}{t ft:Nat}
variable(M:Ph P t ft){i:TI}(ht:L.tt ft=some i)(ha:i.agg=false)(hz:i.size=1)
include M
theorem NY{K a b}(h:K (a==b) k O):dD P (Op.equalIn 9999 ft (.int .i64 a) (.int .i64 b)) k O K Kp:=by show dD P (Op.equalIn (9998+1) ft _ _) k O K Kp;rw[Op.equalIn];refine af (de M.hf ?_);exact ag h
include ht ha
theorem vo{β K x y n a b}{f:Bool->Sem β}(c:x[n]?=some (.int .i64 a))(d:y[n]?=some (.int .i64 b))(h:dD P (f (a==b)) k O K Kp):dD P (do let p <-part ft x n;let q <-part ft y n;let r <-Op.equalIn 9999 ft p q;f r) k O K Kp:=af (zk L ht ha c (af (zk L ht ha d (af (NY M h)))))
include hz
theorem EA{K a b c d a' b' c' d'}(h:K (a==a' && (b==b' && (c==c' && d==d'))) k O):dD P (Op.equal t (.agg #[.int .i64 a,.int .i64 b,.int .i64 c,.int .i64 d]) (.agg #[.int .i64 a',.int .i64 b',.int .i64 c',.int .i64 d'])) k O K Kp:=by
 show dD P (Op.equalIn (9998+1+1) t _ _) k O K Kp;rw[Op.equalIn];refine af (de M.hk ?_);refine af (bF L ht ?_);rw[hz];simp only[Std.Legacy.Range.forIn_eq_forIn_range',Std.Legacy.Range.size,List.range',Nat.reduceAdd,Nat.reduceSub,Nat.reduceDiv,aah,aao];refine af (af (vo L M ht ha rfl rfl ?_));cases e:(a==a')with
 |false=>rw[e]at h;exact ag (ag (ag h))
 |true=>
 rw[e]at h;refine ag (af (vo L M ht ha rfl rfl ?_));cases f:(b==b')with
 |false=>rw[f]at h;exact ag (ag (ag h))
 |true=>
 rw[f]at h;refine ag (af (vo L M ht ha rfl rfl ?_));cases g:(c==c')with
 |false=>rw[g]at h;exact ag (ag (ag h))
 |true=>
 rw[g]at h;refine ag (af (vo L M ht ha rfl rfl ?_));cases i:(d==d')with
 |false=>rw[i]at h;exact ag (ag (ag h))
 |true=>rw[i]at h;exact ag (ag (ag h))
omit M ht ha hz in
theorem CC{c x y z w}(h:V k c (.agg [.lit (.int .i64 x),.lit (.int .i64 y),.lit (.int .i64 z),.lit (.int .i64 w)])):c=.agg #[.int .i64 x,.int .i64 y,.int .i64 z,.int .i64 w]:=by
 cases h with
 | agg c l b a=>
   obtain⟨d⟩:=c
   match d,b,a with
   |[p,q,r,s],_,a=>have e:=a 0 p _ rfl rfl;have f:=a 1 q _ rfl rfl;have g:=a 2 r _ rfl rfl;have i:=a 3 s _ rfl rfl;cases e;cases f;cases g;cases i;rfl
theorem EB{o env σ K Kp}{i:Nat}{x y a b c d a' b' c' d'}(j:o.op=.binOp .neq t x y i)(l:ak env x=.agg [.lit (.int .i64 a),.lit (.int .i64 b),.lit (.int .i64 c),.lit (.int .i64 d)])(m:ak env y=.agg [.lit (.int .i64 a'),.lit (.int .i64 b'),.lit (.int .i64 c'),.lit (.int .i64 d')])
 (n:K (.lit (.bool (!(a==a' && (b==b' && (c==c' && d==d')))))) σ):aJ P o env σ K Kp:=
 aJ.val (s:=λe=>do eqGuard .neq t x y (e x) (e y);binOp .neq t (e x) (e y)) (λe=>by simp[execOp,j]) λk O e f p=>by
  have g:=f x (by simp_all);have h:=f y (by simp_all);rw[l]at g;rw[m]at h;rw[CC g,CC h];refine af (?_:dD P (eqGuard .neq t x y _ _) k O _ _);unfold eqGuard;simp only[Bool.not_true,LK,Rp];refine af (bY (af ?_));refine bY ?_;rw[M.hg];refine ag ?_;exact af (s:=Op.equal t _ _) (EA L M ht ha hz (ag (.here ⟨.refl k,_,σ,.lit _,p,n⟩)))
end
section
variable{P:abm}{m:Mo}{fid n:Nat}{ro:aaX}{hold:aaV}{s:St}{K:aaN}{k:abb}
def aa.op{ops i rest o}(f:ops[i]?=some o)(g:bT ops n s.env o)(b:Oper.ok n o=true)(d:∀c,o.op≠.defer c)
 (h:aJ P o s.env s.σ (λa σ'=>aa P m fid n ro hold (.inRegion ops rest::k) {s with env:=bd s.env o.dst a,σ:=σ'} K) (λa σ'=>K (.panic a) {s with σ:=σ'})):
 aa P m fid n ro hold (.inRegion ops (i::rest)::k) s K:=λe=>Go.op f g b d (h.mono λa σ' q=>q (by simpa[js,kB]using e))
end

import Derived.Test.YtebcbkhnlnkolaaGreatDoorC12
set_option linter.all false
namespace Go.ck
section
open Go.Conc
open Go.ConcN (sumTo upd sumTo_upd upd_ne upd_same)
def runNT_add{P}:∀  a b   m m1   t c ,runNT P a m t=(.next m1,c)->runNT P (a+b) m t=runNT P b m1 c
 | 0,b,m,m1,t,c,h=>by
   simp only[runNT,yb,Stepped.next.injEq]at h
   simp_all
 | a + 1,b,m,m1,t,c,h=>by
   have e:a+1+b=(a+b)+1:=by omega
   rw[e];simp only[runNT]at h ⊢;cases d:stepT P m with
   | mk r ζ=>
     rw[d]at h;cases r with
     |next f=>simp only at h ⊢;exact runNT_add a b f m1 _ c h
     |ended o w=>simp at h
def yF(w w':World):Prop:=w.heap=w'.heap/\mR w.os w'.os/\w'.output=w.output
def yF.refl  w :yF w w:=⟨rfl,.refl _,rfl⟩
def cE.Gx{Z kk g J M w w' t}(h:cE Z kk g J M w t)(d:yF w w'):cE Z kk g J M w' t:=by
 have e:=d.1.symm;have c:∀{k O},Sat k O w->Sat k O w':=λc=>⟨c.apart,λb i v x=>by rw[(qV e _).1];exact c.cell b i v x,λb s x=>by have:=c.sh b s x;simpa[World.shape?,e]using this,λb o x=>by rw[e];exact c.obj b o x,λb n x=>by rw[e];exact c.tail b n x,λb f x=>by rw[e];exact c.part b f x⟩
 exact⟨λi=>c (h.sat i),h.jR,h.nY,λi=>by rw[e];exact h.B9 i,h.clean,λop x=>by rw[e];exact h.seen op x,h.acc,h.n0,h.ye,λa x=>by rw[e];exact h.mc a x,λr x=>by rw[e];exact h.pF r x,h.Ac.step d.2.1 d.2.2 (by simp_all) (λb _=>by rw[e]),h.mine⟩
structure eT  P   d   k   O   g  (gs:adp)  w   t  (Z:Base)  q :Prop where
 lk:0≠Z.lk
 g0:gs[0]?=some g
 lv:Leavers P t gs q
 df:Deaf t 0=d
 cX:cE Z (bW (λ_=>ar.bot) 0 k) (bW (λ_=>aj.bot) 0 O) (λ_=>False) (λ_=>False) w t
def R6(P:adT)(k:ar)(O:aj)(g:adJ)(d:Nat)(N:ar->aj->adJ->adG):Prop:=∀w,Sat k O w->∃g' w' es k' O',stepG P true g w=.go g' w' es/\(∃a:World,yF a w'/\Sat k' O' a/\(Eff k O w k' O' a es.toList\/(a=w/\k'=k/\O'=O/\(es=#[⟨.mark .disable,false,true⟩]\/es=#[⟨.mark .enable,false,true⟩]))))/\N k' O' g' (deafBehind d es)
section
variable{P:adT}{k k':ar}{O O':aj}{g g':adJ}{gs:adp}{w w':World}{t:Trace}{Z:Base}{q:adM}{d:Nat}
def dY.Yj{W0}(h:dY P W0 k O g gs w t):∃Z q,Z.W0=W0/\eT P 0 k O g gs w t Z q:=by
 obtain⟨Z,_,e,_,a,b,⟨q,c⟩,hd,d,_⟩:=cE.start h 1 ⟨0,0,none⟩ (by decide);exact⟨Z,q,a,by omega,b,c,hd,d⟩
def eT.back(h:eT P 0 k O g gs w t Z q):dY P Z.W0 k O g gs w t:=by have:=h.cX.finish (P:=P) h.g0 h.lv h.df;rw[ao,ao]at this;exact this
def eT.at(h:eT P d k O g gs w t Z q)  x :eT P d k O g gs (w.at x) t Z q:=⟨h.lk,h.g0,h.lv,h.df,h.cX.at x⟩
def eT.Gx(h:eT P d k O g gs w t Z q)(e:yF w w'):eT P d k O g gs w' t Z q:=⟨h.lk,h.g0,h.lv,h.df,h.cX.Gx e⟩
def eT.sat(h:eT P d k O g gs w t Z q):Sat k O w:=by have:=h.cX.sat 0;rwa [ao,ao]at this
def Bc{α}  f   i  (x y:α):bW (bW f i x) i y=bW f i y:=by
 funext j;by_cases e:j=i
 . subst e;rw[ao,ao]
 rw[az _ _ e,az _ _ e,az _ _ e]
def eT.own(h:eT P d k O g gs w t Z q){es fn pos}(y:Sat k' O' w')(l:Eff k O w k' O' w' es.toList\/(w'=w/\k'=k/\O'=O/\(es=#[⟨.mark .disable,false,true⟩]\/es=#[⟨.mark .enable,false,true⟩]))):
 eT P (deafBehind d es) k' O' g' (gs.setIfInBounds 0 g') w' (t++MemOp.ofEvents 0 fn pos es) Z q:=by
 have p:=(wS.1 h.g0).1;have f:∀op∈MemOp.ofEvents 0 fn pos es,op.g=0:=λop c=>by obtain⟨e,_,rfl⟩:=za c;rfl
 refine⟨h.lk,zj p,⟨λi x z s=>?_,λj u=>?_⟩,by rw[Deaf_own,h.df],?_⟩
 . rw[LK (by omega)]at s
   rw[Deaf_other t (by omega) _ f];exact h.lv.old i x z s
 . rw[abO]at u
   rw[Deaf_other t (by omega) _ f];exact h.lv.above j u
 rcases l with l|⟨rfl,rfl,rfl,l⟩
 . have:=h.cX.own (i:=0) h.lk (.inl rfl) (k':=k') (O':=O') (fn:=fn) (pos:=pos) (by rw[ao,ao];exact l) y
   rwa [Bc,Bc]at this
 have o:∀op∈MemOp.ofEvents 0 fn pos es,op.act.touch?=none/\op.act.low w'.heap.size:=λop c=>by
  obtain⟨e,r,rfl⟩:=za c
  rcases l with rfl|rfl<;>simp at r<;>subst r<;>exact⟨rfl,trivial⟩
 exact h.cX.uK (λa b=>a=b) rfl ⟨⟨.refl _,rfl⟩,λ_ _=>rfl⟩ (λb=>.inl rfl) (λop c=>(o op c).2) (λa b e n x _ _ _ A=>by subst e;exact A.app _) (λj b n v h=>⟨j,rfl,h⟩) (λj b n h=>⟨j,rfl,h⟩) (λj b x h=>⟨j,rfl,h,λ_ h=>h⟩) h.cX.jR
  (λsaid=>noRace_appendMute (h.cX.clean said) λop c=>(o op c).1) (λop c a ha=>by simp_all) (λm op a c ha=>by grind) (λn a ha r h=>h.elim (λ⟨_,h,_⟩=>h.elim) (λ⟨_,h,_⟩=>h.elim))
def Am(c:Leavers P t gs q){a a' x w'}:(gs.map (woken P a a' w')).setIfInBounds 0 x=gs.setIfInBounds 0 x:=by
 apply acV;intro j;by_cases b:0=j
 . grind
 rw[LK b,LK b,acj];cases d:gs[j]? with
 |none=>rfl
 |some y=>simp only[abx,kn];exact woken_quitsD (c.old j y (by omega) d)
def Bd{N}(p:g.status=.running)(F:R6 P k O g d N):
 ∀  n   gs   w   sl   t   q ,sumTo gs.size q=n->eT P d k O g gs w t Z q ->
  ∃M gs' w' l Q q' k' O' g' d',runNT P M (crowd gs w sl) t=(.next (crowd gs' w' l),Q)/\eT P d' k' O' g' gs' w' Q Z q'/\N k' O' g' d':=by
 intro n
 induction n using Nat.strongRecOn with
 |ind n ih=>
 intro gs w sl t q hn o
 have T:∀x∈gs,awake x:=by
  intro x hx;obtain⟨i,D,rfl⟩:=Array.mem_iff_getElem.1 hx
  rcases Nat.eq_zero_or_pos i with rfl|r
  . have:gs[0]=g:=by simpa[abo D]using o.g0
    rw[this];exact awake_of (.inl p)
  exact awake_of ((o.lv.old i _ r (abo D)).status.elim .inl λx=>.inr (.inr x))
 obtain⟨i,x,B,l,D,hg,H⟩:=crowd_pick (P:=P) (w:=w) (sl:=sl) T ⟨0,g,o.g0,p⟩;have U:=(wS.1 D).1;have s:=o.at B
 rcases Nat.eq_zero_or_pos i with rfl|r
 . obtain rfl:x=g:=by rw[o.g0]at D;grind
   obtain⟨g',w',es,k',O',s1,⟨w2,s0,s2,s3⟩,s4⟩:=F (w.at B) s.sat;have c:=runT_crowd_go (P:=P) (sl:=l) (i:=0) D (show stepG P (0==0) x (w.at B)=_ from s1)
   rw[Am o.lv]at c;exact⟨1,_,w',l,_,q,k',O',g',_,by simp only[runNT,H,c],(s.own (fn:=x.frame.fn) (pos:=x.frame.place) s2 s3).Gx s0,s4⟩
 have R:=o.lv.old i x r D;have V:(i==0)=false:=by simp;omega
 cases G:q i with
 |zero=>rw[G]at R;rw[R.1]at hg;cases hg
 | succ E=>
   rw[G]at R
   rcases R with⟨hf,_⟩|⟨_,g',es,W,I,X⟩
   . grind
   have c:=runT_crowd_go (P:=P) (sl:=l) (i:=i) D (by rw[V];exact I (w.at B))
   have ad:sumTo gs.size (upd q i E)+(E+1)=sumTo gs.size q+E:=by have:=sumTo_upd q E id U;simpa[G]using this
   have A:∀op∈MemOp.ofEvents i x.frame.fn x.frame.place es,op.g=i:=λop f=>by obtain⟨e,_,rfl⟩:=za f;rfl
   have Y:∀op∈MemOp.ofEvents i x.frame.fn x.frame.place es,op.act.touch?=none:=λop f=>by obtain⟨e,he,rfl⟩:=za f;exact touch_mute (W e he)
   have J:∀op∈MemOp.ofEvents i x.frame.fn x.frame.place es,op.act.low (w.at B).heap.size:=λop f=>by obtain⟨e,he,rfl⟩:=za f;exact low_mute (W e he) _
   have hP:=s.cX.uK (w':=w.at B) (kk':=bW (λ_=>ar.bot) 0 k) (OO':=bW (λ_=>aj.bot) 0 O) (J':=λ_=>False) (M':=λ_=>False) (u:=MemOp.ofEvents i x.frame.fn x.frame.place es) (λa b=>a=b) rfl ⟨⟨.refl _,rfl⟩,λ_ _=>rfl⟩ (λb=>.inl rfl) J (λa b e n y _ _ _ h=>by subst e;exact h.app _) (λj b n v h=>⟨j,rfl,h⟩) (λj b n h=>⟨j,rfl,h⟩) (λj b x h=>⟨j,rfl,h,λ_ h=>h⟩) s.cX.jR
    (λsaid=>noRace_appendMute (s.cX.clean said) Y) (λop f a ha=>by grind) (λm op a f ha=>by grind) (λn a ha W h=>h.elim (λ⟨_,h,_⟩=>h.elim) (λ⟨_,h,_⟩=>h.elim))
   have a7:eT P d k O g ((gs.map (woken P x g' (w.at B))).setIfInBounds i g') (w.at B) (t++MemOp.ofEvents i x.frame.fn x.frame.place es) Z (upd q i E):=by
    refine⟨o.lk,?_,⟨λj y hj S=>?_,λj hj=>?_⟩,?_,hP⟩
    . rw[LK (by omega),acj,o.g0]
      simp[woken_run p]
    . by_cases C:i=j
      . subst C
        rw[zj (by grind)]at S
        obtain rfl:=abt S;rw[upd_same,Deaf_own];exact X
      rw[LK C,acj]at S;obtain⟨z,hz,rfl⟩:=aaK.1 S;have K:=o.lv.old j z hj hz;rw[woken_quitsD K,upd_ne q E (wK C),Deaf_other t C _ A];exact K
    . rw[Deaf_other t (g':=i) (by grind) _ A]
      exact o.lv.above j (by grind)
    rw[Deaf_other t (by omega) _ A];exact o.df
   obtain⟨M,gs',a8,L,Q,q',k',O',a9,d',e1,e2,e3⟩:=ih (sumTo gs.size (upd q i E)) (by omega) _ (w.at B) l _ (upd q i E) (by simp) a7
   exact⟨M+1,gs',a8,L,Q,q',k',O',a9,d',by simp only[runNT,H,c];exact e1,e2,e3⟩
inductive ja(P:adT)(N:adl):ar->aj->adJ->adG
 |done {k:ar}{O:aj}{g:adJ}:N k O g->ja P N k O g 0
 |step {k:ar}{O:aj}{g:adJ}{d:Nat}(N':ar->aj->adJ->adG):g.status=.running->R6 P k O g d N'->(∀k' O' g' d',N' k' O' g' d'->ja P N k' O' g' d')->ja P N k O g d
def Nd{N}(h:ja P N k O g d):∀  gs   w   sl   t   q ,eT P d k O g gs w t Z q ->
 ∃M gs' w' a j k' O' g',runNT P M (crowd gs w sl) t=(.next (crowd gs' w' a),j)/\dY P Z.W0 k' O' g' gs' w' j/\N k' O' g':=by
 induction h with
 |done h=>exact λgs w sl t q b=>⟨0,gs,w,sl,t,_,_,_,rfl,b.back,h⟩
 |step F l m _ n=>intro gs w sl t q b;obtain⟨o,c,p,e,r,s,G,H,I,J,u,v,x⟩:=Bd l m _ gs w sl t q rfl b;obtain⟨M2,f,y,i,z,A,B,C,f1,D,E⟩:=n _ _ _ _ x c p e r s v;exact⟨o+M2,f,y,i,z,A,B,C,by rw[runNT_add _ _ _ _ _ _ u];exact f1,D,E⟩
def ja.phase{N}(h:ja P N k O g 0):BR P k O g N:=λW0 gs w sl t a=>by obtain⟨Z,q,rfl,b⟩:=a.Yj;exact Nd h gs w sl t q b
def dY.ghost{W0}(h:dY P W0 k O g gs w t){k' O'}(b:lu k O k' O'):dY P W0 k' O' g gs w t:=by
 obtain⟨Z,q,rfl,a⟩:=h.Yj;obtain⟨c,d⟩:=b w a.sat;have:=a.own (g':=g) (es:=#[]) (fn:=0) (pos:=  "") c (.inl d)
 have e:t++MemOp.ofEvents 0 0  "" #[]=t:=by rw[ofEvents_eq];simp
 have f:gs.setIfInBounds 0 g=gs:=by
  apply acV;intro j;by_cases i:0=j
  . subst i
    rw[zj (wS.1 a.g0).1,a.g0]
  simp_all
 rw[e,f]at this;exact this.back
def Nf{m}(H:m.main=true)(I:∀k O g N,¬m.dz k O g N){Q}(h:T P m Q k O g):
 ∀  W0   gs   w   sl   t ,dY P W0 k O g gs w t ->
  ∃M gs' w' n E k' O' g',runNT P M (crowd gs w sl) t=(.next (crowd gs' w' n),E)/\dY P W0 k' O' g' gs' w' E/\Q k' O' g':=by
 induction h with
 |stop h=>exact λW0 gs w sl t a=>⟨0,gs,w,sl,t,_,_,_,rfl,a,h⟩
 | step N i _ l j=>
   intro W0 gs w sl t a;rw[H]at l;obtain⟨Z,q,rfl,J⟩:=a.Yj
   obtain⟨o,b,p,c,r,q1,K,L,R,d1,s,u,rfl,v⟩:=Bd (N:=λk' O' g' S=>S=0/\N k' O' g') i (λw U=>by
    obtain⟨g',w',es,k',O',V,F,W,X⟩:=l w U;refine⟨g',w',es,k',O',V,⟨w',.refl _,W,.inl F⟩,?_,X⟩;have G:=cu (t:=#[]) (yg (λe Y=>F.evs e Y) 0 0  "") 0
    rw[Deaf_own]at G;exact G) _ gs w sl t q rfl J
   obtain⟨M2,d,x,f,y,z,A,B,f1,C,D⟩:=j _ _ _ v _ b p c r u.back;exact⟨o+M2,d,x,f,y,z,A,B,by rw[runNT_add _ _ _ _ _ _ s];exact f1,C,D⟩
 |ghost i _ j=>exact λW0 gs w sl t a=>j W0 gs w sl t (a.ghost i)
 |phase N i _ l j=>intro W0 gs w sl t a;obtain⟨o,b,p,c,r,K,L,R,s,u,v⟩:=l W0 gs w sl t a;obtain⟨M2,d,x,f,y,z,A,B,f1,C,D⟩:=j _ _ _ v W0 b p c r u;exact⟨o+M2,d,x,f,y,z,A,B,by rw[runNT_add _ _ _ _ _ _ s];exact f1,C,D⟩
 |dz N h0 i _ _=>simp_all
end
def jB(fo:Nat)(s:Mu.Sh):Nat->adx:=λi=>if i=fo then some (.int .i32 (enc s.w.L s.w.K s.w.S s.w.N))else if i=fo+1 then some (.int .u32 s.ms)else none
def gY:Mu.Sh:=⟨.zero,0⟩
def eL:Mu.Sh:=⟨{Mu.Wd.zero with L:=true},0⟩
def yG  fo :jB fo gY=bK fo:=by
 funext i;simp[jB,bK,gY,enc,Mu.Wd.zero]
def yH(fo:Nat):Nat->adx:=jB fo eL
section
variable{P:adT}{k:ar}{O:aj}{b o:Nat}{w w':World}{s s':Mu.Sh}
def QR(f:Sat k O w)(g:O b=some (.part (jB o s))):ShM b o w s:=by
 obtain⟨c,e,a,h,d⟩:=f.part _ _ g;refine⟨?_,?_,λi=>?_⟩
 . exact ni a (d o _ (by simp[jB]))
 . exact ni a (d (o+1) _ (by simp[jB]))
 exact lH a
def heap_set{w:World}{b i v c e z}(h:w.heap[b]?=some (.cells c e z)):(w.setCell ⟨b,i,none⟩ v).heap[b]?=some (.cells (c.setIfInBounds i v) e z):=by have a:=(wS.1 h).1;simp[World.setCell,abI,h]
def vX{w:World}{b i d v}(h:d≠b):(w.setCell ⟨b,i,none⟩ v).heap[d]?=w.heap[d]?:=by simp[World.setCell,abI,wK h]
def S9{es}(u:Sat k O w)(M:O b=some (.part (jB o s)))(G:MW b o w w')(H:ShM b o w' s')(I:EvM b o es)(a7:∀e∈es,∀m,e.loc≠.mark m):
 ∃R ,yF R w'/\Sat k (O.set b (.part (jB o s'))) R/\Eff k O w k (O.set b (.part (jB o s'))) R es.toList:=by
 obtain⟨c,e,D,h2,h3⟩:=u.part _ _ M;have a8:=(wS.1 D).1
 have key:∃x,w'.heap[b]?=some (.cells x e (0,0))/\x.size=c.size/\(∀i,i≠o->i≠o+1->x[i]?=c[i]?)/\(∀d,d≠b->w'.heap[d]?=w.heap[d]?)/\w'.heap.size=w.heap.size:=by
  rcases G.2 with T|⟨i,v,p,P,T⟩
  . simp_all
  refine⟨c.setIfInBounds i v,by rw[T];exact heap_set D,by simp,λj hj a9=>?_,λd hd=>by rw[T];exact vX hd,by simp_all⟩
  grind
 obtain⟨x,B,U,k3,E,k5⟩:=key;have ad:x[o]?=some (.int .i32 (enc s'.w.L s'.w.K s'.w.S s'.w.N)):=by have:=H.cw;simpa[World.cell?,B]using this
 have al:x[o+1]?=some (.int .u32 s'.ms):=by have:=H.cs;simpa[World.cell?,B]using this
 have A:∀i,(i=o\/i=o+1)->aV O b i:=λi p=>.inr (.inr ⟨_,M,by rcases p with rfl|rfl<;>simp[jB]⟩)
 have l:∀d y,(O.set b (.part (jB o s'))) d=some y->(d=b/\y=.part (jB o s'))\/(d≠b/\O d=some y):=λd y h=>by
  by_cases hd:d=b
  . subst hd;simp[aj.set]at h;simp_all
  simp[aj.set,hd]at h;simp_all
 have r:∀i v,k.cell b i=some v->i≠o/\i≠o+1:=λi v t=>⟨λe=>u.apart _ _ _ t (A i (.inl e)),λe=>u.apart _ _ _ t (A i (.inr e))⟩
 refine⟨{w with heap:=w'.heap},⟨rfl,G.1⟩,⟨λd i v t X=>?_,λd i v t=>?_,λd z hz=>?_,λd y C=>?_,λd n C=>?_,λd f C=>?_⟩,⟨.refl k,?_,λd hd Q=>?_,λd n hd Q c2 e2 V=>?_,λd f hd Q c2 e2 V=>?_,λd hd=>?_,λd y C=>?_,λd i v t=>.inl t,λd z hz=>.inl hz,λW J=>?_,rfl,rfl,rfl,λW J=>?_,λd f P=>?_⟩⟩
 . by_cases hd:d=b
   . subst hd
     obtain⟨Y,Z⟩:=r i v t;rcases X with⟨_,q⟩|⟨_,q,_⟩|⟨f,q,P⟩
     . grind
     . grind
     simp[aj.set]at q;subst q;simp[jB,Y,Z]at P
   exact u.apart d i v t (by simpa[aV,aj.set,hd]using X)
 . have F:=u.cell d i v t
   by_cases hd:d=b
   . subst hd
     obtain⟨Y,Z⟩:=r i v t;simp only[World.cell?,D,B]at F ⊢
     simp_all
   simpa[World.cell?,E d hd]using F
 . have F:=u.sh d z hz
   by_cases hd:d=b
   . subst hd
     simp only[World.shape?,D,B,U]at F ⊢;exact F
   simpa[World.shape?,E d hd]using F
 . rcases l d _ C with⟨_,q⟩|⟨hd,g⟩
   . cases q
   rw[show({w with heap:=w'.heap}:World).heap[d]?=w.heap[d]? from E d hd];exact u.obj d y g
 . rcases l d _ C with⟨_,q⟩|⟨hd,g⟩
   . cases q
   rw[show({w with heap:=w'.heap}:World).heap[d]?=w.heap[d]? from E d hd];exact u.tail d n g
 . rcases l d _ C with⟨rfl,q⟩|⟨hd,g⟩
   . cases q
     refine⟨x,e,B,by simp_all,λi v p=>?_⟩;unfold jB at p
     grind
   rw[show({w with heap:=w'.heap}:World).heap[d]?=w.heap[d]? from E d hd];exact u.part d f g
 . simp_all
 . grind
 . grind
 . by_cases a:d=b
   . subst a
     rw[M]at Q;cases Q;rw[D]at V;cases V;exact⟨x,B,U,λi p=>k3 i (λq=>by subst q;simp[jB]at p) (λq=>by subst q;simp[jB]at p)⟩
   grind
 . by_cases a:d=b
   . subst a
     simp only[World.shape?,D,B,U]
   simp[World.shape?,E d a]
 . rcases l d _ C with⟨rfl,rfl⟩|⟨a,g⟩
   . refine .inl ⟨_,M,λi p=>?_⟩
     unfold jB at p ⊢
     grind
   exact .inl ⟨y,g,.refl y⟩
 . rcases I W (by simp_all)with q|⟨i,p,q,_⟩
   . simp_all
   simp only[jG,q];grind
 . rcases I W (by simp_all)with q|⟨i,p,q,_⟩
   . simp_all
   simp only[jy,q];omega
 by_cases a:d=b
 . subst a;exact⟨jB o s',by simp[aj.set]⟩
 exact⟨f,by simp[aj.set,a,P]⟩
def aj.set_set(O:aj)  b   x y :(O.set b x).set b y=O.set b y:=by funext d;by_cases h:d=b<;>simp[aj.set,h]
def aj.ai(O:aj)  b   x :(O.set b x) b=some x:=by simp[aj.set]
def aj.CC{O:aj}{b x}(h:O b=some x):O.set b x=O:=by
 funext d;by_cases e:d=b
 . subst e;simp[aj.set,h]
 simp[aj.set,e]
structure Lk  k   b o  (f:Mu.Sh->aj):Prop where
 sat:∀{s w},Sat k (f s) w->ShM b o w s
 Xv:∀{s s' w w' es},Sat k (f s) w->MW b o w w'->ShM b o w' s'->EvM b o es->(∀e∈es,∀m,e.loc≠.mark m)->∃w2 ,yF w2 w'/\Sat k (f s') w2/\Eff k (f s) w k (f s') w2 es.toList
 has:∀s,∃x,f s b=some x
def Lk.part(O:aj):Lk k b o λs=>O.set b (.part (jB o s)) where
 sat h:=QR h (aj.ai O b _)
 Xv a c d e f:=by
  have:=S9 a (aj.ai O b _) c d e f
  rwa [aj.set_set]at this
 has s:=⟨_,aj.ai O b _⟩
def mE(c:ady)(o:Nat)(s:Mu.Sh):ady:=(c.setIfInBounds o (.int .i32 (enc s.w.L s.w.K s.w.S s.w.N))).setIfInBounds (o+1) (.int .u32 s.ms)
def lR{c i}(a:i≠o)(b:i≠o+1):(mE c o s)[i]?=c[i]?:=by
 unfold mE
 grind
def tV{c}(h:o+1<c.size):(mE c o s)[o]?=some (.int .i32 (enc s.w.L s.w.K s.w.S s.w.N)):=by
 unfold mE
 grind
def tX{c}(h:o+1<c.size):(mE c o s)[o+1]?=some (.int .u32 s.ms):=by
 unfold mE
 simp_all
def mF{c}:(mE c o s).size=c.size:=by simp[mE]
def Lk.obj(O:aj){c e}(hc:o+1<c.size):Lk k b o λs=>O.set b (.obj (.cells (mE c o s) e (0,0))) where
 sat h:=by have a:=h.obj b _ (aj.ai O b _);exact⟨ni a (tV hc),ni a (tX hc),λi=>lH a⟩
 Xv {s s' w w' es} hs t u A P:=by
  have a:=hs.obj b _ (aj.ai O b _);have Q:=(wS.1 a).1;have D:(O.set b (.obj (.cells (mE c o s) e (0,0)))) b=some (.obj (.cells (mE c o s) e (0,0))):=by simp[aj.set]
  have R:∀d x,d≠b->(O.set b x) d=O d:=λd x h=>by simp[aj.set,h]
  have key:w'.heap[b]?=some (.cells (mE c o s') e (0,0))/\(∀d,d≠b->w'.heap[d]?=w.heap[d]?)/\w'.heap.size=w.heap.size:=by
   have key:∃p,w'.heap[b]?=some (.cells p e (0,0))/\p.size=c.size/\(∀i,i≠o->i≠o+1->p[i]?=c[i]?)/\(∀d,d≠b->w'.heap[d]?=w.heap[d]?)/\w'.heap.size=w.heap.size:=by
    rcases t.2 with r|⟨i,v,J,hf,r⟩
    . exact⟨_,by rw[r];exact a,mF,λ_ T U=>lR T U,λd _=>by rw[r],by rw[r]⟩
    refine⟨_,by rw[r];exact heap_set a,by rw[abO,mF],λj V E=>?_,λd hd=>by rw[r];exact vX hd,by simp_all⟩;rw[LK (by omega)];exact lR V E
   obtain⟨p,k1,Y,W,l,M⟩:=key;refine⟨?_,l,M⟩;rw[k1];have F:p[o]?=some (.int .i32 (enc s'.w.L s'.w.K s'.w.S s'.w.N)):=by have:=u.cw;simpa[World.cell?,k1]using this
   have G:p[o+1]?=some (.int .u32 s'.ms):=by have:=u.cs;simpa[World.cell?,k1]using this
   have:p=mE c o s':=by
    apply acV;intro i;by_cases e1:i=o
    . subst e1;rw[F,tV hc]
    by_cases e2:i=o+1
    . subst e2;rw[G,tX hc]
    rw[W i e1 e2,lR e1 e2]
   rw[this]
  obtain⟨k1,l,M⟩:=key
  have B:∀d i x y,aV (O.set b (.obj x)) d i->aV (O.set b (.obj y)) d i:=λd i x y hc=>by
   by_cases hd:d=b
   . subst hd;exact .inl ⟨y,by simp[aj.set]⟩
   simpa[aV,aj.set,hd]using hc
  have H:∀d i v,k.cell d i=some v->d≠b:=λd i v m e=>hs.apart _ _ _ m (by subst e;exact .inl ⟨_,D⟩)
  refine⟨{w with heap:=w'.heap},⟨rfl,t.1⟩,⟨λd i v m hc=>hs.apart d i v m (B _ _ _ _ hc),λd i v m=>?_,λd z hz=>?_,λd y hy=>?_,λd n hy=>?_,λd f hy=>?_⟩,⟨.refl k,?_,λd hd hn=>?_,λd n hd hn c2 e2 X=>?_,λd f hd hn c2 e2 X=>?_,λd hd=>?_,λd y hy=>?_,λd i v m=>.inl m,λd z hz=>.inl hz,λI C=>?_,rfl,rfl,rfl,λI C=>?_,λd f hf=>?_⟩⟩
  . have h0:=hs.cell d i v m
    simpa[World.cell?,l d (H d i v m)]using h0
  . have h0:=hs.sh d z hz
    by_cases hd:d=b
    . subst hd
      simp only[World.shape?,a,k1,mF]at h0 ⊢;exact h0
    simpa[World.shape?,l d hd]using h0
  . by_cases hd:d=b
    . subst hd
      simp only[aj.set,Rp,kn,Own.obj.injEq]at hy
      simp_all
    rw[show({w with heap:=w'.heap}:World).heap[d]?=w.heap[d]? from l d hd];exact hs.obj d y (by simp_all)
  . have hd:d≠b:=λq=>by subst q;simp[aj.set]at hy
    rw[show({w with heap:=w'.heap}:World).heap[d]?=w.heap[d]? from l d hd];exact hs.tail d n (by simp_all)
  . have hd:d≠b:=λq=>by subst q;simp[aj.set]at hy
    rw[show({w with heap:=w'.heap}:World).heap[d]?=w.heap[d]? from l d hd];exact hs.part d f (by simp_all)
  . simp_all
  . grind
  . grind
  . grind
  . by_cases g:d=b
    . subst g
      simp only[World.shape?,a,k1,mF]
    simp[World.shape?,l d g]
  . by_cases g:d=b
    . subst g;exact .inl ⟨_,D,trivial⟩
    exact .inl ⟨y,by simp_all,.refl y⟩
  . rcases A I (by simp_all)with q|⟨i,J,q,_⟩
    . simp_all
    simp only[jG,q];exact .inl (.inl ⟨_,D⟩)
  . rcases A I (by simp_all)with q|⟨i,J,q,_⟩
    . simp_all
    simp only[jy,q];omega
  grind
 has s:=⟨_,aj.ai O b _⟩
variable{n:DW}(C:ib P n)(X:ig P n){τ:adP}{Wd:adz}{cs:adE}{g:adJ}{main:Bool}
def V5(b o:Nat):adA:=#[⟨.cell ⟨b,o,none⟩,false,true⟩,⟨.cell ⟨b,o,none⟩,true,true⟩]
def Ta  b o :EvM b o (V5 b o)/\(∀e∈V5 b o,∀m,e.loc≠.mark m)/\∀d,deafBehind d (V5 b o)=d:=by
 refine⟨kZ (.inl rfl),λe a m h=>?_,λd=>rfl⟩;simp[V5]at a
 grind
include C X in
def Ng(a:ShM b o w gY)(h:ow P n b o τ .iM cs g):∃e w',stepG P main g w=.go e w' (V5 b o)/\MW b o w w'/\ShM b o w' eL/\Next P n b o τ Wd cs .le e:=by
 obtain⟨c,y,fr,j,rfl,k,f,d,rfl⟩:=h;have l:(uQ P n b o τ).1.kind≠.early:=by simp[uQ,mX]
 have i:=a.cw;rw[show enc gY.w.L gY.w.K gY.w.S gY.w.N=0 from rfl]at i;exact⟨_,_,iE f (C.o2 b o τ) l X.kU (v:=0) (n:=1) (λx h=>h) (λx h=>h) i (a.fz o),wI rfl,a.aZ {Mu.Wd.zero with L:=true},nxt (C.e2 _ b o τ) k f d rfl (.inl rfl)⟩
include C X in
def Nh(i:ShM b o w eL)(h:ow P n b o τ .held cs g):∃r w' es,stepG P main g w=.go r w' es/\MW b o w w'/\ShM b o w' gY/\EvM b o es/\(∀e∈es,∀m,e.loc≠.mark m)/\(∀d,deafBehind d es=d)/\Next P n b o τ Wd cs .ue r:=by
 obtain⟨c,y,fr,j,rfl,u,s,k,rfl⟩:=h;have l:({y with N:=0}:Sy).ok:=⟨⟨by simp,by simp⟩,u.2⟩;have p:=s.re (y':={y with N:=0}) (.inr rfl) (.inl rfl) (.inl rfl) (.inl rfl);have a:=k.ir (y':={y with N:=0}) (by simpa[sx,pG]using(C.p3 b o τ).1);have f:=qm (main:=main) (cs:=j++cs) (w:=w) s (C.XT b o τ) (by simp[sx,pG]) X.add (λx h=>h) i.cw (i.fz _);have e:IntKind.i32.wrap (enc eL.w.L eL.w.K eL.w.S eL.w.N+-1)=enc false false false 0:=by decide
 rw[e]at f;have q:=i.aZ Mu.Wd.zero;have v:SR {y with N:=0} (.word false false false 0) (.int .i32 (enc false false false 0)):=qW rfl;have key:=C.u5 (Fl.of {y with N:=0}) b o τ true false (by rfl);exact⟨_,_,_,f,wI rfl,q,kZ (.inl rfl),(λe t m h=>(by simp at t;rcases t with rfl|rfl<;>cases h)),(λd=>rfl),nxt (y:={y with N:=0}) key l p a v rfl⟩
def ja.AP{N Wd a d}(i:∀w,Sat k O w->Wd w){m}:∀{g},jI P Wd m g a->ja P N k O a d->ja P N k O g d:=by
 induction m with
 |zero=>intro g h b;obtain rfl:g=a:=h;exact b
 | succ m l=>
   intro g h b;obtain⟨c,e,n⟩:=h;refine .step (λk' O' g' j=>k=k'/\O=O'/\c=g'/\d=j) e.1 (λw f=>⟨c,w,#[],k,O,e.2 true w (i w f),⟨w,.refl _,f,.inl (.refl ..)⟩,rfl,rfl,rfl,rfl⟩) ?_
   grind
def ja.next{N p c d}(e:∀w,Sat k O w->Wd w)(h:Next P n b o τ Wd cs p c)(f:∀a,ow P n b o τ p cs a->ja P N k O a d):ja P N k O c d:=by obtain⟨_,a,⟨m,g⟩,i⟩:=h;exact ja.AP e g (f a i)
variable{N:adl}
def EC{e}(g:Sat k O w){x}(h:O b=some x)(f:e.loc=.mark (.acquire ⟨b,o,none⟩)\/e.loc=.mark (.releaseMerge ⟨b,o,none⟩)):Eff k O w k O w [e]:=by
 have a:=Eff.refl k O w;have d:=g.uD h;refine⟨a.le,a.size,a.keep,a.tail,a.part,a.shape,a.own,a.cell,a.sh,λx c=>?_,rfl,rfl,rfl,λx c=>?_,a.tok⟩
 . rw[lb]at c;subst c
   rcases f with q|q<;>simp[jG,q,kD]
 rw[lb]at c;subst c;rcases f with q|q<;>simp only[jy,q]<;>exact d
def Lk.wd{f}(L:Lk k b o f)  s :∀w,Sat k (f s) w->∃v,w.cell? ⟨b,o,none⟩=some v:=λw a=>⟨_,(L.sat a).cw⟩
include C X in
def yI(F:mP P n){c μ}(u:τ≠.early){f}(L:Lk k b o f)(x:N k (f eL) (kH τ c μ (.tuple #[]))):ja P N k (f gY) (G (Frame.enter P n.lock #[.pointer (some ⟨b,o,none⟩)] τ) (c::μ)) 0:=by
 have t:=L.wd gY;have e:=L.wd eL;obtain⟨_,r⟩:=L.has eL;obtain⟨q,⟨m,s⟩,a⟩:=rS (P:=P) (n:=n) (b:=b) (o:=o) (τ:=τ) (Wd:=λw=>∃v,w.cell? ⟨b,o,none⟩=some v) (cs:=c::μ) F;refine ja.AP t s ?_;refine .step (λk' O' g' i=>k=k'/\f gY=O'/\i=1/\Next P n b o τ (λw=>∃v,w.cell? ⟨b,o,none⟩=some v) (c::μ) .iM g') a.running.1 (λw g=>?_) ?_
 . obtain⟨d,j,l⟩:=Ch (main:=true) (w:=w) C X a
   exact⟨d,w,_,k,f gY,j,⟨w,.refl _,g,.inr ⟨rfl,rfl,rfl,.inl rfl⟩⟩,rfl,rfl,rfl,l⟩
 rintro _ _ d _ ⟨rfl,rfl,rfl,p⟩;refine ja.next t p λq a=>?_
 refine .step (λk' O' g' i=>k=k'/\f eL=O'/\i=1/\Next P n b o τ (λw=>∃v,w.cell? ⟨b,o,none⟩=some v) (c::μ) .le g') a.running.1 (λw g=>?_) ?_
 . obtain⟨d,w',j,l,y,z⟩:=Ng (main:=true) (w:=w) C X (L.sat g) a
   obtain⟨A,B,D⟩:=Ta b o;obtain⟨E,H,I,J⟩:=L.Xv g l y A B;exact⟨d,w',_,k,_,j,⟨E,H,I,.inl J⟩,rfl,rfl,D 1,z⟩
 rintro _ _ d _ ⟨rfl,rfl,rfl,p⟩;refine ja.next e p λq a=>?_
 refine .step (λk' O' g' i=>k=k'/\f eL=O'/\i=0/\Next P n b o τ (λw=>∃v,w.cell? ⟨b,o,none⟩=some v) (c::μ) .la g') a.running.1 (λw g=>?_) ?_
 . obtain⟨d,j,l⟩:=Ib (main:=true) (w:=w) C X (λw h=>h) a
   exact⟨d,w,_,k,_,j,⟨w,.refl _,g,.inr ⟨rfl,rfl,rfl,.inr rfl⟩⟩,rfl,rfl,rfl,l⟩
 rintro _ _ d _ ⟨rfl,rfl,rfl,p⟩;refine ja.next e p λq a=>?_
 refine .step (λk' O' g' i=>k=k'/\f eL=O'/\i=0/\Next P n b o τ (λw=>∃v,w.cell? ⟨b,o,none⟩=some v) (c::μ) .back g') a.running.1 (λw g=>?_) ?_
 . obtain⟨d,j,l⟩:=Ia (main:=true) (w:=w) C X a
   exact⟨d,w,_,k,_,j,⟨w,.refl _,g,.inl (EC g r (.inl rfl))⟩,rfl,rfl,rfl,l⟩
 rintro _ _ d _ ⟨rfl,rfl,rfl,p⟩;refine ja.next e p λq a=>?_
 obtain⟨m,s⟩:=tB (Wd:=λw=>∃v,w.cell? ⟨b,o,none⟩=some v) F a u;exact ja.AP e s (.done x)
include C X in
def tY(F:mP P n){c μ}(t:τ≠.early){f}(L:Lk k b o f)(u:N k (f gY) (kH τ c μ (.tuple #[]))):ja P N k (f eL) (G (Frame.enter P n.unlock #[.pointer (some ⟨b,o,none⟩)] τ) (c::μ)) 0:=by
 have r:=L.wd eL;have p:=L.wd gY;obtain⟨_,x⟩:=L.has eL;obtain⟨q,⟨m,s⟩,a⟩:=pH (P:=P) (n:=n) (b:=b) (o:=o) (τ:=τ) (Wd:=λw=>∃v,w.cell? ⟨b,o,none⟩=some v) (cs:=c::μ) F;refine ja.AP r s ?_;refine .step (λk' O' g' g=>k=k'/\f eL=O'/\g=0/\Next P n b o τ (λw=>∃v,w.cell? ⟨b,o,none⟩=some v) (c::μ) .ur g') a.running.1 (λw e=>?_) ?_
 . obtain⟨d,i,j⟩:=yl (main:=true) (w:=w) C X (λw h=>h) (L.sat e).cw a
   exact⟨d,w,_,k,f eL,i,⟨w,.refl _,e,.inl (.refl ..)⟩,rfl,rfl,rfl,j⟩
 rintro _ _ d _ ⟨rfl,rfl,rfl,l⟩;refine ja.next r l λq a=>?_
 refine .step (λk' O' g' g=>k=k'/\f eL=O'/\g=0/\Next P n b o τ (λw=>∃v,w.cell? ⟨b,o,none⟩=some v) (c::μ) .ud g') a.running.1 (λw e=>?_) ?_
 . obtain⟨d,i,j⟩:=H9 (main:=true) (w:=w) C X a
   exact⟨d,w,_,k,_,i,⟨w,.refl _,e,.inl (EC e x (.inr rfl))⟩,rfl,rfl,rfl,j⟩
 rintro _ _ d _ ⟨rfl,rfl,rfl,l⟩;refine ja.next r l λq a=>?_
 refine .step (λk' O' g' g=>k=k'/\f eL=O'/\g=1/\Next P n b o τ (λw=>∃v,w.cell? ⟨b,o,none⟩=some v) (c::μ) .held g') a.running.1 (λw e=>?_) ?_
 . obtain⟨d,i,j⟩:=H8 (main:=true) (w:=w) C X a
   exact⟨d,w,_,k,_,i,⟨w,.refl _,e,.inr ⟨rfl,rfl,rfl,.inl rfl⟩⟩,rfl,rfl,rfl,j⟩
 rintro _ _ d _ ⟨rfl,rfl,rfl,l⟩;refine ja.next r l λq a=>?_
 refine .step (λk' O' g' g=>k=k'/\f gY=O'/\g=1/\Next P n b o τ (λw=>∃v,w.cell? ⟨b,o,none⟩=some v) (c::μ) .ue g') a.running.1 (λw e=>?_) ?_
 . obtain⟨d,w',es,i,j,y,z,A,B,D⟩:=Nh (main:=true) (w:=w) C X (L.sat e) a
   obtain⟨E,H,I,J⟩:=L.Xv e j y z A;exact⟨d,w',_,k,_,i,⟨E,H,I,.inl J⟩,rfl,rfl,B 1,D⟩
 rintro _ _ d _ ⟨rfl,rfl,rfl,l⟩;refine ja.next p l λq a=>?_
 refine .step (λk' O' g' g=>k=k'/\f gY=O'/\g=0/\Next P n b o τ (λw=>∃v,w.cell? ⟨b,o,none⟩=some v) (c::μ) .D5 g') a.running.1 (λw e=>?_) ?_
 . obtain⟨d,i,j⟩:=Ci (main:=true) (w:=w) C X a
   exact⟨d,w,_,k,_,i,⟨w,.refl _,e,.inr ⟨rfl,rfl,rfl,.inr rfl⟩⟩,rfl,rfl,rfl,j⟩
 rintro _ _ d _ ⟨rfl,rfl,rfl,l⟩;refine ja.next p l λq a=>?_
 obtain⟨m,s⟩:=my (Wd:=λw=>∃v,w.cell? ⟨b,o,none⟩=some v) F a t;exact ja.AP p s (.done u)
def Rel.Be{σ f}(a:Rel k O σ)(h:σ b=some (.part f)):O b=some (.part f):=by
 obtain⟨x,c,d⟩:=a.1 b _ h (by simp);cases d;exact c
def jX(b o:Nat)(a:AV):Prop:=∀k v,V k v a->v=.pointer (some ⟨b,o,none⟩)
def rf  b o   l   h :jX b o (.kp b l h o):=λk v a=>by cases a;rfl
def oZ  b o :jX b o (.ref b o):=λk v a=>by cases a;rfl
def Vs.one{a c}(h:Vs k c [a]):∃v,c=[v]/\V k v a:=by
 obtain⟨b,d⟩:=h
 match c with
 |[v]=>exact⟨v,rfl,d 0 v a rfl rfl⟩
 |[]=>simp at b
 |_::_::_=>simp at b
include C X in
def JR(F:mP P n){m}(j:m.solo=true){a}(ha:jX b o a){σ f}(d:σ b=some (.part (bK o)))(h:f (.val (.cH [])) (σ.set b (.part (yH o)))):aB P m n.lock [a] σ f:=by
 intro Q k O e c μ τ l p g q s;obtain⟨v,rfl,r⟩:=p.one;obtain rfl:=ha _ _ r;refine .phase (λk' O' g'=>T P m Q k' O' g') j (λ_ _ _ h=>h) (ja.phase ?_);have L:=Lk.part (k:=k) (b:=b) (o:=o) O;have:=yI (P:=P) (N:=λk' O' g'=>T P m Q k' O' g') C X F l L (c:=c) (μ:=μ) ?_
 . simp only[yG]at this
   rwa [aj.CC (g.Be d)]at this
 exact q k _ (.tuple #[]) (.cH []) _ (.refl k) (.cH _ _ rfl λi v a h=>by simp at h) (g.set (.part _)) h
include C X in
def ED(F:mP P n){m}(l:m.solo=true){a}(ha:jX b o a){σ g}(d:σ b=some (.part (yH o)))(h:g (.val (.cH [])) (σ.set b (.part (bK o)))):aB P m n.unlock [a] σ g:=by
 intro Q k O f c μ τ p q j r t;obtain⟨v,rfl,s⟩:=q.one;obtain rfl:=ha _ _ s;refine .phase (λk' O' g'=>T P m Q k' O' g') l (λ_ _ _ h=>h) (ja.phase ?_);have L:=Lk.part (k:=k) (b:=b) (o:=o) O;have:=tY (P:=P) (N:=λk' O' g'=>T P m Q k' O' g') C X F p L (c:=c) (μ:=μ) ?_
 . have e:O.set b (.part (jB o eL))=O:=aj.CC (j.Be d)
   simp only[e]at this;exact this
 simp only[yG];exact r k _ (.tuple #[]) (.cH []) _ (.refl k) (.cH _ _ rfl λi v a h=>by simp at h) (j.set (.part _)) h
def Rel.xh{σ l}(d:Rel k O σ)(h:σ b=some (.cells l)):∃c e,O b=some (.obj (.cells c e (0,0)))/\c.size=l.length/\(∀(i:Nat) v a,c[i]?=some v->l[i]?=some a->V k v a)/\∀(i:Nat) v,c[i]?=some v->flat v=true:=by
 obtain⟨x,g,f⟩:=d.1 b _ h (by simp);cases f with
 |cells c e l j m n=>grind
def Bf{c}{l:adQ}{e}(m:c.size=l.length)(n:∀(i:Nat) v a,c[i]?=some v->l[i]?=some a->V k v a)(p:∀(i:Nat) v,c[i]?=some v->flat v=true)(j:l[o+1]?=some (.lit (.int .u32 0)))(h:s.ms=0):kV k (.obj (.cells (mE c o s) e (0,0))) (.cells (l.set o (.lit (.int .i32 (enc s.w.L s.w.K s.w.S s.w.N))))):=by
 have d:o+1<c.size:=by grind
 refine .cells _ _ _ (by rw[mF];simp_all) (λi v a b ha=>?_) (λi v b=>?_)
 . by_cases f:i=o
   . subst f
     rw[tV d]at b;rw[abQ (by omega)]at ha;cases b;cases ha;exact .lit _
   rw[abM (wK f)]at ha;by_cases g:i=o+1
   . subst g
     rw[tX d,h]at b;rw[j]at ha;cases b;cases ha;exact .lit _
   rw[lR f g]at b
   grind
 by_cases f:i=o
 . subst f
   rw[tV d]at b;cases b;rfl
 by_cases g:i=o+1
 . subst g
   rw[tX d]at b;cases b;rfl
 rw[lR f g]at b
 grind
def yJ{c}{l:adQ}{n}(p:c.size=l.length)(e:∀(i:Nat) v a,c[i]?=some v->l[i]?=some a->V k v a)(h:l[o]?=some (.lit (.int .i32 n)))(j:n=enc s.w.L s.w.K s.w.S s.w.N)(m:l[o+1]?=some (.lit (.int .u32 0)))(d:s.ms=0):mE c o s=c:=by
 have b:o+1<c.size:=by grind
 apply acV;intro i;by_cases f:i=o
 . subst f
   rw[tV b,<-j,abo (by omega)];have:=e i c[i] _ (abo (by omega)) h;generalize c[i]=u at this;cases this;rfl
 by_cases g:i=o+1
 . subst g
   rw[tX b,d,abo b];have:=e _ _ _ (abo b) m;generalize c[o+1]=u at this;cases this;rfl
 rw[lR f g]
include C X in
def Gy(F:mP P n){m}(u:m.solo=true){a}(ha:jX b o a){σ q l}(d:σ b=some (.cells l))(w:l[o]?=some (.lit (.int .i32 0)))(f:l[o+1]?=some (.lit (.int .u32 0)))(h:q (.val (.cH [])) (σ.set b (.cells (l.set o (.lit (.int .i32 1)))))):aB P m n.lock [a] σ q:=by
 intro Q k O g c μ τ x y r z H;obtain⟨v,rfl,A⟩:=y.one;obtain rfl:=ha _ _ A;obtain⟨B,D,E,j,t,G⟩:=r.xh d;refine .phase (λk' O' g'=>T P m Q k' O' g') u (λ_ _ _ h=>h) (ja.phase ?_)
 have p:o+1<B.size:=by rw[j];exact(aaE.1 f).1
 have L:=Lk.obj (k:=k) (b:=b) (o:=o) O (e:=D) p;have:=yI (P:=P) (N:=λk' O' g'=>T P m Q k' O' g') C X F x L (c:=c) (μ:=μ) ?_
 . simp only[yJ (s:=gY) j t w rfl f rfl]at this
   rwa [aj.CC E]at this
 exact z k _ (.tuple #[]) (.cH []) _ (.refl k) (.cH _ _ rfl λi v a h=>by simp at h) (r.set (Bf (s:=eL) j t G f rfl)) h
include C X in
def CD(F:mP P n){m}(u:m.solo=true){a}(ha:jX b o a){σ q l}(d:σ b=some (.cells l))(w:l[o]?=some (.lit (.int .i32 1)))(f:l[o+1]?=some (.lit (.int .u32 0)))(h:q (.val (.cH [])) (σ.set b (.cells (l.set o (.lit (.int .i32 0)))))):aB P m n.unlock [a] σ q:=by
 intro Q k O g c μ τ x y r z H;obtain⟨v,rfl,A⟩:=y.one;obtain rfl:=ha _ _ A;obtain⟨B,D,E,j,t,G⟩:=r.xh d;refine .phase (λk' O' g'=>T P m Q k' O' g') u (λ_ _ _ h=>h) (ja.phase ?_)
 have p:o+1<B.size:=by rw[j];exact(aaE.1 f).1
 have L:=Lk.obj (k:=k) (b:=b) (o:=o) O (e:=D) p;have:=tY (P:=P) (N:=λk' O' g'=>T P m Q k' O' g') C X F x L (c:=c) (μ:=μ) ?_
 . simp only[yJ (s:=eL) j t w rfl f rfl]at this
   rwa [aj.CC E]at this
 exact z k _ (.tuple #[]) (.cH []) _ (.refl k) (.cH _ _ rfl λi v a h=>by simp at h) (r.set (Bf (s:=gY) j t G f rfl)) h
def Rel.del{σ}(h:Rel k O σ)  r :Rel k (O.del r) (σ.del r):=⟨λb a e c=>by
 by_cases hb:b=r
 . subst hb;simp[ab.del]at e
 . simp only[ab.del,hb,zD]at e
   obtain⟨x,d,f⟩:=h.1 b a e c;exact⟨x,by simp[aj.del,hb,d],f⟩,λb a e c=>by
 by_cases hb:b=r
 . subst hb;simp[ab.del]at e
 simp only[ab.del,hb,zD]at e;obtain⟨d,f⟩:=h.2 b a e c;exact⟨by simp[aj.del,hb,d],f⟩⟩
def Rel.iB{σ}(h:Rel k O σ)  r  (d:∃s,k.sh r=some s):Rel k (O.del r) (σ.set r .iB):=⟨λb a e c=>by
 by_cases hb:b=r
 . subst hb;simp[ab.set]at e;subst e;cases c
 . simp only[ab.set,hb,zD]at e
   obtain⟨x,f,g⟩:=h.1 b a e c;exact⟨x,by simp[aj.del,hb,f],g⟩,λb a e c=>by
 by_cases hb:b=r
 . subst hb;simp[ab.set]at e;exact⟨by simp[aj.del],d,λl q=>by simp_all⟩
 simp only[ab.set,hb,zD]at e;obtain⟨f,g⟩:=h.2 b a e c;exact⟨by simp[aj.del,hb,f],g⟩⟩
def T.sat{m Q}(b:g.status=.running)(h:(∃w,Sat k O w)->T P m Q k O g):T P m Q k O g:=by
 by_cases a:∃w,Sat k O w
 . exact h a
 exact .step (λ_ _ _=>False) b (λ_ _ _ h=>h.elim) λw c=>absurd ⟨w,c⟩ a
variable{A:bQ}{j:Nat}
def JS(hd:A.dir=false){a}(ha:jX A.fb A.fo a){σ p}(d:σ A.fb=some .iB)(h:∀x,A.GI x->(∀y,σ A.mb=some y->y.gone=true)->p (.val (.cH [])) ((σ.set A.mb x).set A.fb (.part MH))):aB P (iO P A j) A.nm.lock [a] σ p:=by
 intro Q k O g c μ τ r s l t E;obtain⟨v,rfl,u⟩:=s.one;obtain rfl:=ha _ _ u;obtain⟨w,⟨e,B⟩,_⟩:=l.2 _ _ d rfl;refine .dz (λk' O' g'=>T P (iO P A j) Q k' O' g') rfl (.inl ⟨τ,c,μ,e,r,rfl,w,B,λq=>by simp_all,λk' x y f b m n C D=>?_⟩) (λ_ _ _ h=>h);rw[show f=MH by simpa[bQ.Tk,hd]using D];refine t k' _ (.tuple #[]) (.cH []) _ b (.cH _ _ rfl λi v a h=>by simp at h) (((l.mono b).set m).set (.part _)) (h y n λz hz=>?_);cases o:z.gone with
 |true=>rfl
 | false=>
   obtain⟨F,G,_⟩:=l.1 _ z hz o
   simp_all
def EE(hd:A.dir=false){a}(ha:jX A.fb A.fo a){σ n f y}(b:σ A.fb=some (.part f))(p:σ A.mb=some y)(r:A.GI y)(d:y.gone=false)(h:n (.val (.cH [])) ((σ.del A.mb).set A.fb .iB)):aB P (iO P A j) A.nm.unlock [a] σ n:=by
 intro Q k O e c μ τ s t g u D;obtain⟨v,rfl,z⟩:=t.one;obtain rfl:=ha _ _ z;obtain⟨x,B,l⟩:=g.1 _ _ p d;have o:=g.Be b;refine T.sat rfl λ⟨w,C⟩=>?_
 obtain⟨E,F,_,m,_⟩:=C.part _ _ o;refine .dz (λk' O' g'=>T P (iO P A j) Q k' O' g') rfl (.inr (.inl ⟨τ,c,μ,f,x,y,s,rfl,o,B,l,r,λq=>by simp_all,?_⟩)) (λ_ _ _ h=>h);rw[show FQ P A (λk' O' g'=>T P (iO P A j) Q k' O' g')=λk' O' g'=>T P (iO P A j) Q k' O' g' by simp[FQ,hd]];exact u k _ (.tuple #[]) (.cH []) _ (.refl k) (.cH _ _ rfl λi v a h=>by simp at h) ((g.del A.mb).iB A.fb ⟨_,m⟩) h
end
section
variable{P:adT}(L:jJ P){o:Oper}{env:Env}{σ:ab}{K:adv}{Kp:adv}
def Bg{i d e}(h:dO P i d=true)(a:i.kind=.chan e):∃dir,d=.chan dir e:=by cases d<;>simp_all [dO]
def EF{t e:Nat}{x i h kd n}(l:o.op=.makeChan t x)(ht:L.tt t=some i)(m:i.kind=.chan e)(p:L.tt e=some h)(q:ak env x=.lit (.int kd n))(y:0<=n/\n<=1000000/\h.bytes<=1000000)
 (u:∀b,σ b=none->K (.chan b) (σ.set b (.raw (.chan n.toNat #[] false 0 0 false)))):aJ P o env σ K Kp:=
 aJ.val (s:=λf=>Instr.makeChan t (f x)) (λf=>by simp[execOp,l]) λk O f v j=>by
  have c:=v x (by simp_all)
  rw[q]at c;rw[dB c];unfold Instr.makeChan;refine af (ag ?_);refine af (aF L ht λd _ hd=>?_)
  obtain⟨dir,rfl⟩:=Bg hd m;simp only;refine af (dg L p λinfo _ _ hb _=>?_)
  have w:((info.bytes:Int)*n)<=1000000*1000000:=by rw[hb];exact Int.mul_le_mul (by omega) (by omega) (by omega) (by omega)
  have g:¬(n<0\/n>IntKind.i64.max\/(info.bytes:Int)*n>2 ^ 48-112):=by have:IntKind.i64.max=9223372036854775807:=rfl;omega
  rw[zA g];refine af (s:=newObj _) ⟨rfl,λr a=>ag ?_⟩
  exact .here ⟨.made a.2.2,_,_,.chan r,(j.mono (.made a.2.2)).set (.raw _ rfl),u r (j.isNone a.1 a.2.2)⟩
end
def yK(P:adT)(d:Deferred):adJ:=G {(default:Frame)with fn:=P.funcs.size,defers:=[d],mode:=.panicking [goexitEntry]} []
def Bh:Item->Bool
 |.inRegion _ []=>true
 |.inBlock _=>true
 |.inScope _=>true
 |.code .skip=>true
 |.code .ret=>true
 |_=>false
def yL{P f fn η}(b:P.funcs[f]?=some fn)(d:fn.results=#[]):∀  todo ,todo.all Bh=true->∃n,QuitsD P n 0 (G ⟨f,η,todo,[],.run,.deferred,none⟩ [cO P])
 |[],_=>⟨_,.ctl rfl (λw=>by simp[G,stepG,stepG.exec,lg]) (uS b d (todo:=[]) (η:=η))⟩
 | i ::k,h=>by
   simp only[abL,wL]at h;obtain⟨n,e⟩:=yL (η:=η) b d k h.2;by_cases a:i=.code .ret
   . subst a
     exact⟨_,.ctl rfl (λw=>by simp[G,stepG,stepG.exec,lg]) (uS b d (todo:=.code .ret::k) (η:=η))⟩
   refine⟨_,.ctl rfl (λw=>?_) e⟩;cases i with
   |code c=>cases c<;>first|(exact absurd rfl a)|(simp[Bh]at h;done)|simp[G,stepG,stepG.exec]
   |inRegion ζ l=>cases l<;>first|(simp[Bh]at h;done)|simp[G,stepG,stepG.exec]
   |_=>first|(simp[Bh]at h;done)|simp[G,stepG,stepG.exec]
section
variable{P:adT}{ξ n:Nat}{ro:adD}{s:St}{k:adH}{K:adt}{A:bQ}{Fin:adl}
def xy.none{m Q τ cs a}:xy P m Q ξ n ro τ cs (λ_ _=>False) a:=⟨λ_ _ _ _ _ _ _ _ _ _ h=>h.elim,λ_ _ _ _ _ _ _ _ _ _ _ h=>h.elim⟩
def yM{fn}:seen P fn #[]=#[]:=rfl
def Gz{fr cs x w cases b sh}(h:x.runT P w #[]=(.ok (.comm cases b sh) w,#[])):stepG.apply P true fr cs none x w=.comm (G fr cs) cases b sh w #[]:=by simp only[stepG.apply,Rp,h,ite_self,yM,GStep.after];rfl
def EG{fr cs x w f cap args}(h:x.runT P w #[]=(.ok (.spawn {target:=.fn f cap,args}) w,#[])):stepG.apply P true fr cs none x w=.spawn (G (fr.finish undef) cs) (yK P {target:=.fn f cap,args}) w #[]:=by simp only[stepG.apply,Rp,h,ite_self,yM,GStep.after];simp[yK,G]
def yN{b:Bool}{ζ i μ o ch x η θ τ cs}{m:Mo}{env d c}(r:ζ[i]?=some o)(f:o.op=.send ch x)(p:η.size=n)(q:gh d η env)(s:bZ ζ n env o)
 (g:Oper.ok n o=true) (h:ak env ch=.chan c)  w :
 ∃ v,V d v (ak env x)/\stepG P m.main (G ⟨ξ,η,.inRegion ζ (i::μ)::k,θ,.run,τ,ro⟩ cs) w=.comm (G ⟨ξ,η,.inRegion ζ (i::μ)::k,θ,.run,τ,ro⟩ cs) #[scase c v (.tuple #[])] true .send w #[]/\
   v=Frame.eval ⟨ξ,η,.inRegion ζ (i::μ)::k,θ,.run,τ,ro⟩ x:=by
 have a:∀y∈o.op.operands,V d (Frame.eval ⟨ξ,η,.inRegion ζ (i::μ)::k,θ,.run,τ,ro⟩ y) (ak env y):=λy A=>by
  refine V.eval q p y ?_;simp only[Oper.ok,wL,abn]at g
  grind
 have j:=a ch (by simp_all);have t:=a x (by simp_all);rw[h]at j;generalize u:Frame.eval ⟨ξ,η,.inRegion ζ (i::μ)::k,θ,.run,τ,ro⟩ ch=B at j;cases j;refine⟨_,t,?_,rfl⟩;rw[ew r (iC p q s) (.inr λc e=>by simp_all) w];have l:execOp (Frame.eval ⟨ξ,η,.inRegion ζ (i::μ)::k,θ,.run,τ,ro⟩) o=pure (.comm #[scase c (Frame.eval ⟨ξ,η,.inRegion ζ (i::μ)::k,θ,.run,τ,ro⟩ x) (.tuple #[])] true .send):=by simp[execOp,f,u,scase]
 rw[l];by_cases z:(τ==CallKind.early)=true<;>simp[stepG.apply,seen,z,GStep.after,G]
def wP{α}{f:TypeDesc->Sem α}{t d w es}(h:P.underlying t=some d):(underlying t >>=f).runT P w es=(f d).runT P w es:=by
 unfold underlying
 simp_all
def yO{α}{f:Value->Sem α}{t info z w es}(h:P.info? t=some info)(hz:info.zero=some z):(zeroValue t >>=f).runT P w es=(f z).runT P w es:=by
 unfold zeroValue typeInfo
 simp_all
def yP(L:jJ P){ok ζ i μ o ct ce v a ch η θ τ cs}{m:Mo}{env x c}(A:ζ[i]?=some o)(b:o.op=.recv ct ch ok)(f:L.tt ct=some v)(g:v.kind=.chan ce)(h:L.tt ce=some a)
 (y:η.size=n) (z:gh x η env) (B:bZ ζ n env o) (j:Oper.ok n o=true) (l:ak env ch=.chan c)  w :
 stepG P m.main (G ⟨ξ,η,.inRegion ζ (i::μ)::k,θ,.run,τ,ro⟩ cs) w=.comm (G ⟨ξ,η,.inRegion ζ (i::μ)::k,θ,.run,τ,ro⟩ cs) #[rcase c a.zero] true (.recv ok) w #[]:=by
 have p:V x (Frame.eval ⟨ξ,η,.inRegion ζ (i::μ)::k,θ,.run,τ,ro⟩ ch) (ak env ch):=by
  refine V.eval z y ch ?_;simp only[Oper.ok,wL,abn]at j
  simp_all
 rw[l]at p;generalize C:Frame.eval ⟨ξ,η,.inRegion ζ (i::μ)::k,θ,.run,τ,ro⟩ ch=D at p;cases p;rw[ew A (iC y z B) (.inr λc e=>by simp_all) w]
 obtain⟨⟨d,q,r⟩,_⟩:=L.facts f;obtain⟨dir,rfl⟩:=Bg r g;obtain⟨_,info,s,_,_,t,_⟩:=L.facts h
 have u:(execOp (Frame.eval ⟨ξ,η,.inRegion ζ (i::μ)::k,θ,.run,τ,ro⟩) o).runT P w #[]=(.ok (.comm #[rcase c a.zero] true (.recv ok)) w,#[]):=by simp only[execOp,b,C];rw[wP q];simp only;rw[yO s t];rfl
 exact Gz u
def EH{ζ i μ o fo args h f first cap η θ τ cs}{m:Mo}{env d}(A:ζ[i]?=some o)(j:o.op=.go ⟨.value fo,args,h⟩)
 (r:η.size=n) (s:gh d η env) (B:bZ ζ n env o) (l:Oper.ok n o=true) (p:ak env fo=.fn f first cap):
 ∃ t u,Vs d t cap/\Vs d u (first++args.toList.map (ak env))/\∀w,stepG P m.main (G ⟨ξ,η,.inRegion ζ (i::μ)::k,θ,.run,τ,ro⟩ cs) w=
   .spawn (G (Frame.finish ⟨ξ,η,.inRegion ζ (i::μ)::k,θ,.run,τ,ro⟩ undef) cs) (yK P {target:=.fn f t.toArray,args:=u.toArray}) w #[]:=by
 have b:∀x∈o.op.operands,V d (Frame.eval ⟨ξ,η,.inRegion ζ (i::μ)::k,θ,.run,τ,ro⟩ x) (ak env x):=λx C=>by
  refine V.eval s r x ?_;simp only[Oper.ok,wL,abn]at l
  grind
 have q:=b fo (by simp_all);rw[p]at q;generalize D:Frame.eval _ fo=cf at q;cases q with
 | fn _ g y J K L E M F=>
   have H:=Vs.ofArray (k:=d) (ρ:=Frame.eval ⟨ξ,η,.inRegion ζ (i::μ)::k,θ,.run,τ,ro⟩) (env:=env) (xs:=args) (λx C=>b x (by simp_all));refine⟨y.toList,g.toList++(args.map (Frame.eval ⟨ξ,η,.inRegion ζ (i::μ)::k,θ,.run,τ,ro⟩)).toList,⟨by omega,λi v a z ha=>F i v a (by grind) ha⟩,Vs.append ⟨by omega,λi v a z ha=>E i v a (by grind) ha⟩ ⟨by grind,λi v a z ha=>H.2 i v a (by grind) ha⟩,λw=>?_⟩;rw[ew A (iC r s B) (.inr λc e=>by simp_all) w];refine(EG (f:=f) (cap:=y) (args:=g++args.map (Frame.eval ⟨ξ,η,.inRegion ζ (i::μ)::k,θ,.run,τ,ro⟩)) ?_).trans ?_
   . simp only[execOp,j,resolve,D,Deferred.ofValue]
     rfl
   have I:∀x:ady,(g.toList++x.toList).toArray=g++x:=λx=>by grind
   rw[I,Array.toArray_toList]
def GA{m Q kk O η θ τ cs f fn ζ i μ o args j}(z:ζ[i]?=some o)(p:o.op=.call ⟨.value (.func f),args,j⟩)(A:bZ ζ n s.env o)(q:Oper.ok n o=true)
 (B:P.funcs[f]?=some fn) (hb:fn.body.isSome=true) (t:(fn.name==  "runtime.NumGoroutine")=false) (g:Dp n kk O η θ τ cs s)
 (h:∀cargs,Vs kk cargs (args.toList.map (ak s.env))->T P m Q kk O (G (Frame.enter P f cargs.toArray .normal) (⟨ξ,η,.inRegion ζ (i::μ)::k,θ,.run,τ,ro⟩::gJ s.rc cs))):T P m Q kk O (G ⟨ξ,η,.inRegion ζ (i::μ)::k,θ,.run,τ,ro⟩ (gJ s.rc cs)):=by
 refine T.oy (λw=>ew z (iC g.size g.env A) (.inr λc e=>by simp_all) w) (dZ ?_)
 have b:∀x∈o.op.operands,V kk (Frame.eval ⟨ξ,η,.inRegion ζ (i::μ)::k,θ,.run,τ,ro⟩ x) (ak s.env x):=λx y=>by
  refine V.eval g.env g.size x ?_;simp only[Oper.ok,wL,abn]at q
  grind
 have C:=Vs.ofArray (k:=kk) (ρ:=Frame.eval ⟨ξ,η,.inRegion ζ (i::μ)::k,θ,.run,τ,ro⟩) (env:=s.env) (xs:=args) (λx y=>b x (by simp_all))
 have u:fn.body.isNone=false:=by cases y:fn.body<;>simp_all
 simp only[execOp,p,resolve];refine af ?_;show dT P (Deferred.ofValue (.func (.func f) #[] #[]) _) kk O _ _;simp only[Deferred.ofValue];refine ag ?_;simp only[invoke,callFunc];refine af (bz ?_);rw[B];simp only[t,u,zs,zD];refine ag λ_=>⟨λd w r s l=>by simp,?_⟩
 have:=h (args.map (Frame.eval ⟨ξ,η,.inRegion ζ (i::μ)::k,θ,.run,τ,ro⟩)).toList ⟨by grind,λi v a D ha=>C.2 i v a (by grind) ha⟩
 have key:∀x:ady,x=(args.map (Frame.eval ⟨ξ,η,.inRegion ζ (i::μ)::k,θ,.run,τ,ro⟩)).toList.toArray->T P m Q kk O (G (Frame.enter P f x .normal) (⟨ξ,η,.inRegion ζ (i::μ)::k,θ,.run,τ,ro⟩::gJ s.rc cs)):=λx e=>by grind
 grind
def rV(P:adT)(m:Mo)(ξ n:Nat)(ro:adD)(K:adt)(kd:adP)(a:adE)(b:ar)(Fin:adl):Prop:=∀todo s k' O' η θ,Go P m ξ n ro todo s K->s.rc=.no->Dp n k' O' η θ kd a s->b.Le k'->Fin k' O' (G ⟨ξ,η,todo,θ,.run,kd,ro⟩ a)
def Go.Ni{m ζ i μ o args f fn}(r:ζ[i]?=some o)(g:o.op=.call ⟨.value (.func A.ng.add),args,f⟩)(u:bZ ζ n s.env o)(j:Oper.ok n o=true)
 (w:P.funcs[A.ng.add]?=some fn) (hb:fn.body.isSome=true) (l:(fn.name==  "runtime.NumGoroutine")=false) (ha:args.toList.map (ak s.env)=[.ref A.gb 0,.lit (.int .i64 1)])
 (h:Go P (Gk P A Fin m) ξ n ro (.inRegion ζ μ::k) {s with env:=bp s.env o.dst (.cH [])} (λ_ _=>False)):Go P (pI P A Fin (m+1)) ξ n ro (.inRegion ζ (i::μ)::k) s K:=by
 intro Q kk O η θ τ cs p q E;refine GA r g u j w hb l q λb t=>?_
 rw[ha]at t;obtain⟨z,c⟩:=t
 have e:b.toArray=#[.pointer (some ⟨A.gb,0,none⟩),.int .i64 1]:=by
  match b,z,c with
  |[x,y],_,c=>have B:=c 0 x _ rfl rfl;have p:=c 1 y _ rfl rfl;cases B;cases p;rfl
 rw[e];refine .dz iv rfl ⟨rfl,_,_,rfl,?_⟩ (λ_ _ _ h=>h.elim);obtain⟨d,C,D⟩:=q.put (ξ:=ξ) (ro:=ro) (μ:=μ) (kk:=k) (σ':=s.σ) (v:=.tuple #[]) (a:=.cH []) (.refl kk) r (.cH _ _ rfl λi v a h=>by simp at h) q.rel;show T P (Gk P A Fin m) iv kk O (G (Frame.finish ⟨ξ,η,.inRegion ζ (i::μ)::k,θ,.run,τ,ro⟩ (.tuple #[])) (gJ s.rc cs));rw[C];exact h iv kk O d θ τ cs p D .none
def ki(b:Nat):ab:=λc=>if c=b then some .iB else none
def IA{m}{f:FuncId}{fn body cap args σ0}{KE:ar->adt}(k:P.funcs[f]?=some fn)(hb:fn.body=some body)(n:(fn.name==  "runtime.NumGoroutine")=false)(q:(args++cap).length<=fn.ntmps){kk}(d:Rel kk aj.bot σ0)
 (o:xy P m iv f fn.ntmps none .deferred [cO P] (KE kk) kk)
 (h:∀l,Go P m f fn.ntmps none [.code body] ⟨dG (args++cap),σ0,[],.told .deferred [cO P] l⟩ (KE l)){a b}(g:Vs kk a cap) (i:Vs kk b args):
 T P m iv kk aj.bot (yK P {target:=.fn (.func f) a.toArray,args:=b.toArray}):=by
 have p:fn.body.isNone=false:=by simp[hb]
 have hinv:∀w,(invoke (.fn (.func f) a.toArray) b.toArray).runT P w #[]=(.ok (.enter f (b++a).toArray) w,#[]):=λw=>by
  show Sem.runT P (callFunc f (b.toArray++a.toArray)) w #[]=_;unfold callFunc;rw[hQ,k]
  simp_all
 refine T.dA (g':=G (Frame.enter P f (b++a).toArray .deferred) [cO P]) rfl (λw=>?_) ?_
 . simp only[yK,G,stepG,unwind,callDeferred,hinv]
   simp;rfl
 have c:=i.append g;have e:Frame.enter P f (b++a).toArray .deferred=⟨f,(b++a).toArray++Array.replicate (fn.ntmps-(b++a).length) undef,[.code body],[],.run,.deferred,none⟩:=by simp[Frame.enter,k,hb]
 have j:((b++a).toArray++Array.replicate (fn.ntmps-(b++a).length) undef).size=fn.ntmps:=by
  have:=c.1
  simp_all
 rw[e];exact h kk iv kk aj.bot _ [] .deferred [cO P] (by simp) ⟨j,uH c _,d,trivial,rfl,rfl,.refl kk⟩ o
def Tb(P:adT)(A:bQ)(fn:Func):adt:=λe s=>fn.results=#[]/\(e=.leave none\/e=.leave (some .ret))/\(∃a,s.rc=.told .deferred [cO P] a)/\∃r,s.D=[.mark r,.call (.func A.ng.done) [] [.ref A.gb 0]]/\s.σ r=some (.raw (.deferred (some [])))
def JU{f:FuncId}{fn fd}(hf:P.funcs[f]?=some fn)(d:P.funcs[A.ng.done]?=some fd)(z:fd.body.isSome=true)(a:(fd.name==  "runtime.NumGoroutine")=false){kk}:xy P (lF P A) iv f fn.ntmps none .deferred [cO P] (Tb P A fn) kk where
 leave k' O' η θ s todo n hle hs B e:=by
  obtain⟨b,I,⟨J,c⟩,r,o,p⟩:=e;obtain⟨env,σ,D,rc⟩:=s;simp only at c o p;subst c o;show T P (lF P A) iv k' O' (G ⟨f,η,todo,θ,.run,.deferred,none⟩ [cO P]);have g:=hs.ds
  match θ,g with
  | [d1,d2],⟨q,t,_⟩=>
    simp only[uF]at q t;obtain⟨C,E,rfl,i,j⟩:=t;subst q;have e1:C=#[]:=by have:=i.1;simp_all
    have e2:E=#[.pointer (some ⟨A.gb,0,none⟩)]:=by
     obtain⟨v,L,k⟩:=Vs.one j;cases k
     grind
    subst e1 e2;refine T.dA (g':=G ⟨f,η,todo,[{target:=.collected r,args:=#[]},{target:=.fn (.func A.ng.done) #[],args:=#[.pointer (some ⟨A.gb,0,none⟩)]}],.returning,.deferred,none⟩ [cO P]) rfl (λw=>?_) ?_
    . rcases B with⟨rfl,rfl⟩|⟨kk,rfl,rfl⟩|⟨_,_,_,_,rfl⟩
      . simp[G,stepG,stepG.exec]
      . simp[G,stepG,stepG.exec]
      grind
    refine T.DF (ξ:=f) (s:=Instr.takeDeferred r) rfl (K:=λcalls u F=>calls=[]/\u=k') (nxt:=λcalls w=>.go (G ⟨f,η,todo,calls++[{target:=.fn (.func A.ng.done) #[],args:=#[.pointer (some ⟨A.gb,0,none⟩)]}],.returning,.deferred,none⟩ [cO P]) w) ?_ ?_ ?_
    . rintro calls u F w' _ _ ⟨rfl,rfl⟩
      refine⟨_,rfl,?_⟩
      have hinv:∀w,(invoke (.fn (.func A.ng.done) #[]) #[.pointer (some ⟨A.gb,0,none⟩)]).runT P w #[]=(.ok (.enter A.ng.done #[.pointer (some ⟨A.gb,0,none⟩)]) w,#[]):=λw=>by
       show Sem.runT P (callFunc A.ng.done _) w #[]=_;unfold callFunc;have l:fd.body.isNone=false:=by simp_all
       rw[hQ,d];simp only[a,l,zs,zD];simp
      refine T.dA (g':=G (Frame.enter P A.ng.done #[.pointer (some ⟨A.gb,0,none⟩)] .deferred) [lg P f η todo,cO P]) rfl (λw=>?_) ?_
      . simp only[G,stepG,unwind,callDeferred,hinv,acT]
        simp;rfl
      exact .dz iv rfl ⟨rfl,f,fn,η,todo,hf,b,rfl⟩ (λ_ _ _ h=>h.elim)
    . intro w v w' y
      simp only[G,stepG,unwind]
      simp_all
    obtain⟨x,hx,m⟩:=hs.rel.1 r _ p (by simp);cases m with
    |raw _ hc=>unfold Instr.takeDeferred;refine af (s:=getObj r) ⟨_,hx,rfl,?_⟩;exact af (s:=setObj r _) ⟨⟨_,hx,rfl⟩,rfl,ag ⟨rfl,rfl⟩⟩
 panic k' O' η θ s todo M N hle hs H e:=by obtain⟨_,h|h,_⟩:=e<;>cases h
def EI{kk O σ b}(d:Rel kk O σ)(h:σ b=some .iB):Rel kk aj.bot (ki b):=by
 refine⟨λc a e f=>?_,λc a e _=>?_⟩
 . unfold ki at e
   split at e
   . cases e;cases f
   cases e
 unfold ki at e;split at e
 . next q=>subst q;cases e;exact⟨rfl,(d.2 _ _ h rfl).2.1,λl q=>by cases q⟩
 cases e
def Go.Jg{m KE ζ i μ o fo args c f fn body first cap}(u:ζ[i]?=some o)(d:o.op=.go ⟨.value fo,args,c⟩)(v:bZ ζ n s.env o)(e:Oper.ok n o=true)
 (g:ak s.env fo=.fn (.func f) first cap) (x:P.funcs[f]?=some fn) (hb:fn.body=some body) (j:(fn.name==  "runtime.NumGoroutine")=false) (y:((first++args.toList.map (ak s.env))++cap).length<=fn.ntmps) (l:s.σ A.fb=some .iB) (p:∀kk,xy P (iO P A (A.n-(m+1))) iv f fn.ntmps none .deferred [cO P] KE kk)
 (z:∀B,Go P (iO P A (A.n-(m+1))) f fn.ntmps none [.code body] ⟨dG ((first++args.toList.map (ak s.env))++cap),ki A.fb,[],.told .deferred [cO P] B⟩ KE)
 (h:Go P (pI P A Fin m) ξ n ro (.inRegion ζ μ::k) {s with env:=bp s.env o.dst .cJ} (λ_ _=>False)):Go P (Gk P A Fin m) ξ n ro (.inRegion ζ (i::μ)::k) s K:=by
 intro Q kk O η θ τ cs C b F;obtain⟨G,H,q,r,t⟩:=EH (P:=P) (ξ:=ξ) (k:=k) (μ:=μ) (θ:=θ) (τ:=τ) (ro:=ro) (cs:=gJ s.rc cs) (m:=Gk P A Fin m) u d b.size b.env v e g;obtain⟨a,D,E⟩:=b.put (ξ:=ξ) (ro:=ro) (μ:=μ) (kk:=k) (σ':=s.σ) (.refl kk) u (.cJ undef) b.rel;refine .dz iv rfl ⟨rfl,_,_,λw _=>t w,IA (KE:=λ_=>KE) x hb j y (EI b.rel l) (p _) z q r,?_⟩ (λ_ _ _ h=>h.elim);rw[D];exact h iv kk O a θ τ cs C E .none
def Go.Yk(u:A.dir=false){ζ i μ o fo args d f fn body first cap}(v:ζ[i]?=some o)(e:o.op=.go ⟨.value fo,args,d⟩)(x:bZ ζ n s.env o)(g:Oper.ok n o=true)
 (j:ak s.env fo=.fn (.func f) first cap) (y:P.funcs[f]?=some fn) (hb:fn.body=some body) (l:(fn.name==  "runtime.NumGoroutine")=false) (z:((first++args.toList.map (ak s.env))++cap).length<=fn.ntmps) (p:s.σ A.fb=some .iB)
 (B:∀C,Go P (yq P A) f fn.ntmps none [.code body] ⟨dG ((first++args.toList.map (ak s.env))++cap),ki A.fb,[],.told .deferred [cO P] C⟩ (λ_ _=>False))
 (h:Go P (rU P A Fin A.n (List.range A.n)) ξ n ro (.inRegion ζ μ::k) {s with env:=bp s.env o.dst .cJ} (λ_ _=>False)):Go P (pI P A Fin 0) ξ n ro (.inRegion ζ (i::μ)::k) s K:=by
 intro Q kk O η θ τ cs D b G;obtain⟨H,I,q,r,t⟩:=EH (P:=P) (ξ:=ξ) (k:=k) (μ:=μ) (θ:=θ) (τ:=τ) (ro:=ro) (cs:=gJ s.rc cs) (m:=pI P A Fin 0) v e b.size b.env x g j;obtain⟨a,E,F⟩:=b.put (ξ:=ξ) (ro:=ro) (μ:=μ) (kk:=k) (σ':=s.σ) (.refl kk) v (.cJ undef) b.rel;have c:pI P A Fin 0=_:=zA (by simp_all);rw[c];refine .dz iv rfl ⟨rfl,_,_,λw _=>by have:=t w;rw[c]at this;exact this,IA (KE:=λ_ _ _=>False) y hb l z (EI b.rel p) .none B q r,?_⟩ (λ_ _ _ h=>h.elim);rw[E];exact h iv kk O a θ τ cs D F .none
def Go.Nj(f:A.dir=false){j ζ i μ o ch x fn fd D}(r:ζ[i]?=some o)(g:o.op=.send ch x)(l:Oper.ok n o=true)(C:bZ ζ n s.env o)(p:ak s.env ch=.chan A.cF)(L:ak s.env x=A.res j)
 (t:s.σ A.fb=some .iB) (u:s.rc=.told .deferred [cO P] D) (y:ro=none) (E:P.funcs[ξ]?=some fn) (F:n=fn.ntmps) (z:P.funcs[A.ng.done]?=some fd) (B:fd.body.isSome=true) (q:(fd.name==  "runtime.NumGoroutine")=false)
 (h:Go P (lF P A) ξ n ro (.inRegion ζ μ::k) {s with env:=bp s.env o.dst (.lit undef)} (Tb P A fn)):Go P (iO P A j) ξ n ro (.inRegion ζ (i::μ)::k) s K:=by
 intro Q kk O η θ τ cs H a M;have c:=a.rc;rw[u]at c;obtain⟨rfl,rfl,I⟩:=c;subst y F;obtain⟨d,N,J⟩:=a.put (ξ:=ξ) (ro:=none) (μ:=μ) (kk:=k) (σ':=s.σ) (.refl kk) r (.lit undef) a.rel;have ht:=h iv kk O d θ .deferred [cO P] H J (JU E z B q);refine .dz iv rfl (.inr (.inr ⟨f,rfl,(a.rel.2 _ _ t rfl).1,G ⟨ξ,η,.inRegion ζ (i::μ)::k,θ,.run,.deferred,none⟩ (gJ s.rc [cO P]),.tuple #[],Frame.eval ⟨ξ,η,.inRegion ζ (i::μ)::k,θ,.run,.deferred,none⟩ x,λw _=>?_,?_,?_⟩)) (λ_ _ _ h=>h.elim)
 . obtain⟨v,_,e,rfl⟩:=yN (P:=P) (m:=iO P A j) (b:=false) r g a.size a.env C l p w (ξ:=ξ) (ro:=none) (k:=k) (μ:=μ) (θ:=θ) (τ:=.deferred) (cs:=gJ s.rc [cO P])
   exact e
 . obtain⟨v,R,_,rfl⟩:=yN (P:=P) (m:=iO P A j) (b:=false) r g a.size a.env C l p default (ξ:=ξ) (ro:=none) (k:=k) (μ:=μ) (θ:=θ) (τ:=.deferred) (cs:=gJ s.rc [cO P])
   simp_all
 show T P (lF P A) iv kk O (G (Frame.finish ⟨ξ,η,.inRegion ζ (i::μ)::k,θ,.run,.deferred,none⟩ undef) (gJ s.rc [cO P]))
 simp_all
def Go.Nk{ζ i μ o args d fn}(p:ζ[i]?=some o)(e:o.op=.call ⟨.value (.func A.ng.wait),args,d⟩)(r:bZ ζ n s.env o)(f:Oper.ok n o=true)
 (t:P.funcs[A.ng.wait]?=some fn) (hb:fn.body.isSome=true) (g:(fn.name==  "runtime.NumGoroutine")=false) (ha:args.toList.map (ak s.env)=[.ref A.gb 0])
 (h:Go P (sB P A) ξ n ro (.inRegion ζ μ::k) {s with env:=bp s.env o.dst (.cH [])} (λ_ _=>False)):Go P (yq P A) ξ n ro (.inRegion ζ (i::μ)::k) s K:=by
 intro Q kk O η θ τ cs u j y;refine GA p e r f t hb g j λl q=>?_
 rw[ha]at q;obtain⟨v,rfl,m⟩:=Vs.one q;cases m;refine .dz iv rfl ⟨rfl,_,_,rfl,λk' c=>?_⟩ (λ_ _ _ h=>h.elim);obtain⟨b,w,x⟩:=j.put (ξ:=ξ) (ro:=ro) (μ:=μ) (kk:=k) (σ':=s.σ) (v:=.tuple #[]) (a:=.cH []) c p (.cH _ _ rfl λi v a h=>by simp at h) (j.rel.mono c);show T P (sB P A) iv k' O (G (Frame.finish ⟨ξ,η,.inRegion ζ (i::μ)::k,θ,.run,τ,ro⟩ (.tuple #[])) (gJ s.rc cs));rw[w];exact h iv k' O b θ τ cs u x .none
def GB{c s r tm w a ty cs}(h:w.heap[c]?=some (.chan 0 #[] false s r tm)):
 (invoke (.builtin .close a ty cs) #[.chan (some c)]).runT P w #[]=(.ok (.value (.tuple #[])) {w with heap:=w.heap.setIfInBounds c (.chan 0 #[] true s r tm)},#[⟨.obj c,false,true⟩,⟨.obj c,true,true⟩]):=by
 change Sem.runT P (Sem.getObj c _) w #[]=_;rw[Sem.runT,h];change Sem.runT P (Sem.setObj c _ _) w _=_;rw[Sem.runT,h];rfl
def EJ{fr cs x w w' v es}(a:(fr.kind==.early)=false)(h:x.runT P w #[]=(.ok (.value v) w',es))(b:seen P fr.fn es=es):stepG.apply P true fr cs none x w=.go (G (fr.finish v) cs) w' es:=by simp only[stepG.apply,Rp,h,a,GStep.after];simp[b,G]
def Go.GC{ζ i μ o ch g fn y}(j:ζ[i]?=some o)(e:o.op=.call ⟨.builtin .close,#[ch],g⟩)(l:Oper.ok n o=true)(B:o.guard=none)(a:ak s.env ch=.chan A.cF)
 (f:s.rc=.told .deferred [cO P] y) (z:s.D=[]) (p:ro=none) (C:P.funcs[ξ]?=some fn) (E:fn.results=#[]) (F:(Item.inRegion ζ μ::k).all Bh=true):Go P (sB P A) ξ n ro (.inRegion ζ (i::μ)::k) s K:=by
 intro Q kk O η θ τ cs J d L;obtain⟨env,σ,D,rc⟩:=s;simp only at f z;subst f;subst z;subst p;obtain⟨rfl,rfl,H⟩:=d.rc;have b:θ=[]:=by cases θ with|nil=>rfl|cons _ _=>exact d.ds.elim
 subst b;obtain⟨c,M,R⟩:=d.put (ξ:=ξ) (ro:=none) (μ:=μ) (kk:=k) (σ':=σ) (v:=.tuple #[]) (.refl kk) j (.cJ _) d.rel;obtain⟨N,S⟩:=yL (η:=c) C E _ F
 have q:V kk (Frame.eval ⟨ξ,η,.inRegion ζ (i::μ)::k,[],.run,.deferred,none⟩ ch) (ak env ch):=by
  refine V.eval d.env d.size ch ?_;simp only[Oper.ok,wL,abn]at l
  simp_all
 simp only at a;rw[a]at q;generalize t:Frame.eval ⟨ξ,η,.inRegion ζ (i::μ)::k,[],.run,.deferred,none⟩ ch=T at q;cases q;refine .dz iv rfl ⟨rfl,G (Frame.finish ⟨ξ,η,.inRegion ζ (i::μ)::k,[],.run,.deferred,none⟩ (.tuple #[])) [cO P],N,?_,λw s r I U a=>?_,?_⟩ (λ_ _ _ h=>h.elim)
 . simp[mayWake,G,gJ,j,e]
 . have u:Region.wanted o (yielded ζ η)=true:=by simp[Region.wanted,B]
   have x:(execOp (Frame.eval ⟨ξ,η,.inRegion ζ (i::μ)::k,[],.run,.deferred,none⟩) o).runT P w #[]=(.ok (.value (.tuple #[])) {w with heap:=w.heap.setIfInBounds A.cF (.chan 0 #[] true s r I)},#[⟨.obj A.cF,false,true⟩,⟨.obj A.cF,true,true⟩]):=by
    simp only[execOp,e,resolve];have:(#[ch].map (Frame.eval ⟨ξ,η,.inRegion ζ (i::μ)::k,[],.run,.deferred,none⟩))=#[.chan (some A.cF)]:=by simp[t]
    rw[this];exact GB (cs:=#[]) a
   rw[show gJ (Rec.told CallKind.deferred [cO P] y) [cO P]=[cO P]from rfl];refine(ew (m:=sB P A) j u (.inl rfl) w).trans ?_;exact EJ (by simp) x (by simp[seen])
 simp_all
def Go.IB(L:jJ P){m R ζ i μ o ct ce x B ch}(y:ζ[i]?=some o)(g:o.op=.recv ct ch true)(l:L.tt ct=some x)(p:x.kind=.chan ce)(q:L.tt ce=some B)
 (r:Oper.ok n o=true) (C:bZ ζ n s.env o) (t:ak s.env ch=.chan A.cF)
 (h:∀j∈R,Go P (rU P A Fin m (R.erase j)) ξ n ro (.inRegion ζ μ::k) {s with env:=bp s.env o.dst (.cH [A.res j,.lit (.bool true)])} (λ_ _=>False)):Go P (rU P A Fin (m+1) R) ξ n ro (.inRegion ζ (i::μ)::k) s K:=by
 intro Q kk O η θ τ cs D f I;have c:=yP (P:=P) (ξ:=ξ) (k:=k) (μ:=μ) (θ:=θ) (τ:=τ) (ro:=ro) (cs:=gJ s.rc cs) (m:=rU P A Fin (m+1) R) L y g l p q f.size f.env C r t;refine .dz iv rfl ⟨rfl,_,_,λw _=>c w,λw _=>c w,rfl,λj E k' v d J=>?_⟩ (λ_ _ _ h=>h.elim)
 have e:V k' (.tuple #[v,.bool true]) (.cH [A.res j,.lit (.bool true)]):=.cH _ _ rfl λi u a z ha=>by
  match i with
  |0=>simp_all
  |1=>simp at z ha;subst z;subst ha;exact .lit _
  |i+2=>simp at ha
 obtain⟨b,F,H⟩:=f.put (ξ:=ξ) (ro:=ro) (μ:=μ) (kk:=k) (σ':=s.σ) d y e (f.rel.mono d);show T P (rU P A Fin m (R.erase j)) iv k' O (G (Frame.finish ⟨ξ,η,.inRegion ζ (i::μ)::k,θ,.run,τ,ro⟩ _) (gJ s.rc cs));rw[F];exact h j E iv k' O b θ τ cs D H .none
def Go.CE(L:jJ P){m I kd f J R ζ i μ o ct ce M N ch}(S:ζ[i]?=some o)(t:o.op=.recv ct ch true)(v:L.tt ct=some M)(y:M.kind=.chan ce)(z:L.tt ce=some N)
 (B:Oper.ok n o=true) (T:bZ ζ n s.env o) (C:ak s.env ch=.chan A.cF) (D:s.σ A.fb=some .iB) (g:s.rc=.told kd f J) (j:rV P m ξ n ro I kd f J Fin)
 (h:∀a,A.GI a->Go P m ξ n ro (.inRegion ζ μ::k) {s with env:=bp s.env o.dst (.cH [.cJ,.lit (.bool false)]),σ:=(s.σ.set A.mb a).set A.fb (.part (bK A.fo)),rc:=.no} I):Go P (rU P A Fin 0 R) ξ n ro (.inRegion ζ (i::μ)::k) s K:=by
 intro Q kk O η θ τ cs W e X;have l:=yP (P:=P) (ξ:=ξ) (k:=k) (μ:=μ) (θ:=θ) (τ:=τ) (ro:=ro) (cs:=gJ s.rc cs) (m:=rU P A Fin 0 R) L S t v y z e.size e.env T B C;have b:=e.rc;rw[g]at b;obtain⟨rfl,rfl,E⟩:=b;refine .dz iv rfl ⟨rfl,_,_,λw _=>l w,λw _=>l w,rfl,(e.rel.2 _ _ D rfl).2.1,λk' x a c F H=>?_⟩ (λ_ _ _ h=>h.elim)
 have p:V k' (.tuple #[N.zero,.bool false]) (.cH [.cJ,.lit (.bool false)]):=.cH _ _ rfl λi u a q ha=>by
  match i with
  |0=>simp at q ha;subst q;subst ha;exact .cJ _
  |1=>simp at q ha;subst q;subst ha;exact .lit _
  |i+2=>simp at ha
 obtain⟨d,U,r⟩:=e.put (ξ:=ξ) (ro:=ro) (μ:=μ) (kk:=k) (σ':=(s.σ.set A.mb a).set A.fb (.part (bK A.fo))) (O':=(O.set A.mb x).set A.fb (.part (bK A.fo))) c S p (((e.rel.mono c).set F).set (.part _));show Fin k' _ (G (Frame.finish ⟨ξ,η,.inRegion ζ (i::μ)::k,θ,.run,τ,ro⟩ _) (gJ s.rc cs));rw[U,g];exact j _ _ k' _ d θ (h a H) rfl ⟨r.size,r.env,r.rel,r.ds,trivial⟩ (E.trans c)
def T.V6{m Q kk O}:∀  n  {g a},jI P (λ_=>True) n g a->T P m Q kk O a->T P m Q kk O g
 |0,g,a,h,b=>by obtain rfl:g=a:=h;exact b
 |n+1,g,a,⟨c,d,h⟩,b=>.step (λk' O' g'=>k'=kk/\O'=O/\g'=c) d.1 (λk' O' g' e=>by obtain⟨rfl,rfl,rfl⟩:=e;exact T.V6 n h b) λw f=>⟨c,w,#[],kk,O,d.2 _ w trivial,Eff.refl _ _ _,f,rfl,rfl,rfl⟩
def Go.R7{m todo}(f:m.solo=true)(B:iw)(C:iu P B.ng)(X:iW P B.ng)(CM:ib P B.nm)(XM:ig P B.nm)(F:mP P B.nm){a E σ'}
 (J:B.dir=false->∃tm,s.σ B.cF=some (.raw (.chan 0 #[] false 0 0 tm))) (hG:s.σ B.gb=some (.cells [.lit (.int .u64 0),.lit (.int .u32 0)])) (hL:s.σ B.fb=some (.part E)) (L:E B.fo=some (.int .i32 0)) (M:E (B.fo+1)=some (.int .u32 0)) (N:B.dir=true->∀j,j<B.n->E (B.fo+2+j)≠none)
 (hM:s.σ B.mb=some a) (R:a.gone=false) (S:B.GI a) (U:s.rc=.no) (p:∀d y,σ' d=some y->(d=B.fb/\y=.iB)\/(d≠B.fb/\d≠B.mb/\d≠B.gb/\(B.dir=false->d≠B.cF)/\s.σ d=some y))
 (h:∀  b   hb   Fin   kd   q   k0 ,rV P m ξ n ro K kd q k0 Fin ->
   Go P (pI P (B.at b hb) Fin B.n) ξ n ro todo {s with σ:=σ',rc:=.told kd q k0} (λ_ _=>False)):Go P m ξ n ro todo s K:=by
 intro Q G O η θ τ cs h1 c h3;rw[U];refine T.sat rfl λ⟨w,r⟩=>?_
 obtain⟨xG,oG,rG⟩:=c.rel.1 _ _ hG (by simp)
 obtain⟨xM,oM,rM⟩:=c.rel.1 _ _ hM R;have oL:=c.rel.Be hL;cases rG with
 | cells H eg _ q1 q2 q3=>
   have hg:∀(i:Nat) (v:Value),([.lit (.int .u64 0),.lit (.int .u32 0)]:adQ)[i]?=some (AV.lit v)->H[i]?=some v:=λi v hv=>by
    have V:i<H.size:=by grind
    have t:=q2 i H[i] _ (by simp[V]) hv
    generalize hq:H[i]=u at t;cases t
    grind
   obtain⟨ec,cc,_,A,_⟩:=r.part _ _ oL
   refine .phase (λk' O' g'=>T P m Q k' O' g') f (λ_ _ _ h=>h) (Gw B C X CM XM F (λhd=>by
    obtain⟨tm,J⟩:=J hd;obtain⟨xF,oF,rF⟩:=c.rel.1 _ _ J (by simp)
    cases rF
    simp_all) oG (hg 0 _ rfl) (hg 1 _ rfl) oL L M N (λn k' O' g' gB h hT=>T.V6 n h hT) oM rM S λb hb=>?_)
   have D:rV P m ξ n ro K τ cs G (λk' O' g'=>T P m Q k' O' g'):=λW s' k' O' g k o hn hs Y=>by have:=o Q k' O' g k τ cs h1 hs (h3.mono Y);rw[hn]at this;exact this
   have o:=h b hb _ τ cs G D;refine o iv G _ η θ τ cs h1 ⟨c.size,c.env,⟨λd y e I=>?_,λd y e I=>?_⟩,c.ds,rfl,rfl,.refl G⟩ .none
   . rcases p d y e with⟨rfl,rfl⟩|⟨d1,d2,d3,d4,e⟩
     . cases I
     obtain⟨x,z1,Z⟩:=c.rel.1 d y e I;exact⟨x,by simp only[iw.rest];grind,Z⟩
   rcases p d y e with⟨rfl,rfl⟩|⟨d1,d2,d3,d4,e⟩
   . exact⟨by simp[iw.rest],⟨_,A⟩,λl z=>by cases z⟩
   obtain⟨z1,Z⟩:=c.rel.2 d y e I;exact⟨by simp[iw.rest,z1],Z⟩
def Go.cj{m todo}(c:m.solo=true)(B:iw)(p:B.dir=false)(C:iu P B.ng)(X:iW P B.ng)(u:ib P B.nm)(v:ig P B.nm)(F:mP P B.nm){tm a}
 (w:s.σ B.cF=some (.raw (.chan 0 #[] false 0 0 tm))) (x:s.σ B.gb=some (.cells [.lit (.int .u64 0),.lit (.int .u32 0)])) (z:s.σ B.fb=some (.part (bK B.fo))) (A:s.σ B.mb=some a) (j:a.gone=false) (k:B.GI a) (l:s.rc=.no)
 (h:∀  b   hb   Fin   kd   f   r ,rV P m ξ n ro K kd f r Fin ->
   Go P (pI P (B.at b hb) Fin B.n) ξ n ro todo {s with σ:=((((s.σ.del B.cF).del B.gb).del B.mb).set B.fb .iB),rc:=.told kd f r} (λ_ _=>False)):Go P m ξ n ro todo s K:=
 Go.R7 c B C X u v F (λ_=>⟨tm,w⟩) x z (by simp[bK]) (by simp[bK]) (λq=>by simp_all) A j k l (λd y e=>by
  by_cases g:d=B.fb
  . simp_all
  by_cases i:d=B.mb
  . subst i;simp[ab.set,ab.del,g]at e
  by_cases o:d=B.gb
  . subst o;simp[ab.set,ab.del,g,i]at e
  by_cases t:d=B.cF
  . subst t;simp[ab.set,ab.del,g,i,o]at e
  simp only[ab.set,ab.del,g,i,o,t,zD]at e
  simp_all) h
end
end
open Go.Conc
section
variable{P:adT}(L:jJ P){o:Oper}{env:Env}{σ:ab}{K:adv}{Kp:adv}
def GD{i d}(h:dO P i d=true)(a:i.kind=.iface):∃ms,d=.interface ms:=by cases d<;>simp_all [dO]
def iy{op}{t u:Nat}{x i isNil}(y:o.op=.binOp op t x (.const .nilIface) u)(ht:L.tt t=some i)(z:i.kind=.iface)
 (A:(ak env x=.lit .nilIface/\isNil=true)\/(∃d a,ak env x=.mL d a)/\isNil=false){b}(l:(op=.eql/\b=isNil)\/(op=.neq/\b=!isNil)) (B:K (.lit (.bool b)) σ):aJ P o env σ K Kp:=
 aJ.val (s:=λc=>do eqGuard op t x (.const .nilIface) (c x) (c (.const .nilIface));binOp op t (c x) (c (.const .nilIface))) (λc=>by simp[execOp,y]) λk O c m C=>by
  have n:=m x (by simp_all)
  have p:=m (.const .nilIface) (by simp_all)
  have D:c (.const .nilIface)=.nilIface:=by simp only[ak]at p;generalize c (.const .nilIface)=w at p;cases p;rfl
  have f:(c x=.nilIface/\isNil=true)\/∃d v,c x=.iface d v/\isNil=false:=by
   rcases A with⟨e,h⟩|⟨⟨d,a,e⟩,h⟩<;>rw[e]at n
   . generalize c x=w at n;cases n;simp_all
   . generalize c x=w at n;cases n;simp_all
  rw[D]
  have E:eqGuard op t x (.const .nilIface) (c x) .nilIface=pure ():=by rcases f with⟨f,_⟩|⟨d,v,f,_⟩<;>rw[f]<;>rcases l with⟨rfl,_⟩|⟨rfl,_⟩<;>simp[eqGuard]
  rw[E];refine af (ag ?_)
  have fin:∀{s:Sem Value},s=(do pure (.bool b))->dT P s k O (λv k' O'=>mS k' O' λq F=>k.Le q/\∃a g,V q v a/\Rel q F g/\K a g) (λv k' O'=>k.Le k'/\∃a g,V k' v a/\Rel k' O' g/\Kp a g):=λe=>by rw[e];exact ag (.here ⟨.refl k,_,σ,.lit _,C,B⟩)
  have j:∀(R:Bool->ar->aj->Prop) (r:adm),R isNil k O->dT P (Op.equal t (c x) .nilIface) k O R r:=λR r G=>by
   show dT P (Op.equalIn (9999+1) t (c x) .nilIface) k O R r;rw[Op.equalIn];refine af (aF L ht λd _ hd=>?_)
   obtain⟨ms,rfl⟩:=GD hd z
   rcases f with⟨f,rfl⟩|⟨d,v,f,rfl⟩<;>rw[f]<;>exact ag G
  rcases f with⟨f,H⟩|⟨d,v,f,H⟩<;>rw[f]at j ⊢<;>rcases l with⟨rfl,rfl⟩|⟨rfl,rfl⟩
  . exact af (s:=Op.equal t .nilIface .nilIface) (j _ _ (fin rfl))
  . exact af (s:=Op.equal t .nilIface .nilIface) (j _ _ (fin rfl))
  . exact af (s:=Op.equal t (.iface d v) .nilIface) (j _ _ (fin rfl))
  . exact af (s:=Op.equal t (.iface d v) .nilIface) (j _ _ (fin rfl))
end
section
variable{P:adT}{m:Mo}{ξ n:Nat}{ro:adD}{ω:adB}{K:adt}{todo:adH}
def Go.Tc{env a σ D rc}(c:∀t,(env t).W (a t))(h:Go P m ξ n ro todo ⟨a,σ,D,rc⟩ K):Go P m ξ n ro todo ⟨env,σ,D,rc⟩ K:=λQ k O η θ τ cs d b e=>h Q k O η θ τ cs d ⟨b.size,λt ht=>c t _ _ (b.env t ht),b.rel,b.ds,b.rc⟩ e
def aa.Tc{env a σ D rc}(c:∀t,(env t).W (a t))(h:aa P m ξ n ro ω todo ⟨a,σ,D,rc⟩ K):aa P m ξ n ro ω todo ⟨env,σ,D,rc⟩ K:=λb=>Go.Tc c (h b)
def aa.IC{env σ D rc}  t  {a'}(a:(env t).W a') (h:aa P m ξ n ro ω todo ⟨env.upd t a',σ,D,rc⟩ K):aa P m ξ n ro ω todo ⟨env,σ,D,rc⟩ K:=
 aa.Tc (λu=>by
  by_cases e:u=t
  . simp_all
  . simp only[Env.upd,e,zD];exact .refl _) h
def Tok.up{σ0 σ σ' a kk es}(h:Tok σ0 σ a kk es)(c:σ.Le σ'):Tok σ0 σ' a kk es:=by
 refine⟨ab.le_trans h.1 c,?_⟩;rcases h.2 with h|h|⟨b,e,d,f,g⟩
 . exact .inl h
 . simp_all
 . exact .inr (.inr ⟨b,e,d,f,c _ _ g⟩)
def aa.bE{env σ D rc}  t  {b l}  v  (hb:σ b=some (.cells l)) (ht:env t=.ref b 0) (c:v.cells=l) (h:aa P m ξ n ro ω todo ⟨env.upd t (.cp v 0),σ.del b,D,rc⟩ K):aa P m ξ n ro ω todo ⟨env,σ,D,rc⟩ K:=
 aa.freeze b l hb (λu=>Fz.upd (t:=t) (a':=.cp v 0) (by rw[ht];exact .cp 0 0 v (by grind) (λj a h=>by simp_all)) u) (PJ.del _ _ _) h
def sE(L:jJ P){t f:Nat}{name i info mt a}(ht:L.tt t=some i)(hi:P.info? t=some info)(e:info.methods.find? (·.name==name)=some mt)(g:mt.path.toList=[])(h:mt.func=some (f,false))(j:i.kind=.struct):oE P t name f a a:=by
 intro k O v K Kp l m;have n:Made.depth≠0:=by decide
 obtain⟨N,o⟩:∃N,P.types.size+Made.depth=N+1:=Nat.exists_eq_succ_of_ne_zero (by omega);rw[o];unfold method;refine af (dg L ht λc b _ _ _=>?_);rw[hi]at b;cases b;simp only[e,g];unfold follow;refine af (ag ?_);simp only[h];refine af ?_;unfold receiverAt;refine af (aF L ht λq _ d=>?_);obtain⟨p,rfl,_⟩:=sU d j;simp only[Place.get];exact ag (ag (m _ l))
def ab.Le.none{σ σ':ab}(h:σ.Le σ'){b}(hb:σ' b=Option.none):σ b=Option.none:=by
 cases e:σ b with
 |none=>rfl
 |some x=>rw[h b x e]at hb;cases hb
end
def nz.plain:nz->Bool
 |.part _=>false
 |.iB=>false
 |.stay _=>false
 |.map _=>false
 |_=>true
structure Nl(P:adT)(m:Mo)(nm:DW)(b o mb:Nat)(kd:IntKind)(GI:adr->Prop)(Un:adO)(Ld:ab->adr->Prop):Prop where
 lock:∀{a:AV}{σ:ab}{KF:adw},jX b o a->Un σ->(∀σ' l,Ld σ' l->GI l->(∀c,c≠b->c≠mb->σ' c=σ c)->(∀y,σ mb=some y->y.plain=false)->KF (.val (.cH [])) σ')->aB P m nm.lock [a] σ KF
 unlock:∀{a:AV}{σ:ab}{l:adr}{KF:adw},jX b o a->Ld σ l->GI l->(∀σ',Un σ'->(∀c,c≠b->c≠mb->σ' c=σ c)->KF (.val (.cH [])) σ')->aB P m nm.unlock [a] σ KF
 map:∀{σ:ab}{l:adr},Ld σ l->σ mb=some (mapA kd l)
 put:∀{σ:ab}{l l':adr},Ld σ l->Ld (σ.set mb (mapA kd l')) l'
 un:∀{σ σ':ab},(∀c,c=b\/c=mb->(∃x,σ c=some x/\x.plain=false)->σ' c=σ c)->Un σ->Un σ'
 ld:∀{σ σ':ab}{l:adr},(∀c,c=b\/c=mb->(∃x,σ c=some x/\x.plain=false)->σ' c=σ c)->Ld σ l->Ld σ' l
 UF:∀{σ:ab},Un σ->∃x,σ b=some x/\x.plain=false
 Zs:∀{σ:ab}{l:adr},Ld σ l->∃x,σ b=some x/\x.plain=false
def UG(b o mb:Nat)(kd:IntKind)(GI:adr->Prop)(σ:ab):Prop:=σ b=some (.part (bK o))/\∃l,σ mb=some (mapA kd l)/\GI l
def LdS(b o mb:Nat)(kd:IntKind)(σ:ab)(l:adr):Prop:=σ b=some (.part (yH o))/\σ mb=some (mapA kd l)
def Zt(b:Nat)(σ:ab):Prop:=σ b=some .iB
def LdW(b mb:Nat)(kd:IntKind)(σ:ab)(l:adr):Prop:=σ b=some (.part MH)/\σ mb=some (mapA kd l)
section
variable{P:adT}{nm:DW}(C:ib P nm)(X:ig P nm)(F:mP P nm)
include C X F in
def EK{m:Mo}(hs:m.solo=true){b o mb:Nat}(d:b≠mb){kd:IntKind}{GI:adr->Prop}:Nl P m nm b o mb kd GI (UG b o mb kd GI) (LdS b o mb kd) where
 lock {a σ k} ha hu h:=by obtain⟨f,l,e,g⟩:=hu;exact JR C X F hs ha f (h _ l ⟨ab.ai _ _ _,by rw[ab.ah _ _ (wK d)];exact e⟩ g (λc hc _=>ab.ah _ _ hc) (λy hy=>by rw[e]at hy;cases hy;rfl))
 unlock {a σ l k} ha j hg h:=ED C X F hs ha j.1 (h _ ⟨ab.ai _ _ _,l,by rw[ab.ah _ _ (wK d)];exact j.2,hg⟩ (λc hc _=>ab.ah _ _ hc))
 map h:=h.2
 put {σ l n} h:=⟨by rw[ab.ah _ _ d];exact h.1,ab.ai _ _ _⟩
 un {σ i} he h:=by obtain⟨f,l,e,g⟩:=h;exact⟨by rw[he b (.inl rfl) ⟨_,f,rfl⟩];exact f,l,by rw[he mb (.inr rfl) ⟨_,e,rfl⟩];exact e,g⟩
 ld {σ i l} he h:=⟨by rw[he b (.inl rfl) ⟨_,h.1,rfl⟩];exact h.1,by rw[he mb (.inr rfl) ⟨_,h.2,rfl⟩];exact h.2⟩
 UF h:=⟨_,h.1,rfl⟩
 Zs h:=⟨_,h.1,rfl⟩
def Nm{A:bQ}(hd:A.dir=false){j:Nat}{kd:IntKind}{GI:adr->Prop}(g:∀x,A.GI x↔∃l,x=mapA kd l/\GI l):Nl P (iO P A j) A.nm A.fb A.fo A.mb kd GI (Zt A.fb) (LdW A.fb A.mb kd) where
 lock {a σ i} ha hu h:=JS hd ha hu λx hx hm=>by obtain⟨l,rfl,d⟩:=(g x).1 hx;exact h _ l ⟨ab.ai _ _ _,by rw[ab.ah _ _ (wK A.d5),ab.ai]⟩ d (λc e f=>by rw[ab.ah _ _ e,ab.ah _ _ f]) (λy hy=>by have:=hm y hy;cases y<;>first|rfl|cases this)
 unlock {a σ l i} ha d hg h:=EE hd ha d.1 d.2 ((g _).2 ⟨l,rfl,hg⟩) rfl (h _ (ab.ai _ _ _) (λc e f=>by rw[ab.ah _ _ e];simp[ab.del,f]))
 map h:=h.2
 put {σ l k} h:=⟨by rw[ab.ah _ _ A.d5];exact h.1,ab.ai _ _ _⟩
 un {σ b} he h:=by have h:σ A.fb=some .iB:=h;show b A.fb=some .iB;rw[he _ (.inl rfl) ⟨_,h,rfl⟩];exact h
 ld {σ b l} he h:=⟨by rw[he _ (.inl rfl) ⟨_,h.1,rfl⟩];exact h.1,by rw[he _ (.inr rfl) ⟨_,h.2,rfl⟩];exact h.2⟩
 UF h:=⟨_,h,rfl⟩
 Zs h:=⟨_,h.1,rfl⟩
end
def Bi(ft:Nat):Option TypeDesc->Bool
 |some (.struct fs)=>(match fs.toList with|[f]=>f.name !=  "_" && f.type==ft && f.offset==0|_=>false)
 |_=>false
def L4.of{P:adT}{mt b c ft:Nat}{kd:IntKind}(e:P.underlying mt=some (.map b c))(a:Bi ft (P.underlying b)=true)(g:P.underlying ft=some (.int kd))(h:P.stoodInHeld b=false):L4 P mt b c ft kd:=by
 refine⟨e,?_,g,h⟩;generalize P.underlying b=d at a;unfold Bi at a;split at a
 . next fs=>
   split at a
   . next f i=>
     simp only[wL,bne_iff_ne,acm]at a;refine⟨f,?_,a.1.1,a.1.2,a.2⟩;congr 2
     grind
   . cases a
 . cases a
def pJ(b mb:Nat)(σ σ':ab):Prop:=∀c x,σ c=some x->c≠b->(c≠mb\/x.plain=true)->σ' c=some x
def pJ.refl(b mb:Nat)(σ:ab):pJ b mb σ σ:=λ_ _ h _ _=>h
section
variable{P:adT}(L:jJ P){m:Mo}{ξ n:Nat}{ro:adD}{ω:adB}{s:St}{k:adH}{K:adt}{A:bQ}{Fin:adl}
def aa.runN  mu   N  {todo}(h:bF L m ξ n ro mu ω N todo s K):aa P m ξ n ro ω todo s K:=λa=>Go.bF L mu ω N a h
def aa.vd{c}(h:aa P m ξ n ro ω (.code c::.inLoop c::k) s K):aa P m ξ n ro ω (.code (.loop c)::k) s K:=λa=>.Rz (h (by simpa[kh,lE]using a))
def aa.again{c}(b:lE ω c=true)(h:aa P m ξ n ro ω (.code c::.inLoop c::k) s K):aa P m ξ n ro ω (.inLoop c::k) s K:=λa=>.inLoop (h (by
 simp only[kh,abL,wL]at a ⊢
 simp_all))
def aa.cj{todo}(d:m.solo=true)(B:iw)(e:B.dir=false)(C:iu P B.ng)(X:iW P B.ng)(l:ib P B.nm)(o:ig P B.nm)(F:mP P B.nm){tm a}
 (p:s.σ B.cF=some (.raw (.chan 0 #[] false 0 0 tm))) (q:s.σ B.gb=some (.cells [.lit (.int .u64 0),.lit (.int .u32 0)])) (r:s.σ B.fb=some (.part (bK B.fo))) (t:s.σ B.mb=some a) (g:a.gone=false) (i:B.GI a) (j:s.rc=.no)
 (h:∀  b   hb   Fin   kd   c   f ,rV P m ξ n ro K kd c f Fin ->
   aa P (pI P (B.at b hb) Fin B.n) ξ n ro ω todo {s with σ:=((((s.σ.del B.cF).del B.gb).del B.mb).set B.fb .iB),rc:=.told kd c f} (λ_ _=>False)):aa P m ξ n ro ω todo s K:=λk=>
 Go.cj d B e C X l o F p q r t g i j λb hb Fin kd c f u=>h b hb Fin kd c f u k
def aa.Ni{m ζ i μ o args a fn}(f:ζ[i]?=some o)(b:o.op=.call ⟨.value (.func A.ng.add),args,a⟩)(g:o.guard=none)(c:Oper.ok n o=true)
 (j:P.funcs[A.ng.add]?=some fn) (hb:fn.body.isSome=true) (d:(fn.name==  "runtime.NumGoroutine")=false) (ha:args.toList.map (ak s.env)=[.ref A.gb 0,.lit (.int .i64 1)])
 (h:aa P (Gk P A Fin m) ξ n ro ω (.inRegion ζ μ::k) {s with env:=bp s.env o.dst (.cH [])} (λ_ _=>False)):aa P (pI P A Fin (m+1)) ξ n ro ω (.inRegion ζ (i::μ)::k) s K:=λe=>
 Go.Ni f b (cd g) c j hb d ha (h (by simpa[kh,lE]using e))
def aa.vM{m ζ i μ o fo args b f fn body first cap hold'}(q:ζ[i]?=some o)(c:o.op=.go ⟨.value fo,args,b⟩)(r:o.guard=none)(d:Oper.ok n o=true)
 (e:ak s.env fo=.fn (.func f) first cap) (t:P.funcs[f]?=some fn) (hb:fn.body=some body) (g:(fn.name==  "runtime.NumGoroutine")=false) (u:((first++args.toList.map (ak s.env))++cap).length<=fn.ntmps) (j:s.σ A.fb=some .iB) (a:kh hold' [.code body]=true)
 (v:∀l,aa P (iO P A (A.n-(m+1))) f fn.ntmps none hold' [.code body] ⟨dG ((first++args.toList.map (ak s.env))++cap),ki A.fb,[],.told .deferred [cO P] l⟩ (λ_ _=>False))
 (h:aa P (pI P A Fin m) ξ n ro ω (.inRegion ζ μ::k) {s with env:=bp s.env o.dst .cJ} (λ_ _=>False)):aa P (Gk P A Fin m) ξ n ro ω (.inRegion ζ (i::μ)::k) s K:=λp=>
 Go.Jg q c (cd r) d e t hb g u j (λ_=>.none) (λl=>v l a) (h (by simpa[kh,lE]using p))
def aa.Yk(a:A.dir=false){ζ i μ o fo args c f fn body first cap hold'}(q:ζ[i]?=some o)(d:o.op=.go ⟨.value fo,args,c⟩)(r:o.guard=none)(e:Oper.ok n o=true)
 (g:ak s.env fo=.fn (.func f) first cap) (t:P.funcs[f]?=some fn) (hb:fn.body=some body) (j:(fn.name==  "runtime.NumGoroutine")=false) (u:((first++args.toList.map (ak s.env))++cap).length<=fn.ntmps) (l:s.σ A.fb=some .iB) (b:kh hold' [.code body]=true)
 (v:∀m,aa P (yq P A) f fn.ntmps none hold' [.code body] ⟨dG ((first++args.toList.map (ak s.env))++cap),ki A.fb,[],.told .deferred [cO P] m⟩ (λ_ _=>False))
 (h:aa P (rU P A Fin A.n (List.range A.n)) ξ n ro ω (.inRegion ζ μ::k) {s with env:=bp s.env o.dst .cJ} (λ_ _=>False)):aa P (pI P A Fin 0) ξ n ro ω (.inRegion ζ (i::μ)::k) s K:=λp=>
 Go.Yk a q d (cd r) e g t hb j u l (λm=>v m b) (h (by simpa[kh,lE]using p))
def aa.Nj(a:A.dir=false){j ζ i μ o ch x fn fd r}(t:ζ[i]?=some o)(c:o.op=.send ch x)(d:Oper.ok n o=true)(u:o.guard=none)(e:ak s.env ch=.chan A.cF)(v:ak s.env x=A.res j)
 (f:s.σ A.fb=some .iB) (g:s.rc=.told .deferred [cO P] r) (l:ro=none) (w:P.funcs[ξ]?=some fn) (y:n=fn.ntmps) (m:P.funcs[A.ng.done]?=some fd) (p:fd.body.isSome=true) (b:(fd.name==  "runtime.NumGoroutine")=false)
 (h:aa P (lF P A) ξ n ro ω (.inRegion ζ μ::k) {s with env:=bp s.env o.dst (.lit undef)} (Tb P A fn)):aa P (iO P A j) ξ n ro ω (.inRegion ζ (i::μ)::k) s K:=λq=>
 Go.Nj a t c d (cd u) e v f g l w y m p b (h (by simpa[kh,lE]using q))
def aa.Nk{ζ i μ o args a fn}(f:ζ[i]?=some o)(b:o.op=.call ⟨.value (.func A.ng.wait),args,a⟩)(g:o.guard=none)(c:Oper.ok n o=true)
 (j:P.funcs[A.ng.wait]?=some fn) (hb:fn.body.isSome=true) (d:(fn.name==  "runtime.NumGoroutine")=false) (ha:args.toList.map (ak s.env)=[.ref A.gb 0])
 (h:aa P (sB P A) ξ n ro ω (.inRegion ζ μ::k) {s with env:=bp s.env o.dst (.cH [])} (λ_ _=>False)):aa P (yq P A) ξ n ro ω (.inRegion ζ (i::μ)::k) s K:=λe=>
 Go.Nk f b (cd g) c j hb d ha (h (by simpa[kh,lE]using e))
def aa.GC{ζ i μ o ch a fn g}(h:ζ[i]?=some o)(b:o.op=.call ⟨.builtin .close,#[ch],a⟩)(c:Oper.ok n o=true)(j:o.guard=none)(d:ak s.env ch=.chan A.cF)
 (e:s.rc=.told .deferred [cO P] g) (l:s.D=[]) (f:ro=none) (m:P.funcs[ξ]?=some fn) (p:fn.results=#[]) (q:(Item.inRegion ζ μ::k).all Bh=true):aa P (sB P A) ξ n ro ω (.inRegion ζ (i::μ)::k) s K:=λ_=>
 Go.GC h b c j d e l f m p q
def aa.IB{m R ζ i μ o ct ce l p ch}(q:ζ[i]?=some o)(a:o.op=.recv ct ch true)(b:L.tt ct=some l)(c:l.kind=.chan ce)(d:L.tt ce=some p)
 (e:Oper.ok n o=true) (r:o.guard=none) (f:ak s.env ch=.chan A.cF)
 (h:∀j∈R,aa P (rU P A Fin m (R.erase j)) ξ n ro ω (.inRegion ζ μ::k) {s with env:=bp s.env o.dst (.cH [A.res j,.lit (.bool true)])} (λ_ _=>False)):aa P (rU P A Fin (m+1) R) ξ n ro ω (.inRegion ζ (i::μ)::k) s K:=λg=>
 Go.IB L q a b c d e (cd r) f λj t=>h j t (by simpa[kh,lE]using g)
def aa.CE{t kd b u R ζ i μ o ct ce v w ch}(x:ζ[i]?=some o)(d:o.op=.recv ct ch true)(e:L.tt ct=some v)(f:v.kind=.chan ce)(g:L.tt ce=some w)
 (j:Oper.ok n o=true) (y:o.guard=none) (l:ak s.env ch=.chan A.cF) (p:s.σ A.fb=some .iB) (q:s.rc=.told kd b u) (c:rV P m ξ n ro t kd b u Fin)
 (h:∀a,A.GI a->aa P m ξ n ro ω (.inRegion ζ μ::k) {s with env:=bp s.env o.dst (.cH [.cJ,.lit (.bool false)]),σ:=(s.σ.set A.mb a).set A.fb (.part (bK A.fo)),rc:=.no} t):aa P (rU P A Fin 0 R) ξ n ro ω (.inRegion ζ (i::μ)::k) s K:=λr=>
 Go.CE L x d e f g j (cd y) l p q c λa ha=>h a ha (by simpa[kh,lE]using r)
end
section
variable{P:adT}{m:Mo}{ξ n:Nat}{ro:adD}{ω:adB}{s:St}{k todo:adH}{K:adt}
def aa.goto{l}(b:gotoIn l k=some todo)(a:kh ω todo=true)(h:aa P m ξ n ro ω todo s K):aa P m ξ n ro ω (.code (.goto l)::k) s K:=λ_=>Go.dA (λ_ _ _ _ _=>by simp[G,stepG,stepG.exec,b]) (h a)
def aa.lower(I:Nat->St->Prop)  a  (c:I a s) (d:∀a s,I a s->(∀a' s',a'<a->I a' s'->aa P m ξ n ro ω todo s' K)->aa P m ξ n ro ω todo s K):aa P m ξ n ro ω todo s K:=by
 have key:∀b a s,a<b->I a s->aa P m ξ n ro ω todo s K:=λb=>by
  induction b with
  |zero=>omega
  |succ b e=>grind
 grind
end
section
variable{P:adT}(L:jJ P){o:Oper}{env:Env}{σ:ab}{K:adv}{Kp:adv}
def JV{t b off:Nat}{p x i f v0 u}(m:o.op=.store t p x)(ht:L.tt t=some i)(n:i.size=1)(q:jX b off (ak env p))(r:ak env x=.lit u)(d:flat u=true)(c:σ b=some (.part f))(w:f off=some v0)
 (y:K (.lit undef) (σ.set b (.part λj=>if j=off then some u else f j))):aJ P o env σ K Kp:=λk O g h l=>by
 have e:=q _ _ (h p (by simp_all));have a:=h x (by simp_all);rw[r]at a;generalize z:g x=v at a;cases a;have:execOp g o=(do storeVar t ⟨b,off,none⟩ u;pure .skip):=by simp[execOp,m,Instr.storeAt,e,Instr.sureAddr,z]
 rw[this];have A:u.cells=#[u]:=by cases u<;>first|rfl|cases d
 refine af ?_;unfold storeVar;refine af (bL L ht ?_);rw[zA (by simp_all)];refine af (ag ?_);rw[A];unfold storeCells;refine af (s:=store ⟨b,off,none⟩ u) ⟨rfl,d,rfl,.inr (.inr ⟨f,v0,l.Be c,w,?_⟩)⟩;unfold storeCells;exact ag (ag ⟨undef,.inr ⟨rfl,rfl⟩,.here ⟨.refl k,.lit undef,_,.lit _,l.set (.part _),y⟩⟩)
end
def ar.mD(k:ar)(r n:Nat)(v:Value):ar:={k with cell:=λb j=>if b=r/\j=n then some v else k.cell b j}
def CG(f:Nat->adx)(n:Nat):Nat->adx:=λi=>if i=n then none else f i
def Bj{f n i u}(h:CG f n i=some u):f i=some u/\i≠n:=by
 unfold CG at h
 simp_all
def CH{f n i}(h:CG f n i≠none):f i≠none/\i≠n:=by
 cases q:CG f n i with
 |none=>simp_all
 |some u=>have:=Bj q;simp_all
def EL{k O r n v f}(l:O r=some (.part f))(E:f n=some v):lu k O (k.mD r n v) (O.set r (.part (CG f n))):=λw h=>by
 obtain⟨c,e,B,F,C⟩:=h.part _ _ l
 have G:k.cell r n=none:=by
  cases q:k.cell r n with
  |none=>rfl
  |some u=>exact(h.apart _ _ _ q (.inr (.inr ⟨_,l,by grind⟩))).elim
 have z:k.Le (k.mD r n v):=⟨λb i u j=>by
  have:¬(b=r/\i=n):=λx=>by simp_all
  simpa[ar.mD,this]using j,λ_ _ h=>h⟩
 have p:∀b,b≠r->(O.set r (.part (CG f n))) b=O b:=λb hb=>by simp[aj.set,hb]
 have a:(O.set r (.part (CG f n))) r=some (.part (CG f n)):=by simp[aj.set]
 refine⟨⟨λb i u j D=>?_,λb i u j=>?_,h.sh,λb o hb=>?_,λb m hb=>?_,λb g hb=>?_⟩,⟨z,aaG _,λ_ _ _=>rfl,λ_ _ _ _ c _ h=>⟨c,h,rfl,λ_ _=>rfl⟩,λ_ _ _ _ c _ h=>⟨c,h,rfl,λ_ _=>rfl⟩,λ_ _=>rfl,λb x t=>?_,λb i u j=>?_,λ_ _ h=>.inl h,by simp,rfl,rfl,rfl,by simp,λb g hb=>?_⟩⟩
 . have s:aV O b i/\¬(b=r/\i=n):=by
    by_cases hb:b=r
    . subst hb
      rcases D with⟨o,y⟩|⟨m,y,A⟩|⟨g,y,A⟩
      . simp_all
      . simp_all
      . rw[a]at y;cases y
        exact⟨.inr (.inr ⟨f,l,(CH A).1⟩),λx=>(CH A).2 x.2⟩
    . exact⟨by simpa[aV,aj.set,hb]using D,λx=>hb x.1⟩
   exact h.apart b i u (by simpa[ar.mD,s.2]using j) s.1
 . by_cases hb:b=r/\i=n
   . obtain⟨rfl,rfl⟩:=hb
     simp only[ar.mD,and_self,Rp,kn]at j;subst j;simp[World.cell?,B,C _ _ E]
   . exact h.cell b i u (by simpa only[ar.mD,hb,zD]using j)
 . by_cases d:b=r
   . simp_all
   . exact h.obj b o (by simp_all)
 . by_cases d:b=r
   . simp_all
   . exact h.tail b m (by simp_all)
 . by_cases d:b=r
   . subst d;rw[a]at hb;cases hb
     exact⟨c,e,B,F,λi u j=>C i u (Bj j).1⟩
   . exact h.part b g (by simp_all)
 . by_cases d:b=r
   . subst d
     rw[a]at t;cases t;exact .inl ⟨_,l,λi H=>(CH H).1⟩
   . rw[p b d]at t;exact .inl ⟨x,t,.refl x⟩
 . by_cases hb:b=r/\i=n
   . obtain⟨rfl,rfl⟩:=hb;exact .inr (.inl (.inr (.inr ⟨f,l,by grind⟩)))
   . exact .inl (by simpa only[ar.mD,hb,zD]using j)
 grind
section
variable{P:adT}{ξ n:Nat}{ro:adD}{s:St}{k:adH}{K:adt}{A:bQ}{Fin:adl}{j:Nat}
def bQ.own(A:bQ)(j:Nat)(v:Value):Nat->adx:=λi=>if i=A.cell j then some v else none
def GF(hd:A.dir=true){l h}(r:A.cell j<l.length){σ q}(d:σ A.fb=some .iB)(s:∀x v,A.GI x->(∀y,σ A.mb=some y->y.gone=true)->q (.val (.cH [])) ((σ.set A.mb x).set A.fb (.part (A.own j v)))):aB P (iO P A j) A.nm.lock [.kp A.fb l h A.fo] σ q:=by
 intro Q k O e c μ τ t w g B I;obtain⟨v,rfl,C⟩:=w.one;cases C with
 | kp _ _ N E _ _ J D F _ _=>
   obtain⟨G,_,_⟩:=g.2 _ _ d rfl;refine .dz (λk' O' g'=>T P (iO P A j) Q k' O' g') rfl (.inl ⟨τ,c,μ,_,t,rfl,G,D,λ_=>abv r F,λk' x y f b m n H o=>?_⟩) (λ_ _ _ h=>h)
   obtain⟨u,rfl⟩:∃u,f=A.own j u:=by unfold bQ.Tk at o;rw[zR hd]at o;exact o
   refine B k' _ (.tuple #[]) (.cH []) _ b (.cH _ _ rfl λi v a h=>by simp at h) (((g.mono b).set m).set (.part _)) (s y u n λz hz=>?_)
   cases p:z.gone with
   |true=>rfl
   | false=>
     obtain⟨K,L,_⟩:=g.1 _ z hz p
     simp_all
def Td(P:adT)(A:bQ)(j:Nat)(fn:Func):adt:=λe s=>fn.results=#[]/\(e=.leave none\/e=.leave (some .ret))/\(∃a,s.rc=.told .deferred [cO P] a)/\∃pl f y,jX A.fb A.fo pl/\s.D=[.call (.func A.nm.unlock) [] [pl],.call (.func A.ng.done) [] [.ref A.gb 0]]/\
 s.σ A.fb=some (.part f)/\f (A.cell j)=some (A.val j)/\s.σ A.mb=some y/\A.GI y/\y.gone=false
def V7{k d f a}(h:uF k d (.call f [] [a])):∃v,V k v a/\d={target:=.fn f #[],args:=#[v]}:=by
 obtain⟨g,i,rfl,b,c⟩:=h;have j:g=#[]:=by have:=b.1;simp_all
 obtain⟨v,l,e⟩:=Vs.one c;exact⟨v,e,by rw[j,show i=#[v]by grind]⟩
def Nn{f fd v g η todo ds cs}(d:P.funcs[f]?=some fd)(hb:fd.body.isSome=true)(a:(fd.name==  "runtime.NumGoroutine")=false){b}  w :
 stepG P b (G ⟨g,η,todo,{target:=.fn (.func f) #[],args:=#[v]}::ds,.returning,.deferred,none⟩ cs) w=.go (G (Frame.enter P f #[v] .deferred) (⟨g,η,todo,ds,.returning,.deferred,none⟩::cs)) w #[]:=by
 have hinv:∀w,(invoke (.fn (.func f) #[]) #[v]).runT P w #[]=(.ok (.enter f #[v]) w,#[]):=λw=>by
  show Sem.runT P (callFunc f _) w #[]=_;unfold callFunc;have c:fd.body.isNone=false:=by simp_all
  rw[hQ,d];simp only[a,c,zs,zD];simp
 simp only[G,stepG,unwind,callDeferred,hinv];simp;rfl
def JW(hd:A.dir=true){f:FuncId}{fn fd i}(hf:P.funcs[f]?=some fn)(k:P.funcs[A.ng.done]?=some fd)(l:fd.body.isSome=true)(b:(fd.name==  "runtime.NumGoroutine")=false)(n:P.funcs[A.nm.unlock]?=some i)(o:i.body.isSome=true)(c:(i.name==  "runtime.NumGoroutine")=false){kk}:
 xy P (iO P A j) iv f fn.ntmps none .deferred [cO P] (Td P A j fn) kk where
 leave k' O' η θ s todo F hle hs J p:=by
  obtain⟨d,O,⟨Q,e⟩,pl,K,y,q,H,g,a,Dl,r,t⟩:=p;obtain⟨env,σ,D,rc⟩:=s;simp only at e H g Dl;subst e H;show T P (iO P A j) iv k' O' (G ⟨f,η,todo,θ,.run,.deferred,none⟩ [cO P]);have u:=hs.ds
  match θ,u with
  | [d1,d2],⟨L,M,_⟩=>
    obtain⟨v1,v,rfl⟩:=V7 L;obtain⟨v2,z,rfl⟩:=V7 M;cases z;obtain rfl:=q _ _ v;obtain⟨x,hx,B⟩:=hs.rel.1 _ _ Dl t;have I:=hs.rel.Be g;refine T.dA (g':=G ⟨f,η,todo,[{target:=.fn (.func A.nm.unlock) #[],args:=#[.pointer (some ⟨A.fb,A.fo,none⟩)]},{target:=.fn (.func A.ng.done) #[],args:=#[.pointer (some ⟨A.gb,0,none⟩)]}],.returning,.deferred,none⟩ [cO P]) rfl (λw=>?_) ?_
    . rcases J with⟨rfl,rfl⟩|⟨kk,rfl,rfl⟩|⟨_,_,_,_,rfl⟩
      . simp[G,stepG,stepG.exec]
      . simp[G,stepG,stepG.exec]
      grind
    refine T.dA rfl (λw=>Nn n o c w) (T.sat rfl λ⟨w,hw⟩=>?_);have C:=((EL I a) w hw).2.le;refine .ghost (EL I a) ?_;have E:A.mb≠A.fb:=wK A.d5;refine .dz iv rfl (.inr (.inl ⟨.deferred,_,_,CG K (A.cell j),x,y,by simp,rfl,by simp[aj.set],by simp only[aj.set,E,zD];exact hx,B.mono C,r,λ_=>by simp[ar.mD],?_⟩)) (λ_ _ _ h=>h.elim);rw[show FQ P A iv=T P (lF P A) iv by simp[FQ,hd]];refine T.dA (m:=lF P A) rfl (λw=>Nn k l b w) ?_;exact .dz iv rfl ⟨rfl,f,fn,η,todo,hf,d,rfl⟩ (λ_ _ _ h=>h.elim)
 panic k' O' η θ s todo R S hle hs N p:=by obtain⟨_,h|h,_⟩:=p<;>cases h
def aa.RE(hd:A.dir=true){m ζ i μ o fo args d f fn fd e body first cap ω hold'}(z:ζ[i]?=some o)(g:o.op=.go ⟨.value fo,args,d⟩)(B:o.guard=none)(j:Oper.ok n o=true)
 (l:ak s.env fo=.fn (.func f) first cap) (y:P.funcs[f]?=some fn) (hb:fn.body=some body) (p:(fn.name==  "runtime.NumGoroutine")=false) (C:((first++args.toList.map (ak s.env))++cap).length<=fn.ntmps) (q:s.σ A.fb=some .iB) (a:kh hold' [.code body]=true)
 (r:P.funcs[A.ng.done]?=some fd) (t:fd.body.isSome=true) (b:(fd.name==  "runtime.NumGoroutine")=false) (u:P.funcs[A.nm.unlock]?=some e) (v:e.body.isSome=true) (c:(e.name==  "runtime.NumGoroutine")=false)
 (D:∀w,aa P (iO P A (A.n-(m+1))) f fn.ntmps none hold' [.code body] ⟨dG ((first++args.toList.map (ak s.env))++cap),ki A.fb,[],.told .deferred [cO P] w⟩ (Td P A (A.n-(m+1)) fn))
 (h:aa P (pI P A Fin m) ξ n ro ω (.inRegion ζ μ::k) {s with env:=bp s.env o.dst .cJ} (λ_ _=>False)):aa P (Gk P A Fin m) ξ n ro ω (.inRegion ζ (i::μ)::k) s K:=λx=>
 Go.Jg z g (cd B) j l y hb p C q (λ_=>JW hd y r t b u v c) (λw=>D w a) (h (by simpa[kh,lE]using x))
def QS{kk v b off l l' hole d}(hlen:l'.length=l.length)(k:∀j,j<l.length->j∉d->(j∉hole/\l'[j]?=l[j]?)\/∃u,kk.cell b j=some u/\flat u=true/\l'[j]?=some (.lit u))(h:V kk v (.kp b l hole off)):V kk v (.kp b l' d off):=by
 cases h with
 | kp _ _ N E _ _ c m o p q=>
   have key:∀j,∃u,j<l.length->j∉d->(kk.cell b j=some u/\flat u=true)/\∀a,l'[j]?=some a->V kk u a:=λj=>by
    by_cases e:j<l.length/\j∉d
    . rcases k j e.1 e.2 with⟨g,i⟩|⟨u,g,i,n⟩
      . grind
      . exact⟨u,λ_ _=>⟨⟨g,i⟩,λa ha=>by rw[n]at ha;cases ha;exact .lit _⟩⟩
    simp_all
   refine .kp b off N E l' d (λj=>(key j).choose) m (by omega) (λj e f=>((key j).choose_spec (by omega) f).1) (λj a f ha=>((key j).choose_spec (by grind) f).2 a ha)
def Go.No(f:A.dir=true){m J kd g L ζ i μ o args u fn b}(M:ζ[i]?=some o)(w:o.op=.call ⟨.value (.func A.ng.wait),args,u⟩)(R:bZ ζ n s.env o)(y:Oper.ok n o=true)
 (S:P.funcs[A.ng.wait]?=some fn) (hb:fn.body.isSome=true) (z:(fn.name==  "runtime.NumGoroutine")=false) (ha:args.toList.map (ak s.env)=[.ref A.gb 0]) (B:s.σ A.fb=some .iB) (l:s.rc=.told kd g L) (p:rV P m ξ n ro J kd g L Fin)
 (T:∀kk,(∀j,j<A.n->kk.cell A.fb (A.cell j)=some (A.val j))->∀t v,V kk v (bp s.env o.dst (.cH []) t)->V kk v (b t))
 (h:∀a,A.GI a->Go P m ξ n ro (.inRegion ζ μ::k) {s with env:=b,σ:=(s.σ.set A.mb a).set A.fb (.part (bK A.fo)),rc:=.no} J):Go P (pI P A Fin 0) ξ n ro (.inRegion ζ (i::μ)::k) s K:=by
 intro Q kk O η θ τ cs W q X;refine GA M w R y S hb z q λC N=>?_
 rw[ha]at N;obtain⟨v,rfl,D⟩:=Vs.one N;cases D;have c:=q.rc;rw[l]at c;obtain⟨rfl,rfl,E⟩:=c;rw[show pI P A Fin 0=_ from zR f];refine .dz iv rfl ⟨rfl,_,_,rfl,(q.rel.2 _ _ B rfl).2.1,λk' x a d F H I=>?_⟩ (λ_ _ _ h=>h.elim);obtain⟨e,U,r⟩:=q.put (ξ:=ξ) (ro:=ro) (μ:=μ) (kk:=k) (σ':=(s.σ.set A.mb a).set A.fb (.part (bK A.fo))) (O':=(O.set A.mb x).set A.fb (.part (bK A.fo))) (v:=.tuple #[]) (a:=.cH []) d M (.cH _ _ rfl λi v a h=>by simp at h) (((q.rel.mono d).set H).set (.part _));show Fin k' _ (G (Frame.finish ⟨ξ,η,.inRegion ζ (i::μ)::k,θ,.run,τ,ro⟩ (.tuple #[])) (gJ s.rc cs));rw[U,l];exact p _ _ k' _ e θ (h a I) rfl ⟨r.size,λt ht=>T k' F t _ (r.env t ht),r.rel,r.ds,trivial⟩ (E.trans d)
def aa.No(c:A.dir=true){m ω w kd d x ζ i μ o args f fn}  b  (y:ζ[i]?=some o) (g:o.op=.call ⟨.value (.func A.ng.wait),args,f⟩) (z:o.guard=none) (l:Oper.ok n o=true)
 (B:P.funcs[A.ng.wait]?=some fn) (hb:fn.body.isSome=true) (p:(fn.name==  "runtime.NumGoroutine")=false) (ha:args.toList.map (ak s.env)=[.ref A.gb 0]) (q:s.σ A.fb=some .iB) (r:s.rc=.told kd d x) (e:rV P m ξ n ro w kd d x Fin)
 (C:∀kk,(∀j,j<A.n->kk.cell A.fb (A.cell j)=some (A.val j))->∀t v,V kk v (bp s.env o.dst (.cH []) t)->V kk v (b t))
 (h:∀a,A.GI a->aa P m ξ n ro ω (.inRegion ζ μ::k) {s with env:=b,σ:=(s.σ.set A.mb a).set A.fb (.part (bK A.fo)),rc:=.no} w):aa P (pI P A Fin 0) ξ n ro ω (.inRegion ζ (i::μ)::k) s K:=λu=>
 Go.No c y g (cd z) l B hb p ha q r e C λa ha=>h a ha (by simpa[kh,lE]using u)
def aa.V8{m todo ω}(f:m.solo=true)(B:iw)(x:B.dir=true)(C:iu P B.ng)(X:iW P B.ng)(A:ib P B.nm)(D:ig P B.nm)(F:mP P B.nm){a g}
 (E:s.σ B.gb=some (.cells [.lit (.int .u64 0),.lit (.int .u32 0)])) (G:s.σ B.fb=some (.part g)) (k:g B.fo=some (.int .i32 0)) (l:g (B.fo+1)=some (.int .u32 0)) (o:∀j,j<B.n->g (B.fo+2+j)≠none) (H:s.σ B.mb=some a) (p:a.gone=false) (r:B.GI a) (t:s.rc=.no)
 (h:∀  b   hb   Fin   kd   c   i ,rV P m ξ n ro K kd c i Fin ->
   aa P (pI P (B.at b hb) Fin B.n) ξ n ro ω todo {s with σ:=((s.σ.del B.gb).del B.mb).set B.fb .iB,rc:=.told kd c i} (λ_ _=>False)):aa P m ξ n ro ω todo s K:=λu=>
 Go.R7 f B C X A D F (λq=>by simp_all) E G k l (λ_=>o) H p r t (λd y e=>by
  by_cases v:d=B.fb
  . simp_all
  by_cases w:d=B.mb
  . subst w;simp[ab.set,ab.del,v]at e
  by_cases z:d=B.gb
  . subst z;simp[ab.set,ab.del,v,w]at e
  simp only[ab.set,ab.del,v,w,z,zD]at e
  simp_all) λb hb Fin kd c i I=>h b hb Fin kd c i I u
end
structure ID(P:adT)(t ft:Nat):Prop where
 hk:∃f g,P.underlying t=some (.struct #[f,g])/\(f.name≠ "_"/\f.type=ft/\f.offset=0)/\(g.name≠ "_"/\g.type=ft/\g.offset=1)
 hf:P.underlying ft=some (.int .i64)
 hs:P.stoodInHeld t=false
 hg:P.eqGuardType P.depth t=false
def ID.of{P t ft}(a:(match P.underlying t with|some (.struct fs)=>(match fs.toList with|[f,g]=>f.name !=  "_" && f.type==ft && f.offset==0 && (g.name !=  "_" && g.type==ft && g.offset==1)|_=>false)|_=>false)=true)(b:P.underlying ft=some (.int .i64))(c:P.stoodInHeld t=false)(d:P.eqGuardType P.depth t=false):ID P t ft:=by
 refine⟨?_,b,c,d⟩;split at a
 . next fs e=>
   split at a
   . next f g h=>
     simp only[wL,bne_iff_ne,acm]at a;refine⟨f,g,?_,⟨a.1.1.1,a.1.1.2,a.1.2⟩,a.2.1.1,a.2.1.2,a.2.2⟩;rw[e];congr 2
     grind
   . cases a
 . cases a
section
variable{P:adT}(L:jJ P){k:ar}{O:aj}{Kp:adm}{t ft:Nat}
def lS{K i c n v}(ht:L.tt ft=some i)(ha:i.agg=false)(a:c[n]?=some v)(h:K v k O):dT P (part ft c n) k O K Kp:=by unfold part;refine af (qO L ht ?_);rw[ha];simp only[zs,zD];rw[a];exact ag h
variable(M:ID P t ft){i:TI}(ht:L.tt ft=some i)(ha:i.agg=false)
include M ht ha
theorem yQ{K a b c d}(h:K (a==c && b==d) k O):dT P (Op.equal t (.agg #[.int .i64 a,.int .i64 b]) (.agg #[.int .i64 c,.int .i64 d])) k O K Kp:=by
 obtain⟨f,g,j,⟨l,m,n⟩,o,p,q⟩:=M.hk;show dT P (Op.equalIn (9998+1+1) t (.agg #[.int .i64 a,.int .i64 b]) (.agg #[.int .i64 c,.int .i64 d])) k O K Kp;rw[Op.equalIn];refine af (cI j ?_);refine af (bz ?_);rw[M.hs];simp only[zs,zD,acA,acy,acI];rw[zR l,m,n,zR o,p,q];refine af (af (af (lS L ht ha rfl ?_)));refine af (lS L ht ha rfl ?_);refine af ?_;rw[Op.equalIn];refine af (cI M.hf ?_);simp only;refine ag ?_;cases e:(a==c)with
 |false=>rw[e]at h;exact ag (ag (ag h))
 | true=>
   rw[e]at h;refine ag ?_;simp only[];refine af (af (lS L ht ha rfl ?_));refine af (lS L ht ha rfl ?_);refine af ?_;rw[Op.equalIn];refine af (cI M.hf ?_);simp only;refine ag ?_;cases i:(b==d)with
   |false=>rw[i]at h;exact ag (ag (ag h))
   |true=>rw[i]at h;exact ag (ag (ag h))
theorem EM{c a b}(h:V k c (.agg [.lit (.int .i64 a),.lit (.int .i64 b)])):c=.agg #[.int .i64 a,.int .i64 b]:=by
 cases h with
 | agg c l e d=>
   obtain⟨f⟩:=c
   match f,e,d with
   |[p,q],_,d=>have g:=d 0 p _ rfl rfl;have i:=d 1 q _ rfl rfl;cases g;cases i;rfl
theorem JX{o env σ K Kp op}{p:Nat}{x y a b c d r}(q:o.op=.binOp op t x y p)(u:ak env x=.agg [.lit (.int .i64 a),.lit (.int .i64 b)])(v:ak env y=.agg [.lit (.int .i64 c),.lit (.int .i64 d)])
 (f:(op=.eql/\r=(a==c && b==d))\/(op=.neq/\r=!(a==c && b==d))) (i:K (.lit (.bool r)) σ):aJ P o env σ K Kp:=
 aJ.val (s:=λe=>do eqGuard op t x y (e x) (e y);binOp op t (e x) (e y)) (λe=>by simp[execOp,q]) λk O e g j=>by
  have l:=g x (by simp_all);have m:=g y (by simp_all);rw[u]at l;rw[v]at m;rw[EM L M ht ha l,EM L M ht ha m]
  have h:∀{R:Unit->ar->aj->Prop}{w:adm},R () k O->dT P (eqGuard op t x y (.agg #[.int .i64 a,.int .i64 b]) (.agg #[.int .i64 c,.int .i64 d])) k O R w:=λn=>by
   rcases f with⟨rfl,_⟩|⟨rfl,_⟩
   . unfold eqGuard
     simp only[Bool.not_true,zs,zD];refine af (bz ?_);refine af (bz ?_);rw[M.hg];exact ag n
   . unfold eqGuard
     simp only[Bool.not_true,zs,zD];refine af (bz ?_);refine af (bz ?_);rw[M.hg];exact ag n
  refine af (h ?_);rcases f with⟨rfl,rfl⟩|⟨rfl,rfl⟩
  . exact af (s:=Op.equal t _ _) (yQ L M ht ha (ag (.here ⟨.refl k,_,σ,.lit _,j,i⟩)))
  . exact af (s:=Op.equal t _ _) (yQ L M ht ha (ag (.here ⟨.refl k,_,σ,.lit _,j,i⟩)))
end
structure R8(P:adT)(t ft:Nat):Prop where
 hk:P.underlying t=some (.array 4 ft)
 hf:P.underlying ft=some (.int .i64)
 hg:P.eqGuardType P.depth t=false
section
variable{P:adT}(L:jJ P){k:ar}{O:aj}{Kp:adm}{t ft:Nat}
variable(M:R8 P t ft){i:TI}(ht:L.tt ft=some i)(ha:i.agg=false)(hz:i.size=1)
include M
theorem QT{K a b}(h:K (a==b) k O):dT P (Op.equalIn 9999 ft (.int .i64 a) (.int .i64 b)) k O K Kp:=by show dT P (Op.equalIn (9998+1) ft _ _) k O K Kp;rw[Op.equalIn];refine af (cI M.hf ?_);exact ag h
include ht ha
theorem xi{β K x y n a b}{f:Bool->Sem β}(c:x[n]?=some (.int .i64 a))(d:y[n]?=some (.int .i64 b))(h:dT P (f (a==b)) k O K Kp):dT P (do let p <-part ft x n;let q <-part ft y n;let r <-Op.equalIn 9999 ft p q;f r) k O K Kp:=af (lS L ht ha c (af (lS L ht ha d (af (QT M h)))))
include hz
theorem GG{K a b c d a' b' c' d'}(h:K (a==a' && (b==b' && (c==c' && d==d'))) k O):dT P (Op.equal t (.agg #[.int .i64 a,.int .i64 b,.int .i64 c,.int .i64 d]) (.agg #[.int .i64 a',.int .i64 b',.int .i64 c',.int .i64 d'])) k O K Kp:=by
 show dT P (Op.equalIn (9998+1+1) t _ _) k O K Kp;rw[Op.equalIn];refine af (cI M.hk ?_);refine af (bL L ht ?_);rw[hz];simp only[Std.Legacy.Range.forIn_eq_forIn_range',Std.Legacy.Range.size,List.range',Nat.reduceAdd,Nat.reduceSub,Nat.reduceDiv,acy,acI];refine af (af (xi L M ht ha rfl rfl ?_));cases e:(a==a')with
 |false=>rw[e]at h;exact ag (ag (ag h))
 |true=>
 rw[e]at h;refine ag (af (xi L M ht ha rfl rfl ?_));cases f:(b==b')with
 |false=>rw[f]at h;exact ag (ag (ag h))
 |true=>
 rw[f]at h;refine ag (af (xi L M ht ha rfl rfl ?_));cases g:(c==c')with
 |false=>rw[g]at h;exact ag (ag (ag h))
 |true=>
 rw[g]at h;refine ag (af (xi L M ht ha rfl rfl ?_));cases i:(d==d')with
 |false=>rw[i]at h;exact ag (ag (ag h))
 |true=>rw[i]at h;exact ag (ag (ag h))
omit M ht ha hz in
theorem EN{c x y z w}(h:V k c (.agg [.lit (.int .i64 x),.lit (.int .i64 y),.lit (.int .i64 z),.lit (.int .i64 w)])):c=.agg #[.int .i64 x,.int .i64 y,.int .i64 z,.int .i64 w]:=by
 cases h with
 | agg c l b a=>
   obtain⟨d⟩:=c
   match d,b,a with
   |[p,q,r,s],_,a=>have e:=a 0 p _ rfl rfl;have f:=a 1 q _ rfl rfl;have g:=a 2 r _ rfl rfl;have i:=a 3 s _ rfl rfl;cases e;cases f;cases g;cases i;rfl
theorem GH{o env σ K Kp}{i:Nat}{x y a b c d a' b' c' d'}(j:o.op=.binOp .neq t x y i)(l:ak env x=.agg [.lit (.int .i64 a),.lit (.int .i64 b),.lit (.int .i64 c),.lit (.int .i64 d)])(m:ak env y=.agg [.lit (.int .i64 a'),.lit (.int .i64 b'),.lit (.int .i64 c'),.lit (.int .i64 d')])
 (n:K (.lit (.bool (!(a==a' && (b==b' && (c==c' && d==d')))))) σ):aJ P o env σ K Kp:=
 aJ.val (s:=λe=>do eqGuard .neq t x y (e x) (e y);binOp .neq t (e x) (e y)) (λe=>by simp[execOp,j]) λk O e f p=>by
  have g:=f x (by simp_all);have h:=f y (by simp_all);rw[l]at g;rw[m]at h;rw[EN g,EN h];refine af (?_:dT P (eqGuard .neq t x y _ _) k O _ _);unfold eqGuard;simp only[Bool.not_true,zs,zD];refine af (bz (af ?_));refine bz ?_;rw[M.hg];refine ag ?_;exact af (s:=Op.equal t _ _) (GG L M ht ha hz (ag (.here ⟨.refl k,_,σ,.lit _,p,n⟩)))
end
section
variable{P:adT}(L:jJ P){m:Mo}
def aB.GJ{f:FuncId}{fn args σ b body}  mu   ω   N k  (c:P.funcs[f]?=some fn) (hb:fn.body=some body) (e:args.length=k) (d:oC fn k=true) (a:lE ω body=true)
 (h:bF L m f fn.ntmps none mu ω N [.code body] ⟨dG args,σ,[],.no⟩ (TS L m fn.results.toList (nP b))):aB P m f args σ b:=by
 simp only[oC,wL]at d;refine aB.thaw (aB.intro L c hb (by simp_all) ?_ (Go.bF L mu ω N (by simpa[kh]using a) h))
 simp_all
variable{ξ n:Nat}{ro:adD}{ω:adB}{K:adt}{todo:adH}
@[simp] theorem UH{mu s}:bF L m ξ n ro mu ω 0 todo s K=aa P m ξ n ro ω todo s K:=propext abr
def aa.dX{env σ D rc}(I:adu)(a:I env σ)(h:∀env σ,I env σ->aa P m ξ n ro ω todo ⟨env,σ,D,rc⟩ K):aa P m ξ n ro ω todo ⟨env,σ,D,rc⟩ K:=h env σ a
end

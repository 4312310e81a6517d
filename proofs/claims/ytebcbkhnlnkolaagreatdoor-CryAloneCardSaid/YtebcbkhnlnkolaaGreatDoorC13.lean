import Derived.Test.YtebcbkhnlnkolaaGreatDoorC12
set_option linter.all false
namespace Go.bN
section
open Go.Conc
open Go.ConcN (sumTo upd sumTo_upd upd_ne upd_same)
def runNT_add{P}:∀  a b   m m1   t c ,runNT P a m t=(.next m1,c)->runNT P (a+b) m t=runNT P b m1 c
 | 0,b,m,m1,t,c,h=>by
   simp only[runNT,zU,Stepped.next.injEq]at h
   simp_all
 | a + 1,b,m,m1,t,c,h=>by
   have e:a+1+b=(a+b)+1:=by omega
   rw[e];simp only[runNT]at h ⊢;cases d:stepT P m with
   | mk r ops=>
     rw[d]at h;cases r with
     |next f=>simp only at h ⊢;exact runNT_add a b f m1 _ c h
     |ended o w=>simp at h
def AO(w w':World):Prop:=w.heap=w'.heap/\oE w.os w'.os/\w'.output=w.output
def AO.refl  w :AO w w:=⟨rfl,.refl _,rfl⟩
def cV.IC{Z kk g J M w w' t}(h:cV Z kk g J M w t)(d:AO w w'):cV Z kk g J M w' t:=by
 have e:=d.1.symm;have c:∀{k O},Sat k O w->Sat k O w':=λc=>⟨c.apart,λb i v x=>by rw[(tw e _).1];exact c.cell b i v x,λb s x=>by have:=c.sh b s x;simpa[World.shape?,e]using this,λb o x=>by rw[e];exact c.obj b o x,λb n x=>by rw[e];exact c.tail b n x,λb f x=>by rw[e];exact c.part b f x⟩
 exact⟨λi=>c (h.sat i),h.kO,h.qh,λi=>by rw[e];exact h.DX i,h.clean,λop x=>by rw[e];exact h.seen op x,h.acc,h.n0,h.z7,λa x=>by rw[e];exact h.nN a x,λr x=>by rw[e];exact h.rS r x,h.BP.step d.2.1 d.2.2 (by simp_all) (λb _=>by rw[e]),h.mine⟩
structure fG  P   d   k   O   g  (gs:aeK)  w   t  (Z:Base)  q :Prop where
 lk:0≠Z.lk
 g0:gs[0]?=some g
 lv:Leavers P t gs q
 df:Deaf t 0=d
 dp:cV Z (cz (λ_=>ar.bot) 0 k) (cz (λ_=>an.bot) 0 O) (λ_=>False) (λ_=>False) w t
def TZ(P:afn)(k:ar)(O:an)(g:afd)(d:Nat)(N:ar->an->afd->afa):Prop:=∀w,Sat k O w->∃g' w' es k' O',stepG P true g w=.go g' w' es/\(∃a:World,AO a w'/\Sat k' O' a/\(Eff k O w k' O' a es.toList\/(a=w/\k'=k/\O'=O/\(es=#[⟨.mark .disable,false,true⟩]\/es=#[⟨.mark .enable,false,true⟩]))))/\N k' O' g' (deafBehind d es)
section
variable{P:afn}{k k':ar}{O O':an}{g g':afd}{gs:aeK}{w w':World}{t:Trace}{Z:Base}{q:afh}{d:Nat}
def eV.ZZ{W0}(h:eV P W0 k O g gs w t):∃Z q,Z.W0=W0/\fG P 0 k O g gs w t Z q:=by
 obtain⟨Z,_,e,_,a,b,⟨q,c⟩,hd,d,_⟩:=cV.start h 1 ⟨0,0,none⟩ (by decide);exact⟨Z,q,a,by omega,b,c,hd,d⟩
def fG.back(h:fG P 0 k O g gs w t Z q):eV P Z.W0 k O g gs w t:=by have:=h.dp.finish (P:=P) h.g0 h.lv h.df;rw[au,au]at this;exact this
def fG.at(h:fG P d k O g gs w t Z q)  x :fG P d k O g gs (w.at x) t Z q:=⟨h.lk,h.g0,h.lv,h.df,h.dp.at x⟩
def fG.IC(h:fG P d k O g gs w t Z q)(e:AO w w'):fG P d k O g gs w' t Z q:=⟨h.lk,h.g0,h.lv,h.df,h.dp.IC e⟩
def fG.sat(h:fG P d k O g gs w t Z q):Sat k O w:=by have:=h.dp.sat 0;rwa [au,au]at this
def CO{α}  f   i  (x y:α):cz (cz f i x) i y=cz f i y:=by
 funext j;by_cases e:j=i
 . subst e;rw[au,au]
 rw[aA _ _ e,aA _ _ e,aA _ _ e]
def fG.own(h:fG P d k O g gs w t Z q){es fn pos}(y:Sat k' O' w')(l:Eff k O w k' O' w' es.toList\/(w'=w/\k'=k/\O'=O/\(es=#[⟨.mark .disable,false,true⟩]\/es=#[⟨.mark .enable,false,true⟩]))):
 fG P (deafBehind d es) k' O' g' (gs.setIfInBounds 0 g') w' (t++MemOp.ofEvents 0 fn pos es) Z q:=by
 have p:=(zG.1 h.g0).1;have f:∀op∈MemOp.ofEvents 0 fn pos es,op.g=0:=λop c=>by obtain⟨e,_,rfl⟩:=LK c;rfl
 refine⟨h.lk,aah p,⟨λi x z s=>?_,λj u=>?_⟩,by rw[Deaf_own,h.df],?_⟩
 . rw[aaz (by omega)]at s
   rw[Deaf_other t (by omega) _ f];exact h.lv.old i x z s
 . rw[adb]at u
   rw[Deaf_other t (by omega) _ f];exact h.lv.above j u
 rcases l with l|⟨rfl,rfl,rfl,l⟩
 . have:=h.dp.own (i:=0) h.lk (.inl rfl) (k':=k') (O':=O') (fn:=fn) (pos:=pos) (by rw[au,au];exact l) y
   rwa [CO,CO]at this
 have o:∀op∈MemOp.ofEvents 0 fn pos es,op.act.touch?=none/\op.act.low w'.heap.size:=λop c=>by
  obtain⟨e,r,rfl⟩:=LK c
  rcases l with rfl|rfl<;>simp at r<;>subst r<;>exact⟨rfl,trivial⟩
 exact h.dp.wG (λa b=>a=b) rfl ⟨⟨.refl _,rfl⟩,λ_ _=>rfl⟩ (λb=>.inl rfl) (λop c=>(o op c).2) (λa b e n x _ _ _ A=>by subst e;exact A.app _) (λj b n v h=>⟨j,rfl,h⟩) (λj b n h=>⟨j,rfl,h⟩) (λj b x h=>⟨j,rfl,h,λ_ h=>h⟩) h.dp.kO
  (λsaid=>noRace_appendMute (h.dp.clean said) λop c=>(o op c).1) (λop c a ha=>by simp_all) (λm op a c ha=>by grind) (λn a ha r h=>h.elim (λ⟨_,h,_⟩=>h.elim) (λ⟨_,h,_⟩=>h.elim))
def BY(c:Leavers P t gs q){a a' x w'}:(gs.map (woken P a a' w')).setIfInBounds 0 x=gs.setIfInBounds 0 x:=by
 apply aeh;intro j;by_cases b:0=j
 . grind
 rw[aaz b,aaz b,adz];cases d:gs[j]? with
 |none=>rfl
 |some y=>simp only[aaT,kn];exact woken_quitsD (c.old j y (by omega) d)
def CP{N}(p:g.status=.running)(F:TZ P k O g d N):
 ∀  n   gs   w   sl   t   q ,sumTo gs.size q=n->fG P d k O g gs w t Z q ->
  ∃M gs' w' l Q q' k' O' g' d',runNT P M (crowd gs w sl) t=(.next (crowd gs' w' l),Q)/\fG P d' k' O' g' gs' w' Q Z q'/\N k' O' g' d':=by
 intro n
 induction n using Nat.strongRecOn with
 |ind n ih=>
 intro gs w sl t q hn o
 have T:∀x∈gs,awake x:=by
  intro x hx;obtain⟨i,D,rfl⟩:=Array.mem_iff_getElem.1 hx
  rcases Nat.eq_zero_or_pos i with rfl|r
  . have:gs[0]=g:=by simpa[aaJ D]using o.g0
    rw[this];exact awake_of (.inl p)
  exact awake_of ((o.lv.old i _ r (aaJ D)).status.elim .inl λx=>.inr (.inr x))
 obtain⟨i,x,B,l,D,hg,H⟩:=crowd_pick (P:=P) (w:=w) (sl:=sl) T ⟨0,g,o.g0,p⟩;have U:=(zG.1 D).1;have s:=o.at B
 rcases Nat.eq_zero_or_pos i with rfl|r
 . obtain rfl:x=g:=by rw[o.g0]at D;grind
   obtain⟨g',w',es,k',O',s1,⟨w2,s0,s2,s3⟩,s4⟩:=F (w.at B) s.sat;have c:=runT_crowd_go (P:=P) (sl:=l) (i:=0) D (show stepG P (0==0) x (w.at B)=_ from s1)
   rw[BY o.lv]at c;exact⟨1,_,w',l,_,q,k',O',g',_,by simp only[runNT,H,c],(s.own (fn:=x.frame.fn) (pos:=x.frame.place) s2 s3).IC s0,s4⟩
 have R:=o.lv.old i x r D;have V:(i==0)=false:=by simp;omega
 cases G:q i with
 |zero=>rw[G]at R;rw[R.1]at hg;cases hg
 | succ E=>
   rw[G]at R
   rcases R with⟨hf,_⟩|⟨_,g',es,W,I,X⟩
   . grind
   have c:=runT_crowd_go (P:=P) (sl:=l) (i:=i) D (by rw[V];exact I (w.at B))
   have ad:sumTo gs.size (upd q i E)+(E+1)=sumTo gs.size q+E:=by have:=sumTo_upd q E id U;simpa[G]using this
   have A:∀op∈MemOp.ofEvents i x.frame.fn x.frame.place es,op.g=i:=λop f=>by obtain⟨e,_,rfl⟩:=LK f;rfl
   have Y:∀op∈MemOp.ofEvents i x.frame.fn x.frame.place es,op.act.touch?=none:=λop f=>by obtain⟨e,he,rfl⟩:=LK f;exact touch_mute (W e he)
   have J:∀op∈MemOp.ofEvents i x.frame.fn x.frame.place es,op.act.low (w.at B).heap.size:=λop f=>by obtain⟨e,he,rfl⟩:=LK f;exact low_mute (W e he) _
   have hP:=s.dp.wG (w':=w.at B) (kk':=cz (λ_=>ar.bot) 0 k) (OO':=cz (λ_=>an.bot) 0 O) (J':=λ_=>False) (M':=λ_=>False) (u:=MemOp.ofEvents i x.frame.fn x.frame.place es) (λa b=>a=b) rfl ⟨⟨.refl _,rfl⟩,λ_ _=>rfl⟩ (λb=>.inl rfl) J (λa b e n y _ _ _ h=>by subst e;exact h.app _) (λj b n v h=>⟨j,rfl,h⟩) (λj b n h=>⟨j,rfl,h⟩) (λj b x h=>⟨j,rfl,h,λ_ h=>h⟩) s.dp.kO
    (λsaid=>noRace_appendMute (s.dp.clean said) Y) (λop f a ha=>by grind) (λm op a f ha=>by grind) (λn a ha W h=>h.elim (λ⟨_,h,_⟩=>h.elim) (λ⟨_,h,_⟩=>h.elim))
   have a7:fG P d k O g ((gs.map (woken P x g' (w.at B))).setIfInBounds i g') (w.at B) (t++MemOp.ofEvents i x.frame.fn x.frame.place es) Z (upd q i E):=by
    refine⟨o.lk,?_,⟨λj y hj S=>?_,λj hj=>?_⟩,?_,hP⟩
    . rw[aaz (by omega),adz,o.g0]
      simp[woken_run p]
    . by_cases C:i=j
      . subst C
        rw[aah (by grind)]at S
        obtain rfl:=aax S;rw[upd_same,Deaf_own];exact X
      rw[aaz C,adz]at S;obtain⟨z,hz,rfl⟩:=aaD.1 S;have K:=o.lv.old j z hj hz;rw[woken_quitsD K,upd_ne q E (zs C),Deaf_other t C _ A];exact K
    . rw[Deaf_other t (g':=i) (by grind) _ A]
      exact o.lv.above j (by grind)
    rw[Deaf_other t (by omega) _ A];exact o.df
   obtain⟨M,gs',a8,L,Q,q',k',O',a9,d',e1,e2,e3⟩:=ih (sumTo gs.size (upd q i E)) (by omega) _ (w.at B) l _ (upd q i E) (by simp) a7
   exact⟨M+1,gs',a8,L,Q,q',k',O',a9,d',by simp only[runNT,H,c];exact e1,e2,e3⟩
inductive jM(P:afn)(N:aeE):ar->an->afd->afa
 |done {k:ar}{O:an}{g:afd}:N k O g->jM P N k O g 0
 |step {k:ar}{O:an}{g:afd}{d:Nat}(N':ar->an->afd->afa):g.status=.running->TZ P k O g d N'->(∀k' O' g' d',N' k' O' g' d'->jM P N k' O' g' d')->jM P N k O g d
def O5{N}(h:jM P N k O g d):∀  gs   w   sl   t   q ,fG P d k O g gs w t Z q ->
 ∃M gs' w' a j k' O' g',runNT P M (crowd gs w sl) t=(.next (crowd gs' w' a),j)/\eV P Z.W0 k' O' g' gs' w' j/\N k' O' g':=by
 induction h with
 |done h=>exact λgs w sl t q b=>⟨0,gs,w,sl,t,_,_,_,rfl,b.back,h⟩
 |step F l m _ n=>intro gs w sl t q b;obtain⟨o,c,p,e,r,s,G,H,I,J,u,v,x⟩:=CP l m _ gs w sl t q rfl b;obtain⟨M2,f,y,i,z,A,B,C,f1,D,E⟩:=n _ _ _ _ x c p e r s v;exact⟨o+M2,f,y,i,z,A,B,C,by rw[runNT_add _ _ _ _ _ _ u];exact f1,D,E⟩
def jM.phase{N}(h:jM P N k O g 0):Dz P k O g N:=λW0 gs w sl t a=>by obtain⟨Z,q,rfl,b⟩:=a.ZZ;exact O5 h gs w sl t q b
def eV.ghost{W0}(h:eV P W0 k O g gs w t){k' O'}(b:mM k O k' O'):eV P W0 k' O' g gs w t:=by
 obtain⟨Z,q,rfl,a⟩:=h.ZZ;obtain⟨c,d⟩:=b w a.sat;have:=a.own (g':=g) (es:=#[]) (fn:=0) (pos:=  "") c (.inl d)
 have e:t++MemOp.ofEvents 0 0  "" #[]=t:=by rw[ofEvents_eq];simp
 have f:gs.setIfInBounds 0 g=gs:=by
  apply aeh;intro j;by_cases i:0=j
  . subst i
    rw[aah (zG.1 a.g0).1,a.g0]
  simp_all
 rw[e,f]at this;exact this.back
def O6{m}(H:m.main=true)(I:∀k O g N,¬m.dM k O g N){Q}(h:T P m Q k O g):
 ∀  W0   gs   w   sl   t ,eV P W0 k O g gs w t ->
  ∃M gs' w' n E k' O' g',runNT P M (crowd gs w sl) t=(.next (crowd gs' w' n),E)/\eV P W0 k' O' g' gs' w' E/\Q k' O' g':=by
 induction h with
 |stop h=>exact λW0 gs w sl t a=>⟨0,gs,w,sl,t,_,_,_,rfl,a,h⟩
 | step N i _ l j=>
   intro W0 gs w sl t a;rw[H]at l;obtain⟨Z,q,rfl,J⟩:=a.ZZ
   obtain⟨o,b,p,c,r,q1,K,L,R,d1,s,u,rfl,v⟩:=CP (N:=λk' O' g' S=>S=0/\N k' O' g') i (λw U=>by
    obtain⟨g',w',es,k',O',V,F,W,X⟩:=l w U;refine⟨g',w',es,k',O',V,⟨w',.refl _,W,.inl F⟩,?_,X⟩;have G:=cP (t:=#[]) (z9 (λe Y=>F.evs e Y) 0 0  "") 0
    rw[Deaf_own]at G;exact G) _ gs w sl t q rfl J
   obtain⟨M2,d,x,f,y,z,A,B,f1,C,D⟩:=j _ _ _ v _ b p c r u.back;exact⟨o+M2,d,x,f,y,z,A,B,by rw[runNT_add _ _ _ _ _ _ s];exact f1,C,D⟩
 |ghost i _ j=>exact λW0 gs w sl t a=>j W0 gs w sl t (a.ghost i)
 |phase N i _ l j=>intro W0 gs w sl t a;obtain⟨o,b,p,c,r,K,L,R,s,u,v⟩:=l W0 gs w sl t a;obtain⟨M2,d,x,f,y,z,A,B,f1,C,D⟩:=j _ _ _ v W0 b p c r u;exact⟨o+M2,d,x,f,y,z,A,B,by rw[runNT_add _ _ _ _ _ _ s];exact f1,C,D⟩
 |dM N h0 i _ _=>simp_all
end
def ku(fo:Nat)(s:Mu.Sh):Nat->aeR:=λi=>if i=fo then some (.int .i32 (enc s.w.L s.w.K s.w.S s.w.N))else if i=fo+1 then some (.int .u32 s.ms)else none
def iE:Mu.Sh:=⟨.zero,0⟩
def fC:Mu.Sh:=⟨{Mu.Wd.zero with L:=true},0⟩
def AP  fo :ku fo iE=bW fo:=by
 funext i;simp[ku,bW,iE,enc,Mu.Wd.zero]
def AQ(fo:Nat):Nat->aeR:=ku fo fC
section
variable{P:afn}{k:ar}{O:an}{b o:Nat}{w w':World}{s s':Mu.Sh}
def SJ(f:Sat k O w)(g:O b=some (.part (ku o s))):ShM b o w s:=by
 obtain⟨c,e,a,h,d⟩:=f.part _ _ g;refine⟨?_,?_,λi=>?_⟩
 . exact pn a (d o _ (by simp[ku]))
 . exact pn a (d (o+1) _ (by simp[ku]))
 exact m5 a
def heap_set{w:World}{b i v c e z}(h:w.heap[b]?=some (.cells c e z)):(w.setCell ⟨b,i,none⟩ v).heap[b]?=some (.cells (c.setIfInBounds i v) e z):=by have a:=(zG.1 h).1;simp[World.setCell,acj,h]
def yd{w:World}{b i d v}(h:d≠b):(w.setCell ⟨b,i,none⟩ v).heap[d]?=w.heap[d]?:=by simp[World.setCell,acj,zs h]
def U6{es}(u:Sat k O w)(M:O b=some (.part (ku o s)))(G:MW b o w w')(H:ShM b o w' s')(I:EvM b o es)(a7:∀e∈es,∀m,e.loc≠.mark m):
 ∃R ,AO R w'/\Sat k (O.set b (.part (ku o s'))) R/\Eff k O w k (O.set b (.part (ku o s'))) R es.toList:=by
 obtain⟨c,e,D,h2,h3⟩:=u.part _ _ M;have a8:=(zG.1 D).1
 have key:∃x,w'.heap[b]?=some (.cells x e (0,0))/\x.size=c.size/\(∀i,i≠o->i≠o+1->x[i]?=c[i]?)/\(∀d,d≠b->w'.heap[d]?=w.heap[d]?)/\w'.heap.size=w.heap.size:=by
  rcases G.2 with T|⟨i,v,p,P,T⟩
  . simp_all
  refine⟨c.setIfInBounds i v,by rw[T];exact heap_set D,by simp,λj hj a9=>?_,λd hd=>by rw[T];exact yd hd,by simp_all⟩
  grind
 obtain⟨x,B,U,k3,E,k5⟩:=key;have ad:x[o]?=some (.int .i32 (enc s'.w.L s'.w.K s'.w.S s'.w.N)):=by have:=H.cw;simpa[World.cell?,B]using this
 have al:x[o+1]?=some (.int .u32 s'.ms):=by have:=H.cs;simpa[World.cell?,B]using this
 have A:∀i,(i=o\/i=o+1)->aZ O b i:=λi p=>.inr (.inr ⟨_,M,by rcases p with rfl|rfl<;>simp[ku]⟩)
 have l:∀d y,(O.set b (.part (ku o s'))) d=some y->(d=b/\y=.part (ku o s'))\/(d≠b/\O d=some y):=λd y h=>by
  by_cases hd:d=b
  . subst hd;simp[an.set]at h;simp_all
  simp[an.set,hd]at h;simp_all
 have r:∀i v,k.cell b i=some v->i≠o/\i≠o+1:=λi v t=>⟨λe=>u.apart _ _ _ t (A i (.inl e)),λe=>u.apart _ _ _ t (A i (.inr e))⟩
 refine⟨{w with heap:=w'.heap},⟨rfl,G.1⟩,⟨λd i v t Y=>?_,λd i v t=>?_,λd z V=>?_,λd y C=>?_,λd n C=>?_,λd f C=>?_⟩,⟨.refl k,?_,λd hd Q=>?_,λd n hd Q c2 e2 W=>?_,λd f hd Q c2 e2 W=>?_,λd hd=>?_,λd y C=>?_,λd i v t=>.inl t,λd z V=>.inl V,λX J=>?_,rfl,rfl,rfl,λX J=>?_,λd f P=>?_⟩⟩
 . by_cases hd:d=b
   . subst hd
     obtain⟨Z,n2⟩:=r i v t;rcases Y with⟨_,q⟩|⟨_,q,_⟩|⟨f,q,P⟩
     . grind
     . grind
     simp[an.set]at q;subst q;simp[ku,Z,n2]at P
   exact u.apart d i v t (by simpa[aZ,an.set,hd]using Y)
 . have F:=u.cell d i v t
   by_cases hd:d=b
   . subst hd
     obtain⟨Z,n2⟩:=r i v t;simp only[World.cell?,D,B]at F ⊢
     simp_all
   simpa[World.cell?,E d hd]using F
 . have F:=u.sh d z V
   by_cases hd:d=b
   . subst hd
     simp only[World.shape?,D,B,U]at F ⊢;exact F
   simpa[World.shape?,E d hd]using F
 . rcases l d _ C with⟨_,q⟩|⟨hd,g⟩
   . cases q
   rw[show({w with heap:=w'.heap}:World).heap[d]?=w.heap[d]? from E d hd];exact u.obj d y g
 . rcases l d _ C with⟨_,q⟩|⟨hd,g⟩
   . cases q
   rw[show({w with heap:=w'.heap}:World).heap[d]?=w.heap[d]? from E d hd];exact u.tail d n g
 . rcases l d _ C with⟨rfl,q⟩|⟨hd,g⟩
   . cases q
     refine⟨x,e,B,by simp_all,λi v p=>?_⟩;unfold ku at p
     grind
   rw[show({w with heap:=w'.heap}:World).heap[d]?=w.heap[d]? from E d hd];exact u.part d f g
 . simp_all
 . grind
 . grind
 . by_cases a:d=b
   . subst a
     rw[M]at Q;cases Q;rw[D]at W;cases W;exact⟨x,B,U,λi p=>k3 i (λq=>by subst q;simp[ku]at p) (λq=>by subst q;simp[ku]at p)⟩
   grind
 . by_cases a:d=b
   . subst a
     simp only[World.shape?,D,B,U]
   simp[World.shape?,E d a]
 . rcases l d _ C with⟨rfl,rfl⟩|⟨a,g⟩
   . refine .inl ⟨_,M,λi p=>?_⟩
     unfold ku at p ⊢
     grind
   exact .inl ⟨y,g,.refl y⟩
 . rcases I X (by simp_all)with q|⟨i,p,q,_⟩
   . simp_all
   simp only[kz,q];grind
 . rcases I X (by simp_all)with q|⟨i,p,q,_⟩
   . simp_all
   simp only[ki,q];omega
 by_cases a:d=b
 . subst a;exact⟨ku o s',by simp[an.set]⟩
 exact⟨f,by simp[an.set,a,P]⟩
def an.set_set(O:an)  b   x y :(O.set b x).set b y=O.set b y:=by funext d;by_cases h:d=b<;>simp[an.set,h]
def an.ai(O:an)  b   x :(O.set b x) b=some x:=by simp[an.set]
def an.EI{O:an}{b x}(h:O b=some x):O.set b x=O:=by
 funext d;by_cases e:d=b
 . subst e;simp[an.set,h]
 simp[an.set,e]
structure Lk  k   b o  (f:Mu.Sh->an):Prop where
 sat:∀{s w},Sat k (f s) w->ShM b o w s
 Y4:∀{s s' w w' es},Sat k (f s) w->MW b o w w'->ShM b o w' s'->EvM b o es->(∀e∈es,∀m,e.loc≠.mark m)->∃w2 ,AO w2 w'/\Sat k (f s') w2/\Eff k (f s) w k (f s') w2 es.toList
 has:∀s,∃x,f s b=some x
def Lk.part(O:an):Lk k b o λs=>O.set b (.part (ku o s)) where
 sat h:=SJ h (an.ai O b _)
 Y4 a c d e f:=by
  have:=U6 a (an.ai O b _) c d e f
  rwa [an.set_set]at this
 has s:=⟨_,an.ai O b _⟩
def om(c:aeS)(o:Nat)(s:Mu.Sh):aeS:=(c.setIfInBounds o (.int .i32 (enc s.w.L s.w.K s.w.S s.w.N))).setIfInBounds (o+1) (.int .u32 s.ms)
def nA{c i}(a:i≠o)(b:i≠o+1):(om c o s)[i]?=c[i]?:=by
 unfold om
 grind
def vT{c}(h:o+1<c.size):(om c o s)[o]?=some (.int .i32 (enc s.w.L s.w.K s.w.S s.w.N)):=by
 unfold om
 grind
def vU{c}(h:o+1<c.size):(om c o s)[o+1]?=some (.int .u32 s.ms):=by
 unfold om
 simp_all
def oo{c}:(om c o s).size=c.size:=by simp[om]
def Lk.obj(O:an){c e}(hc:o+1<c.size):Lk k b o λs=>O.set b (.obj (.cells (om c o s) e (0,0))) where
 sat h:=by have a:=h.obj b _ (an.ai O b _);exact⟨pn a (vT hc),pn a (vU hc),λi=>m5 a⟩
 Y4 {s s' w w' es} hs t u A Q:=by
  have a:=hs.obj b _ (an.ai O b _);have R:=(zG.1 a).1;have D:(O.set b (.obj (.cells (om c o s) e (0,0)))) b=some (.obj (.cells (om c o s) e (0,0))):=by simp[an.set]
  have T:∀d x,d≠b->(O.set b x) d=O d:=λd x h=>by simp[an.set,h]
  have key:w'.heap[b]?=some (.cells (om c o s') e (0,0))/\(∀d,d≠b->w'.heap[d]?=w.heap[d]?)/\w'.heap.size=w.heap.size:=by
   have key:∃p,w'.heap[b]?=some (.cells p e (0,0))/\p.size=c.size/\(∀i,i≠o->i≠o+1->p[i]?=c[i]?)/\(∀d,d≠b->w'.heap[d]?=w.heap[d]?)/\w'.heap.size=w.heap.size:=by
    rcases t.2 with r|⟨i,v,M,hf,r⟩
    . exact⟨_,by rw[r];exact a,oo,λ_ U V=>nA U V,λd _=>by rw[r],by rw[r]⟩
    refine⟨_,by rw[r];exact heap_set a,by rw[adb,oo],λj W E=>?_,λd hd=>by rw[r];exact yd hd,by simp_all⟩;rw[aaz (by omega)];exact nA W E
   obtain⟨p,k1,Z,X,l,P⟩:=key;refine⟨?_,l,P⟩;rw[k1];have F:p[o]?=some (.int .i32 (enc s'.w.L s'.w.K s'.w.S s'.w.N)):=by have:=u.cw;simpa[World.cell?,k1]using this
   have G:p[o+1]?=some (.int .u32 s'.ms):=by have:=u.cs;simpa[World.cell?,k1]using this
   have:p=om c o s':=by
    apply aeh;intro i;by_cases e1:i=o
    . subst e1;rw[F,vT hc]
    by_cases e2:i=o+1
    . subst e2;rw[G,vU hc]
    rw[X i e1 e2,nA e1 e2]
   rw[this]
  obtain⟨k1,l,P⟩:=key
  have B:∀d i x y,aZ (O.set b (.obj x)) d i->aZ (O.set b (.obj y)) d i:=λd i x y hc=>by
   by_cases hd:d=b
   . subst hd;exact .inl ⟨y,by simp[an.set]⟩
   simpa[aZ,an.set,hd]using hc
  have H:∀d i v,k.cell d i=some v->d≠b:=λd i v m e=>hs.apart _ _ _ m (by subst e;exact .inl ⟨_,D⟩)
  refine⟨{w with heap:=w'.heap},⟨rfl,t.1⟩,⟨λd i v m hc=>hs.apart d i v m (B _ _ _ _ hc),λd i v m=>?_,λd z I=>?_,λd y hy=>?_,λd n hy=>?_,λd f hy=>?_⟩,⟨.refl k,?_,λd hd hn=>?_,λd n hd hn c2 e2 Y=>?_,λd f hd hn c2 e2 Y=>?_,λd hd=>?_,λd y hy=>?_,λd i v m=>.inl m,λd z I=>.inl I,λJ C=>?_,rfl,rfl,rfl,λJ C=>?_,λd f hf=>?_⟩⟩
  . have h0:=hs.cell d i v m
    simpa[World.cell?,l d (H d i v m)]using h0
  . have h0:=hs.sh d z I
    by_cases hd:d=b
    . subst hd
      simp only[World.shape?,a,k1,oo]at h0 ⊢;exact h0
    simpa[World.shape?,l d hd]using h0
  . by_cases hd:d=b
    . subst hd
      simp only[an.set,aay,kn,Own.obj.injEq]at hy
      simp_all
    rw[show({w with heap:=w'.heap}:World).heap[d]?=w.heap[d]? from l d hd];exact hs.obj d y (by simp_all)
  . have hd:d≠b:=λq=>by subst q;simp[an.set]at hy
    rw[show({w with heap:=w'.heap}:World).heap[d]?=w.heap[d]? from l d hd];exact hs.tail d n (by simp_all)
  . have hd:d≠b:=λq=>by subst q;simp[an.set]at hy
    rw[show({w with heap:=w'.heap}:World).heap[d]?=w.heap[d]? from l d hd];exact hs.part d f (by simp_all)
  . simp_all
  . grind
  . grind
  . grind
  . by_cases g:d=b
    . subst g
      simp only[World.shape?,a,k1,oo]
    simp[World.shape?,l d g]
  . by_cases g:d=b
    . subst g;exact .inl ⟨_,D,trivial⟩
    exact .inl ⟨y,by simp_all,.refl y⟩
  . rcases A J (by simp_all)with q|⟨i,M,q,_⟩
    . simp_all
    simp only[kz,q];exact .inl (.inl ⟨_,D⟩)
  . rcases A J (by simp_all)with q|⟨i,M,q,_⟩
    . simp_all
    simp only[ki,q];omega
  grind
 has s:=⟨_,an.ai O b _⟩
variable{n:FY}(C:iH P n)(X:iI P n){kind:afj}{Wd:aeT}{cs:aeY}{g:afd}{main:Bool}
def X1(b o:Nat):aeU:=#[⟨.cell ⟨b,o,none⟩,false,true⟩,⟨.cell ⟨b,o,none⟩,true,true⟩]
def U7  b o :EvM b o (X1 b o)/\(∀e∈X1 b o,∀m,e.loc≠.mark m)/\∀d,deafBehind d (X1 b o)=d:=by
 refine⟨mF (.inl rfl),λe a m h=>?_,λd=>rfl⟩;simp[X1]at a
 grind
include C X in
def O7(a:ShM b o w iE)(h:qC P n b o kind .js cs g):∃e w',stepG P main g w=.go e w' (X1 b o)/\MW b o w w'/\ShM b o w' fC/\Next P n b o kind Wd cs .le e:=by
 obtain⟨c,y,fr,j,rfl,k,f,d,rfl⟩:=h;have l:(wP P n b o kind).1.kind≠.early:=by simp[wP,oT]
 have i:=a.cw;rw[show enc iE.w.L iE.w.K iE.w.S iE.w.N=0 from rfl]at i;exact⟨_,_,ji f (C.o2 b o kind) l X.my (v:=0) (n:=1) (λx h=>h) (λx h=>h) i (a.fz o),yr rfl,a.bb {Mu.Wd.zero with L:=true},nxt (C.e2 _ b o kind) k f d rfl (.inl rfl)⟩
include C X in
def O8(i:ShM b o w fC)(h:qC P n b o kind .held cs g):∃r w' es,stepG P main g w=.go r w' es/\MW b o w w'/\ShM b o w' iE/\EvM b o es/\(∀e∈es,∀m,e.loc≠.mark m)/\(∀d,deafBehind d es=d)/\Next P n b o kind Wd cs .ue r:=by
 obtain⟨c,y,fr,j,rfl,u,s,k,rfl⟩:=h;have l:({y with N:=0}:Sy).ok:=⟨⟨by simp,by simp⟩,u.2⟩;have p:=s.re (y':={y with N:=0}) (.inr rfl) (.inl rfl) (.inl rfl) (.inl rfl);have a:=k.iU (y':={y with N:=0}) (by simpa[uC,rU]using(C.p3 b o kind).1);have f:=sG (main:=main) (cs:=j++cs) (w:=w) s (C.Zw b o kind) (by simp[uC,rU]) X.add (λx h=>h) i.cw (i.fz _);have e:IntKind.i32.wrap (enc fC.w.L fC.w.K fC.w.S fC.w.N+-1)=enc false false false 0:=by decide
 rw[e]at f;have q:=i.bb Mu.Wd.zero;have v:SR {y with N:=0} (.word false false false 0) (.int .i32 (enc false false false 0)):=tx rfl;have key:=C.u5 (Fl.of {y with N:=0}) b o kind true false (by rfl);exact⟨_,_,_,f,yr rfl,q,mF (.inl rfl),(λe t m h=>(by simp at t;rcases t with rfl|rfl<;>cases h)),(λd=>rfl),nxt (y:={y with N:=0}) key l p a v rfl⟩
def jM.Ct{N Wd a d}(i:∀w,Sat k O w->Wd w){m}:∀{g},kB P Wd m g a->jM P N k O a d->jM P N k O g d:=by
 induction m with
 |zero=>intro g h b;obtain rfl:g=a:=h;exact b
 | succ m l=>
   intro g h b;obtain⟨c,e,n⟩:=h;refine .step (λk' O' g' j=>k=k'/\O=O'/\c=g'/\d=j) e.1 (λw f=>⟨c,w,#[],k,O,e.2 true w (i w f),⟨w,.refl _,f,.inl (.refl ..)⟩,rfl,rfl,rfl,rfl⟩) ?_
   grind
def jM.next{N p c d}(e:∀w,Sat k O w->Wd w)(h:Next P n b o kind Wd cs p c)(f:∀a,qC P n b o kind p cs a->jM P N k O a d):jM P N k O c d:=by obtain⟨_,a,⟨m,g⟩,i⟩:=h;exact jM.Ct e g (f a i)
variable{N:aeE}
def GD{e}(g:Sat k O w){x}(h:O b=some x)(f:e.loc=.mark (.acquire ⟨b,o,none⟩)\/e.loc=.mark (.releaseMerge ⟨b,o,none⟩)):Eff k O w k O w [e]:=by
 have a:=Eff.refl k O w;have d:=g.wy h;refine⟨a.le,a.size,a.keep,a.tail,a.part,a.shape,a.own,a.cell,a.sh,λx c=>?_,rfl,rfl,rfl,λx c=>?_,a.tok⟩
 . rw[lb]at c;subst c
   rcases f with q|q<;>simp[kz,q,lK]
 rw[lb]at c;subst c;rcases f with q|q<;>simp only[ki,q]<;>exact d
def Lk.wd{f}(L:Lk k b o f)  s :∀w,Sat k (f s) w->∃v,w.cell? ⟨b,o,none⟩=some v:=λw a=>⟨_,(L.sat a).cw⟩
include C X in
def AR(F:oC P n){c rest}(u:kind≠.early){f}(L:Lk k b o f)(x:N k (f fC) (lS kind c rest (.tuple #[]))):jM P N k (f iE) (G (Frame.enter P n.lock #[.pointer (some ⟨b,o,none⟩)] kind) (c::rest)) 0:=by
 have t:=L.wd iE;have e:=L.wd fC;obtain⟨_,r⟩:=L.has fC;obtain⟨q,⟨m,s⟩,a⟩:=tZ (P:=P) (n:=n) (b:=b) (o:=o) (kind:=kind) (Wd:=λw=>∃v,w.cell? ⟨b,o,none⟩=some v) (cs:=c::rest) F;refine jM.Ct t s ?_;refine .step (λk' O' g' i=>k=k'/\f iE=O'/\i=1/\Next P n b o kind (λw=>∃v,w.cell? ⟨b,o,none⟩=some v) (c::rest) .js g') a.running.1 (λw g=>?_) ?_
 . obtain⟨d,j,l⟩:=Ed (main:=true) (w:=w) C X a
   exact⟨d,w,_,k,f iE,j,⟨w,.refl _,g,.inr ⟨rfl,rfl,rfl,.inl rfl⟩⟩,rfl,rfl,rfl,l⟩
 rintro _ _ d _ ⟨rfl,rfl,rfl,p⟩;refine jM.next t p λq a=>?_
 refine .step (λk' O' g' i=>k=k'/\f fC=O'/\i=1/\Next P n b o kind (λw=>∃v,w.cell? ⟨b,o,none⟩=some v) (c::rest) .le g') a.running.1 (λw g=>?_) ?_
 . obtain⟨d,w',j,l,y,z⟩:=O7 (main:=true) (w:=w) C X (L.sat g) a
   obtain⟨A,B,D⟩:=U7 b o;obtain⟨E,H,I,J⟩:=L.Y4 g l y A B;exact⟨d,w',_,k,_,j,⟨E,H,I,.inl J⟩,rfl,rfl,D 1,z⟩
 rintro _ _ d _ ⟨rfl,rfl,rfl,p⟩;refine jM.next e p λq a=>?_
 refine .step (λk' O' g' i=>k=k'/\f fC=O'/\i=0/\Next P n b o kind (λw=>∃v,w.cell? ⟨b,o,none⟩=some v) (c::rest) .la g') a.running.1 (λw g=>?_) ?_
 . obtain⟨d,j,l⟩:=JV (main:=true) (w:=w) C X (λw h=>h) a
   exact⟨d,w,_,k,_,j,⟨w,.refl _,g,.inr ⟨rfl,rfl,rfl,.inr rfl⟩⟩,rfl,rfl,rfl,l⟩
 rintro _ _ d _ ⟨rfl,rfl,rfl,p⟩;refine jM.next e p λq a=>?_
 refine .step (λk' O' g' i=>k=k'/\f fC=O'/\i=0/\Next P n b o kind (λw=>∃v,w.cell? ⟨b,o,none⟩=some v) (c::rest) .back g') a.running.1 (λw g=>?_) ?_
 . obtain⟨d,j,l⟩:=JU (main:=true) (w:=w) C X a
   exact⟨d,w,_,k,_,j,⟨w,.refl _,g,.inl (GD g r (.inl rfl))⟩,rfl,rfl,rfl,l⟩
 rintro _ _ d _ ⟨rfl,rfl,rfl,p⟩;refine jM.next e p λq a=>?_
 obtain⟨m,s⟩:=vw (Wd:=λw=>∃v,w.cell? ⟨b,o,none⟩=some v) F a u;exact jM.Ct e s (.done x)
include C X in
def vV(F:oC P n){c rest}(t:kind≠.early){f}(L:Lk k b o f)(u:N k (f iE) (lS kind c rest (.tuple #[]))):jM P N k (f fC) (G (Frame.enter P n.unlock #[.pointer (some ⟨b,o,none⟩)] kind) (c::rest)) 0:=by
 have r:=L.wd fC;have p:=L.wd iE;obtain⟨_,x⟩:=L.has fC;obtain⟨q,⟨m,s⟩,a⟩:=rV (P:=P) (n:=n) (b:=b) (o:=o) (kind:=kind) (Wd:=λw=>∃v,w.cell? ⟨b,o,none⟩=some v) (cs:=c::rest) F;refine jM.Ct r s ?_;refine .step (λk' O' g' g=>k=k'/\f fC=O'/\g=0/\Next P n b o kind (λw=>∃v,w.cell? ⟨b,o,none⟩=some v) (c::rest) .ur g') a.running.1 (λw e=>?_) ?_
 . obtain⟨d,i,j⟩:=Ae (main:=true) (w:=w) C X (λw h=>h) (L.sat e).cw a
   exact⟨d,w,_,k,f fC,i,⟨w,.refl _,e,.inl (.refl ..)⟩,rfl,rfl,rfl,j⟩
 rintro _ _ d _ ⟨rfl,rfl,rfl,l⟩;refine jM.next r l λq a=>?_
 refine .step (λk' O' g' g=>k=k'/\f fC=O'/\g=0/\Next P n b o kind (λw=>∃v,w.cell? ⟨b,o,none⟩=some v) (c::rest) .ud g') a.running.1 (λw e=>?_) ?_
 . obtain⟨d,i,j⟩:=JS (main:=true) (w:=w) C X a
   exact⟨d,w,_,k,_,i,⟨w,.refl _,e,.inl (GD e x (.inr rfl))⟩,rfl,rfl,rfl,j⟩
 rintro _ _ d _ ⟨rfl,rfl,rfl,l⟩;refine jM.next r l λq a=>?_
 refine .step (λk' O' g' g=>k=k'/\f fC=O'/\g=1/\Next P n b o kind (λw=>∃v,w.cell? ⟨b,o,none⟩=some v) (c::rest) .held g') a.running.1 (λw e=>?_) ?_
 . obtain⟨d,i,j⟩:=JR (main:=true) (w:=w) C X a
   exact⟨d,w,_,k,_,i,⟨w,.refl _,e,.inr ⟨rfl,rfl,rfl,.inl rfl⟩⟩,rfl,rfl,rfl,j⟩
 rintro _ _ d _ ⟨rfl,rfl,rfl,l⟩;refine jM.next r l λq a=>?_
 refine .step (λk' O' g' g=>k=k'/\f iE=O'/\g=1/\Next P n b o kind (λw=>∃v,w.cell? ⟨b,o,none⟩=some v) (c::rest) .ue g') a.running.1 (λw e=>?_) ?_
 . obtain⟨d,w',es,i,j,y,z,A,B,D⟩:=O8 (main:=true) (w:=w) C X (L.sat e) a
   obtain⟨E,H,I,J⟩:=L.Y4 e j y z A;exact⟨d,w',_,k,_,i,⟨E,H,I,.inl J⟩,rfl,rfl,B 1,D⟩
 rintro _ _ d _ ⟨rfl,rfl,rfl,l⟩;refine jM.next p l λq a=>?_
 refine .step (λk' O' g' g=>k=k'/\f iE=O'/\g=0/\Next P n b o kind (λw=>∃v,w.cell? ⟨b,o,none⟩=some v) (c::rest) .F3 g') a.running.1 (λw e=>?_) ?_
 . obtain⟨d,i,j⟩:=Ee (main:=true) (w:=w) C X a
   exact⟨d,w,_,k,_,i,⟨w,.refl _,e,.inr ⟨rfl,rfl,rfl,.inr rfl⟩⟩,rfl,rfl,rfl,j⟩
 rintro _ _ d _ ⟨rfl,rfl,rfl,l⟩;refine jM.next p l λq a=>?_
 obtain⟨m,s⟩:=nW (Wd:=λw=>∃v,w.cell? ⟨b,o,none⟩=some v) F a t;exact jM.Ct p s (.done u)
def Rel.CQ{σ f}(a:Rel k O σ)(h:σ b=some (.part f)):O b=some (.part f):=by
 obtain⟨x,c,d⟩:=a.1 b _ h (by simp);cases d;exact c
def kV(b o:Nat)(a:AV):Prop:=∀k v,V k v a->v=.pointer (some ⟨b,o,none⟩)
def tE  b o   l   h :kV b o (.kp b l h o):=λk v a=>by cases a;rfl
def rB  b o :kV b o (.ref b o):=λk v a=>by cases a;rfl
def Vs.one{a c}(h:Vs k c [a]):∃v,c=[v]/\V k v a:=by
 obtain⟨b,d⟩:=h
 match c with
 |[v]=>exact⟨v,rfl,d 0 v a rfl rfl⟩
 |[]=>simp at b
 |_::_::_=>simp at b
include C X in
def LQ(F:oC P n){m}(j:m.solo=true){a}(ha:kV b o a){σ f}(d:σ b=some (.part (bW o)))(h:f (.val (.bL [])) (σ.set b (.part (AQ o)))):aB P m n.lock [a] σ f:=by
 intro Q k O e c rest kind l p g q s;obtain⟨v,rfl,r⟩:=p.one;obtain rfl:=ha _ _ r;refine .phase (λk' O' g'=>T P m Q k' O' g') j (λ_ _ _ h=>h) (jM.phase ?_);have L:=Lk.part (k:=k) (b:=b) (o:=o) O;have:=AR (P:=P) (N:=λk' O' g'=>T P m Q k' O' g') C X F l L (c:=c) (rest:=rest) ?_
 . simp only[AP]at this
   rwa [an.EI (g.CQ d)]at this
 exact q k _ (.tuple #[]) (.bL []) _ (.refl k) (.bL _ _ rfl λi v a h=>by simp at h) (g.set (.part _)) h
include C X in
def GF(F:oC P n){m}(l:m.solo=true){a}(ha:kV b o a){σ g}(d:σ b=some (.part (AQ o)))(h:g (.val (.bL [])) (σ.set b (.part (bW o)))):aB P m n.unlock [a] σ g:=by
 intro Q k O f c rest kind p q j r t;obtain⟨v,rfl,s⟩:=q.one;obtain rfl:=ha _ _ s;refine .phase (λk' O' g'=>T P m Q k' O' g') l (λ_ _ _ h=>h) (jM.phase ?_);have L:=Lk.part (k:=k) (b:=b) (o:=o) O;have:=vV (P:=P) (N:=λk' O' g'=>T P m Q k' O' g') C X F p L (c:=c) (rest:=rest) ?_
 . have e:O.set b (.part (ku o fC))=O:=an.EI (j.CQ d)
   simp only[e]at this;exact this
 simp only[AP];exact r k _ (.tuple #[]) (.bL []) _ (.refl k) (.bL _ _ rfl λi v a h=>by simp at h) (j.set (.part _)) h
def Rel.yP{σ l}(d:Rel k O σ)(h:σ b=some (.cells l)):∃c e,O b=some (.obj (.cells c e (0,0)))/\c.size=l.length/\(∀(i:Nat) v a,c[i]?=some v->l[i]?=some a->V k v a)/\∀(i:Nat) v,c[i]?=some v->flat v=true:=by
 obtain⟨x,g,f⟩:=d.1 b _ h (by simp);cases f with
 |cells c e l j m n=>grind
def CR{c}{l:afk}{e}(m:c.size=l.length)(n:∀(i:Nat) v a,c[i]?=some v->l[i]?=some a->V k v a)(p:∀(i:Nat) v,c[i]?=some v->flat v=true)(j:l[o+1]?=some (.lit (.int .u32 0)))(h:s.ms=0):mC k (.obj (.cells (om c o s) e (0,0))) (.cells (l.set o (.lit (.int .i32 (enc s.w.L s.w.K s.w.S s.w.N))))):=by
 have d:o+1<c.size:=by grind
 refine .cells _ _ _ (by rw[oo];simp_all) (λi v a b ha=>?_) (λi v b=>?_)
 . by_cases f:i=o
   . subst f
     rw[vT d]at b;rw[acn (by omega)]at ha;cases b;cases ha;exact .lit _
   rw[ach (zs f)]at ha;by_cases g:i=o+1
   . subst g
     rw[vU d,h]at b;rw[j]at ha;cases b;cases ha;exact .lit _
   rw[nA f g]at b
   grind
 by_cases f:i=o
 . subst f
   rw[vT d]at b;cases b;rfl
 by_cases g:i=o+1
 . subst g
   rw[vU d]at b;cases b;rfl
 rw[nA f g]at b
 grind
def AS{c}{l:afk}{n}(p:c.size=l.length)(e:∀(i:Nat) v a,c[i]?=some v->l[i]?=some a->V k v a)(h:l[o]?=some (.lit (.int .i32 n)))(j:n=enc s.w.L s.w.K s.w.S s.w.N)(m:l[o+1]?=some (.lit (.int .u32 0)))(d:s.ms=0):om c o s=c:=by
 have b:o+1<c.size:=by grind
 apply aeh;intro i;by_cases f:i=o
 . subst f
   rw[vT b,<-j,aaJ (by omega)];have:=e i c[i] _ (aaJ (by omega)) h;generalize c[i]=u at this;cases this;rfl
 by_cases g:i=o+1
 . subst g
   rw[vU b,d,aaJ b];have:=e _ _ _ (aaJ b) m;generalize c[o+1]=u at this;cases this;rfl
 rw[nA f g]
include C X in
def ID(F:oC P n){m}(u:m.solo=true){a}(ha:kV b o a){σ q l}(d:σ b=some (.cells l))(w:l[o]?=some (.lit (.int .i32 0)))(f:l[o+1]?=some (.lit (.int .u32 0)))(h:q (.val (.bL [])) (σ.set b (.cells (l.set o (.lit (.int .i32 1)))))):aB P m n.lock [a] σ q:=by
 intro Q k O g c rest kind x y r z H;obtain⟨v,rfl,A⟩:=y.one;obtain rfl:=ha _ _ A;obtain⟨B,D,E,j,t,G⟩:=r.yP d;refine .phase (λk' O' g'=>T P m Q k' O' g') u (λ_ _ _ h=>h) (jM.phase ?_)
 have p:o+1<B.size:=by rw[j];exact(aas.1 f).1
 have L:=Lk.obj (k:=k) (b:=b) (o:=o) O (e:=D) p;have:=AR (P:=P) (N:=λk' O' g'=>T P m Q k' O' g') C X F x L (c:=c) (rest:=rest) ?_
 . simp only[AS (s:=iE) j t w rfl f rfl]at this
   rwa [an.EI E]at this
 exact z k _ (.tuple #[]) (.bL []) _ (.refl k) (.bL _ _ rfl λi v a h=>by simp at h) (r.set (CR (s:=fC) j t G f rfl)) h
include C X in
def EJ(F:oC P n){m}(u:m.solo=true){a}(ha:kV b o a){σ q l}(d:σ b=some (.cells l))(w:l[o]?=some (.lit (.int .i32 1)))(f:l[o+1]?=some (.lit (.int .u32 0)))(h:q (.val (.bL [])) (σ.set b (.cells (l.set o (.lit (.int .i32 0)))))):aB P m n.unlock [a] σ q:=by
 intro Q k O g c rest kind x y r z H;obtain⟨v,rfl,A⟩:=y.one;obtain rfl:=ha _ _ A;obtain⟨B,D,E,j,t,G⟩:=r.yP d;refine .phase (λk' O' g'=>T P m Q k' O' g') u (λ_ _ _ h=>h) (jM.phase ?_)
 have p:o+1<B.size:=by rw[j];exact(aas.1 f).1
 have L:=Lk.obj (k:=k) (b:=b) (o:=o) O (e:=D) p;have:=vV (P:=P) (N:=λk' O' g'=>T P m Q k' O' g') C X F x L (c:=c) (rest:=rest) ?_
 . simp only[AS (s:=fC) j t w rfl f rfl]at this
   rwa [an.EI E]at this
 exact z k _ (.tuple #[]) (.bL []) _ (.refl k) (.bL _ _ rfl λi v a h=>by simp at h) (r.set (CR (s:=iE) j t G f rfl)) h
def Rel.del{σ}(h:Rel k O σ)  r :Rel k (O.del r) (σ.del r):=⟨λb a e c=>by
 by_cases hb:b=r
 . subst hb;simp[ab.del]at e
 . simp only[ab.del,hb,aao]at e
   obtain⟨x,d,f⟩:=h.1 b a e c;exact⟨x,by simp[an.del,hb,d],f⟩,λb a e c=>by
 by_cases hb:b=r
 . subst hb;simp[ab.del]at e
 simp only[ab.del,hb,aao]at e;obtain⟨d,f⟩:=h.2 b a e c;exact⟨by simp[an.del,hb,d],f⟩⟩
def Rel.jf{σ}(h:Rel k O σ)  r  (d:∃s,k.sh r=some s):Rel k (O.del r) (σ.set r .jf):=⟨λb a e c=>by
 by_cases hb:b=r
 . subst hb;simp[ab.set]at e;subst e;cases c
 . simp only[ab.set,hb,aao]at e
   obtain⟨x,f,g⟩:=h.1 b a e c;exact⟨x,by simp[an.del,hb,f],g⟩,λb a e c=>by
 by_cases hb:b=r
 . subst hb;simp[ab.set]at e;exact⟨by simp[an.del],d,λl q=>by simp_all⟩
 simp only[ab.set,hb,aao]at e;obtain⟨f,g⟩:=h.2 b a e c;exact⟨by simp[an.del,hb,f],g⟩⟩
def T.sat{m Q}(b:g.status=.running)(h:(∃w,Sat k O w)->T P m Q k O g):T P m Q k O g:=by
 by_cases a:∃w,Sat k O w
 . exact h a
 exact .step (λ_ _ _=>False) b (λ_ _ _ h=>h.elim) λw c=>absurd ⟨w,c⟩ a
variable{A:cd}{j:Nat}
def LR(hd:A.dir=false){a}(ha:kV A.fb A.fo a){σ p}(d:σ A.fb=some .jf)(h:∀x,A.GI x->(∀y,σ A.mb=some y->y.gone=true)->p (.val (.bL [])) ((σ.set A.mb x).set A.fb (.part OA))):aB P (jv P A j) A.nm.lock [a] σ p:=by
 intro Q k O g c rest kind r s l t F;obtain⟨v,rfl,u⟩:=s.one;obtain rfl:=ha _ _ u;obtain⟨w,⟨e,B⟩,_⟩:=l.2 _ _ d rfl;refine .dM (λk' O' g'=>T P (jv P A j) Q k' O' g') rfl (.inl ⟨kind,c,rest,e,r,rfl,w,B,λq=>by simp_all,λk' x y f b m n C D=>?_⟩) (λ_ _ _ h=>h);rw[show f=OA by simpa[cd.Tk,hd]using D];refine t k' _ (.tuple #[]) (.bL []) _ b (.bL _ _ rfl λi v a h=>by simp at h) (((l.mono b).set m).set (.part _)) (h y n λz E=>?_);cases o:z.gone with
 |true=>rfl
 | false=>
   obtain⟨G,H,_⟩:=l.1 _ z E o
   simp_all
def GG(hd:A.dir=false){a}(ha:kV A.fb A.fo a){σ n f y}(b:σ A.fb=some (.part f))(p:σ A.mb=some y)(r:A.GI y)(d:y.gone=false)(h:n (.val (.bL [])) ((σ.del A.mb).set A.fb .jf)):aB P (jv P A j) A.nm.unlock [a] σ n:=by
 intro Q k O e c rest kind s t g u D;obtain⟨v,rfl,z⟩:=t.one;obtain rfl:=ha _ _ z;obtain⟨x,B,l⟩:=g.1 _ _ p d;have o:=g.CQ b;refine T.sat rfl λ⟨w,C⟩=>?_
 obtain⟨E,F,_,m,_⟩:=C.part _ _ o;refine .dM (λk' O' g'=>T P (jv P A j) Q k' O' g') rfl (.inr (.inl ⟨kind,c,rest,f,x,y,s,rfl,o,B,l,r,λq=>by simp_all,?_⟩)) (λ_ _ _ h=>h);rw[show Hz P A (λk' O' g'=>T P (jv P A j) Q k' O' g')=λk' O' g'=>T P (jv P A j) Q k' O' g' by simp[Hz,hd]];exact u k _ (.tuple #[]) (.bL []) _ (.refl k) (.bL _ _ rfl λi v a h=>by simp at h) ((g.del A.mb).jf A.fb ⟨_,m⟩) h
end
section
variable{P:afn}(L:jq P){o:Oper}{env:Env}{σ:ab}{K:aeP}{Kp:aeP}
def CS{i d e}(h:eH P i d=true)(a:i.kind=.chan e):∃dir,d=.chan dir e:=by cases d<;>simp_all [eH]
def GH{t e:Nat}{x i h kd n}(l:o.op=.makeChan t x)(ht:L.tt t=some i)(m:i.kind=.chan e)(p:L.tt e=some h)(q:ao env x=.lit (.int kd n))(y:0<=n/\n<=1000000/\h.bytes<=1000000)
 (u:∀b,σ b=none->K (.chan b) (σ.set b (.raw (.chan n.toNat #[] false 0 0 false)))):aT P o env σ K Kp:=
 aT.val (s:=λf=>Instr.makeChan t (f x)) (λf=>by simp[execOp,l]) λk O f v j=>by
  have c:=v x (by simp_all)
  rw[q]at c;rw[dO c];unfold Instr.makeChan;refine af (ag ?_);refine af (aH L ht λd _ hd=>?_)
  obtain⟨dir,rfl⟩:=CS hd m;simp only;refine af (dw L p λinfo _ _ hb _=>?_)
  have w:((info.bytes:Int)*n)<=1000000*1000000:=by rw[hb];exact aej (by omega) (by omega) (by omega) (by omega)
  have g:¬(n<0\/n>IntKind.i64.max\/(info.bytes:Int)*n>2 ^ 48-112):=by have:IntKind.i64.max=9223372036854775807:=rfl;omega
  rw[KD g];refine af (s:=newObj _) ⟨rfl,λr a=>ag ?_⟩
  exact .here ⟨.made a.2.2,_,_,.chan r,(j.mono (.made a.2.2)).set (.raw _ rfl),u r (j.isNone a.1 a.2.2)⟩
end
def AT(P:afn)(d:Deferred):afd:=G {(default:Frame)with fn:=P.funcs.size,defers:=[d],mode:=.panicking [goexitEntry]} []
def CU:Item->Bool
 |.inRegion _ []=>true
 |.inBlock _=>true
 |.inScope _=>true
 |.code .skip=>true
 |.code .ret=>true
 |_=>false
def AU{P f fn tmps}(b:P.funcs[f]?=some fn)(d:fn.results=#[]):∀  todo ,todo.all CU=true->∃n,QuitsD P n 0 (G ⟨f,tmps,todo,[],.run,.deferred,none⟩ [de P])
 |[],_=>⟨_,.ctl rfl (λw=>by simp[G,stepG,stepG.exec,mH]) (wR b d (todo:=[]) (tmps:=tmps))⟩
 | i ::k,h=>by
   simp only[acd,zj]at h;obtain⟨n,e⟩:=AU (tmps:=tmps) b d k h.2;by_cases a:i=.code .ret
   . subst a
     exact⟨_,.ctl rfl (λw=>by simp[G,stepG,stepG.exec,mH]) (wR b d (todo:=.code .ret::k) (tmps:=tmps))⟩
   refine⟨_,.ctl rfl (λw=>?_) e⟩;cases i with
   |code c=>cases c<;>first|(exact absurd rfl a)|(simp[CU]at h;done)|simp[G,stepG,stepG.exec]
   |inRegion ops l=>cases l<;>first|(simp[CU]at h;done)|simp[G,stepG,stepG.exec]
   |_=>first|(simp[CU]at h;done)|simp[G,stepG,stepG.exec]
section
variable{P:afn}{fid n:Nat}{ro:aeX}{s:St}{k:afb}{K:aeN}{A:cd}{Fin:aeE}
def zw.none{m Q kind cs a}:zw P m Q fid n ro kind cs (λ_ _=>False) a:=⟨λ_ _ _ _ _ _ _ _ _ _ h=>h.elim,λ_ _ _ _ _ _ _ _ _ _ _ h=>h.elim⟩
def AW{fn}:seen P fn #[]=#[]:=rfl
def IE{fr cs x w cases b sh}(h:x.runT P w #[]=(.ok (.comm cases b sh) w,#[])):stepG.apply P true fr cs none x w=.comm (G fr cs) cases b sh w #[]:=by simp only[stepG.apply,aay,h,ite_self,AW,GStep.after];rfl
def GJ{fr cs x w f cap args}(h:x.runT P w #[]=(.ok (.spawn {target:=.fn f cap,args}) w,#[])):stepG.apply P true fr cs none x w=.spawn (G (fr.finish undef) cs) (AT P {target:=.fn f cap,args}) w #[]:=by simp only[stepG.apply,aay,h,ite_self,AW,GStep.after];simp[AT,G]
def AX{b:Bool}{ops i rest o ch x tmps defs kind cs}{m:Mo}{env d c}(r:ops[i]?=some o)(f:o.op=.send ch x)(p:tmps.size=n)(q:gY d tmps env)(s:cG ops n env o)
 (g:Oper.ok n o=true) (h:ao env ch=.chan c)  w :
 ∃ v,V d v (ao env x)/\stepG P m.main (G ⟨fid,tmps,.inRegion ops (i::rest)::k,defs,.run,kind,ro⟩ cs) w=.comm (G ⟨fid,tmps,.inRegion ops (i::rest)::k,defs,.run,kind,ro⟩ cs) #[scase c v (.tuple #[])] true .send w #[]/\
   v=Frame.eval ⟨fid,tmps,.inRegion ops (i::rest)::k,defs,.run,kind,ro⟩ x:=by
 have a:∀y∈o.op.operands,V d (Frame.eval ⟨fid,tmps,.inRegion ops (i::rest)::k,defs,.run,kind,ro⟩ y) (ao env y):=λy A=>by
  refine V.eval q p y ?_;simp only[Oper.ok,zj,aaF]at g
  grind
 have j:=a ch (by simp_all);have t:=a x (by simp_all);rw[h]at j;generalize u:Frame.eval ⟨fid,tmps,.inRegion ops (i::rest)::k,defs,.run,kind,ro⟩ ch=B at j;cases j;refine⟨_,t,?_,rfl⟩;rw[fe r (jg p q s) (.inr λc e=>by simp_all) w];have l:execOp (Frame.eval ⟨fid,tmps,.inRegion ops (i::rest)::k,defs,.run,kind,ro⟩) o=pure (.comm #[scase c (Frame.eval ⟨fid,tmps,.inRegion ops (i::rest)::k,defs,.run,kind,ro⟩ x) (.tuple #[])] true .send):=by simp[execOp,f,u,scase]
 rw[l];by_cases z:(kind==CallKind.early)=true<;>simp[stepG.apply,seen,z,GStep.after,G]
def yv{α}{f:TypeDesc->Sem α}{t d w es}(h:P.underlying t=some d):(underlying t >>=f).runT P w es=(f d).runT P w es:=by
 unfold underlying
 simp_all
def AY{α}{f:Value->Sem α}{t info z w es}(h:P.info? t=some info)(a:info.zero=some z):(zeroValue t >>=f).runT P w es=(f z).runT P w es:=by
 unfold zeroValue typeInfo
 simp_all
def AZ(L:jq P){ok ops i rest o ct ce v a ch tmps defs kind cs}{m:Mo}{env x c}(A:ops[i]?=some o)(b:o.op=.recv ct ch ok)(f:L.tt ct=some v)(g:v.kind=.chan ce)(h:L.tt ce=some a)
 (y:tmps.size=n) (z:gY x tmps env) (B:cG ops n env o) (j:Oper.ok n o=true) (l:ao env ch=.chan c)  w :
 stepG P m.main (G ⟨fid,tmps,.inRegion ops (i::rest)::k,defs,.run,kind,ro⟩ cs) w=.comm (G ⟨fid,tmps,.inRegion ops (i::rest)::k,defs,.run,kind,ro⟩ cs) #[rcase c a.zero] true (.recv ok) w #[]:=by
 have p:V x (Frame.eval ⟨fid,tmps,.inRegion ops (i::rest)::k,defs,.run,kind,ro⟩ ch) (ao env ch):=by
  refine V.eval z y ch ?_;simp only[Oper.ok,zj,aaF]at j
  simp_all
 rw[l]at p;generalize C:Frame.eval ⟨fid,tmps,.inRegion ops (i::rest)::k,defs,.run,kind,ro⟩ ch=D at p;cases p;rw[fe A (jg y z B) (.inr λc e=>by simp_all) w]
 obtain⟨⟨d,q,r⟩,_⟩:=L.facts f;obtain⟨dir,rfl⟩:=CS r g;obtain⟨_,info,s,_,_,t,_⟩:=L.facts h
 have u:(execOp (Frame.eval ⟨fid,tmps,.inRegion ops (i::rest)::k,defs,.run,kind,ro⟩) o).runT P w #[]=(.ok (.comm #[rcase c a.zero] true (.recv ok)) w,#[]):=by simp only[execOp,b,C];rw[yv q];simp only;rw[AY s t];rfl
 exact IE u
def GK{ops i rest o fo args h f first cap tmps defs kind cs}{m:Mo}{env d}(A:ops[i]?=some o)(j:o.op=.go ⟨.value fo,args,h⟩)
 (r:tmps.size=n) (s:gY d tmps env) (B:cG ops n env o) (l:Oper.ok n o=true) (p:ao env fo=.fn f first cap):
 ∃ t u,Vs d t cap/\Vs d u (first++args.toList.map (ao env))/\∀w,stepG P m.main (G ⟨fid,tmps,.inRegion ops (i::rest)::k,defs,.run,kind,ro⟩ cs) w=
   .spawn (G (Frame.finish ⟨fid,tmps,.inRegion ops (i::rest)::k,defs,.run,kind,ro⟩ undef) cs) (AT P {target:=.fn f t.toArray,args:=u.toArray}) w #[]:=by
 have b:∀x∈o.op.operands,V d (Frame.eval ⟨fid,tmps,.inRegion ops (i::rest)::k,defs,.run,kind,ro⟩ x) (ao env x):=λx C=>by
  refine V.eval s r x ?_;simp only[Oper.ok,zj,aaF]at l
  grind
 have q:=b fo (by simp_all);rw[p]at q;generalize D:Frame.eval _ fo=cf at q;cases q with
 | fn _ g y J K L E M F=>
   have H:=Vs.ofArray (k:=d) (ρ:=Frame.eval ⟨fid,tmps,.inRegion ops (i::rest)::k,defs,.run,kind,ro⟩) (env:=env) (xs:=args) (λx C=>b x (by simp_all));refine⟨y.toList,g.toList++(args.map (Frame.eval ⟨fid,tmps,.inRegion ops (i::rest)::k,defs,.run,kind,ro⟩)).toList,⟨by omega,λi v a z ha=>F i v a (by grind) ha⟩,Vs.append ⟨by omega,λi v a z ha=>E i v a (by grind) ha⟩ ⟨by grind,λi v a z ha=>H.2 i v a (by grind) ha⟩,λw=>?_⟩;rw[fe A (jg r s B) (.inr λc e=>by simp_all) w];refine(GJ (f:=f) (cap:=y) (args:=g++args.map (Frame.eval ⟨fid,tmps,.inRegion ops (i::rest)::k,defs,.run,kind,ro⟩)) ?_).trans ?_
   . simp only[execOp,j,resolve,D,Deferred.ofValue]
     rfl
   have I:∀x:aeS,(g.toList++x.toList).toArray=g++x:=λx=>by grind
   rw[I,Array.toArray_toList]
def IF{m Q kk O tmps defs kind cs f fn ops i rest o args j}(z:ops[i]?=some o)(p:o.op=.call ⟨.value (.func f),args,j⟩)(A:cG ops n s.env o)(q:Oper.ok n o=true)
 (B:P.funcs[f]?=some fn) (hb:fn.body.isSome=true) (t:(fn.name==  "runtime.NumGoroutine")=false) (g:Fu n kk O tmps defs kind cs s)
 (h:∀cargs,Vs kk cargs (args.toList.map (ao s.env))->T P m Q kk O (G (Frame.enter P f cargs.toArray .normal) (⟨fid,tmps,.inRegion ops (i::rest)::k,defs,.run,kind,ro⟩::ir s.rc cs))):T P m Q kk O (G ⟨fid,tmps,.inRegion ops (i::rest)::k,defs,.run,kind,ro⟩ (ir s.rc cs)):=by
 refine T.qL (λw=>fe z (jg g.size g.env A) (.inr λc e=>by simp_all) w) (eY ?_)
 have b:∀x∈o.op.operands,V kk (Frame.eval ⟨fid,tmps,.inRegion ops (i::rest)::k,defs,.run,kind,ro⟩ x) (ao s.env x):=λx y=>by
  refine V.eval g.env g.size x ?_;simp only[Oper.ok,zj,aaF]at q
  grind
 have C:=Vs.ofArray (k:=kk) (ρ:=Frame.eval ⟨fid,tmps,.inRegion ops (i::rest)::k,defs,.run,kind,ro⟩) (env:=s.env) (xs:=args) (λx y=>b x (by simp_all))
 have u:fn.body.isNone=false:=by cases y:fn.body<;>simp_all
 simp only[execOp,p,resolve];refine af ?_;show eP P (Deferred.ofValue (.func (.func f) #[] #[]) _) kk O _ _;simp only[Deferred.ofValue];refine ag ?_;simp only[invoke,callFunc];refine af (bI ?_);rw[B];simp only[t,u,aal,aao];refine ag λ_=>⟨λd w r s l=>by simp,?_⟩
 have:=h (args.map (Frame.eval ⟨fid,tmps,.inRegion ops (i::rest)::k,defs,.run,kind,ro⟩)).toList ⟨by grind,λi v a D ha=>C.2 i v a (by grind) ha⟩
 have key:∀x:aeS,x=(args.map (Frame.eval ⟨fid,tmps,.inRegion ops (i::rest)::k,defs,.run,kind,ro⟩)).toList.toArray->T P m Q kk O (G (Frame.enter P f x .normal) (⟨fid,tmps,.inRegion ops (i::rest)::k,defs,.run,kind,ro⟩::ir s.rc cs)):=λx e=>by grind
 grind
def ub(P:afn)(m:Mo)(fid n:Nat)(ro:aeX)(K:aeN)(kd:afj)(a:aeY)(b:ar)(Fin:aeE):Prop:=∀todo s k' O' tmps defs,Go P m fid n ro todo s K->s.rc=.no->Fu n k' O' tmps defs kd a s->b.Le k'->Fin k' O' (G ⟨fid,tmps,todo,defs,.run,kd,ro⟩ a)
def Go.O9{m ops i rest o args f fn}(r:ops[i]?=some o)(g:o.op=.call ⟨.value (.func A.ng.add),args,f⟩)(u:cG ops n s.env o)(j:Oper.ok n o=true)
 (w:P.funcs[A.ng.add]?=some fn) (hb:fn.body.isSome=true) (l:(fn.name==  "runtime.NumGoroutine")=false) (ha:args.toList.map (ao s.env)=[.ref A.gb 0,.lit (.int .i64 1)])
 (h:Go P (Ir P A Fin m) fid n ro (.inRegion ops rest::k) {s with env:=bu s.env o.dst (.bL [])} (λ_ _=>False)):Go P (rX P A Fin (m+1)) fid n ro (.inRegion ops (i::rest)::k) s K:=by
 intro Q kk O tmps defs kind cs p q E;refine IF r g u j w hb l q λb t=>?_
 rw[ha]at t;obtain⟨z,c⟩:=t
 have e:b.toArray=#[.pointer (some ⟨A.gb,0,none⟩),.int .i64 1]:=by
  match b,z,c with
  |[x,y],_,c=>have B:=c 0 x _ rfl rfl;have p:=c 1 y _ rfl rfl;cases B;cases p;rfl
 rw[e];refine .dM jb rfl ⟨rfl,_,_,rfl,?_⟩ (λ_ _ _ h=>h.elim);obtain⟨d,C,D⟩:=q.put (fid:=fid) (ro:=ro) (rest:=rest) (kk:=k) (σ':=s.σ) (v:=.tuple #[]) (a:=.bL []) (.refl kk) r (.bL _ _ rfl λi v a h=>by simp at h) q.rel;show T P (Ir P A Fin m) jb kk O (G (Frame.finish ⟨fid,tmps,.inRegion ops (i::rest)::k,defs,.run,kind,ro⟩ (.tuple #[])) (ir s.rc cs));rw[C];exact h jb kk O d defs kind cs p D .none
def ln(b:Nat):ab:=λc=>if c=b then some .jf else none
def Kk{m}{f:FuncId}{fn body cap args σ0}{KE:ar->aeN}(k:P.funcs[f]?=some fn)(hb:fn.body=some body)(n:(fn.name==  "runtime.NumGoroutine")=false)(q:(args++cap).length<=fn.ntmps){kk}(d:Rel kk an.bot σ0)
 (o:zw P m jb f fn.ntmps none .deferred [de P] (KE kk) kk)
 (h:∀l,Go P m f fn.ntmps none [.code body] ⟨dW (args++cap),σ0,[],.told .deferred [de P] l⟩ (KE l)){a b}(g:Vs kk a cap) (i:Vs kk b args):
 T P m jb kk an.bot (AT P {target:=.fn (.func f) a.toArray,args:=b.toArray}):=by
 have p:fn.body.isNone=false:=by simp[hb]
 have hinv:∀w,(invoke (.fn (.func f) a.toArray) b.toArray).runT P w #[]=(.ok (.enter f (b++a).toArray) w,#[]):=λw=>by
  show Sem.runT P (callFunc f (b.toArray++a.toArray)) w #[]=_;unfold callFunc;rw[iF,k]
  simp_all
 refine T.dN (g':=G (Frame.enter P f (b++a).toArray .deferred) [de P]) rfl (λw=>?_) ?_
 . simp only[AT,G,stepG,unwind,callDeferred,hinv]
   simp;rfl
 have c:=i.append g;have e:Frame.enter P f (b++a).toArray .deferred=⟨f,(b++a).toArray++Array.replicate (fn.ntmps-(b++a).length) undef,[.code body],[],.run,.deferred,none⟩:=by simp[Frame.enter,k,hb]
 have j:((b++a).toArray++Array.replicate (fn.ntmps-(b++a).length) undef).size=fn.ntmps:=by
  have:=c.1
  simp_all
 rw[e];exact h kk jb kk an.bot _ [] .deferred [de P] (by simp) ⟨j,wD c _,d,trivial,rfl,rfl,.refl kk⟩ o
def U8(P:afn)(A:cd)(fn:Func):aeN:=λe s=>fn.results=#[]/\(e=.leave none\/e=.leave (some .ret))/\(∃a,s.rc=.told .deferred [de P] a)/\∃r,s.D=[.mark r,.call (.func A.ng.done) [] [.ref A.gb 0]]/\s.σ r=some (.raw (.deferred (some [])))
def LS{f:FuncId}{fn fd}(hf:P.funcs[f]?=some fn)(d:P.funcs[A.ng.done]?=some fd)(z:fd.body.isSome=true)(a:(fd.name==  "runtime.NumGoroutine")=false){kk}:zw P (mY P A) jb f fn.ntmps none .deferred [de P] (U8 P A fn) kk where
 leave k' O' tmps defs s todo n hle hs B e:=by
  obtain⟨b,I,⟨J,c⟩,r,o,p⟩:=e;obtain⟨env,σ,D,rc⟩:=s;simp only at c o p;subst c o;show T P (mY P A) jb k' O' (G ⟨f,tmps,todo,defs,.run,.deferred,none⟩ [de P]);have g:=hs.ds
  match defs,g with
  | [d1,d2],⟨q,t,_⟩=>
    simp only[wB]at q t;obtain⟨C,E,rfl,i,j⟩:=t;subst q;have e1:C=#[]:=by have:=i.1;simp_all
    have e2:E=#[.pointer (some ⟨A.gb,0,none⟩)]:=by
     obtain⟨v,L,k⟩:=Vs.one j;cases k
     grind
    subst e1 e2;refine T.dN (g':=G ⟨f,tmps,todo,[{target:=.collected r,args:=#[]},{target:=.fn (.func A.ng.done) #[],args:=#[.pointer (some ⟨A.gb,0,none⟩)]}],.returning,.deferred,none⟩ [de P]) rfl (λw=>?_) ?_
    . rcases B with⟨rfl,rfl⟩|⟨kk,rfl,rfl⟩|⟨_,_,_,_,rfl⟩
      . simp[G,stepG,stepG.exec]
      . simp[G,stepG,stepG.exec]
      grind
    refine T.FI (fid:=f) (s:=Instr.takeDeferred r) rfl (K:=λcalls u F=>calls=[]/\u=k') (nxt:=λcalls w=>.go (G ⟨f,tmps,todo,calls++[{target:=.fn (.func A.ng.done) #[],args:=#[.pointer (some ⟨A.gb,0,none⟩)]}],.returning,.deferred,none⟩ [de P]) w) ?_ ?_ ?_
    . rintro calls u F w' _ _ ⟨rfl,rfl⟩
      refine⟨_,rfl,?_⟩
      have hinv:∀w,(invoke (.fn (.func A.ng.done) #[]) #[.pointer (some ⟨A.gb,0,none⟩)]).runT P w #[]=(.ok (.enter A.ng.done #[.pointer (some ⟨A.gb,0,none⟩)]) w,#[]):=λw=>by
       show Sem.runT P (callFunc A.ng.done _) w #[]=_;unfold callFunc;have l:fd.body.isNone=false:=by simp_all
       rw[iF,d];simp only[a,l,aal,aao];simp
      refine T.dN (g':=G (Frame.enter P A.ng.done #[.pointer (some ⟨A.gb,0,none⟩)] .deferred) [mH P f tmps todo,de P]) rfl (λw=>?_) ?_
      . simp only[G,stepG,unwind,callDeferred,hinv,adC]
        simp;rfl
      exact .dM jb rfl ⟨rfl,f,fn,tmps,todo,hf,b,rfl⟩ (λ_ _ _ h=>h.elim)
    . intro w v w' y
      simp only[G,stepG,unwind]
      simp_all
    obtain⟨x,hx,m⟩:=hs.rel.1 r _ p (by simp);cases m with
    |raw _ hc=>unfold Instr.takeDeferred;refine af (s:=getObj r) ⟨_,hx,rfl,?_⟩;exact af (s:=setObj r _) ⟨⟨_,hx,rfl⟩,rfl,ag ⟨rfl,rfl⟩⟩
 panic k' O' tmps defs s todo M N hle hs H e:=by obtain⟨_,h|h,_⟩:=e<;>cases h
def GL{kk O σ b}(d:Rel kk O σ)(h:σ b=some .jf):Rel kk an.bot (ln b):=by
 refine⟨λc a e f=>?_,λc a e _=>?_⟩
 . unfold ln at e
   split at e
   . cases e;cases f
   cases e
 unfold ln at e;split at e
 . next q=>subst q;cases e;exact⟨rfl,(d.2 _ _ h rfl).2.1,λl q=>by cases q⟩
 cases e
def Go.K1{m KE ops i rest o fo args c f fn body first cap}(u:ops[i]?=some o)(d:o.op=.go ⟨.value fo,args,c⟩)(v:cG ops n s.env o)(e:Oper.ok n o=true)
 (g:ao s.env fo=.fn (.func f) first cap) (x:P.funcs[f]?=some fn) (hb:fn.body=some body) (j:(fn.name==  "runtime.NumGoroutine")=false) (y:((first++args.toList.map (ao s.env))++cap).length<=fn.ntmps) (l:s.σ A.fb=some .jf) (p:∀kk,zw P (jv P A (A.n-(m+1))) jb f fn.ntmps none .deferred [de P] KE kk)
 (z:∀B,Go P (jv P A (A.n-(m+1))) f fn.ntmps none [.code body] ⟨dW ((first++args.toList.map (ao s.env))++cap),ln A.fb,[],.told .deferred [de P] B⟩ KE)
 (h:Go P (rX P A Fin m) fid n ro (.inRegion ops rest::k) {s with env:=bu s.env o.dst .cX} (λ_ _=>False)):Go P (Ir P A Fin m) fid n ro (.inRegion ops (i::rest)::k) s K:=by
 intro Q kk O tmps defs kind cs C b F;obtain⟨G,H,q,r,t⟩:=GK (P:=P) (fid:=fid) (k:=k) (rest:=rest) (defs:=defs) (kind:=kind) (ro:=ro) (cs:=ir s.rc cs) (m:=Ir P A Fin m) u d b.size b.env v e g;obtain⟨a,D,E⟩:=b.put (fid:=fid) (ro:=ro) (rest:=rest) (kk:=k) (σ':=s.σ) (.refl kk) u (.cX undef) b.rel;refine .dM jb rfl ⟨rfl,_,_,λw _=>t w,Kk (KE:=λ_=>KE) x hb j y (GL b.rel l) (p _) z q r,?_⟩ (λ_ _ _ h=>h.elim);rw[D];exact h jb kk O a defs kind cs C E .none
def Go.Z1(u:A.dir=false){ops i rest o fo args d f fn body first cap}(v:ops[i]?=some o)(e:o.op=.go ⟨.value fo,args,d⟩)(x:cG ops n s.env o)(g:Oper.ok n o=true)
 (j:ao s.env fo=.fn (.func f) first cap) (y:P.funcs[f]?=some fn) (hb:fn.body=some body) (l:(fn.name==  "runtime.NumGoroutine")=false) (z:((first++args.toList.map (ao s.env))++cap).length<=fn.ntmps) (p:s.σ A.fb=some .jf)
 (B:∀C,Go P (Aw P A) f fn.ntmps none [.code body] ⟨dW ((first++args.toList.map (ao s.env))++cap),ln A.fb,[],.told .deferred [de P] C⟩ (λ_ _=>False))
 (h:Go P (ua P A Fin A.n (List.range A.n)) fid n ro (.inRegion ops rest::k) {s with env:=bu s.env o.dst .cX} (λ_ _=>False)):Go P (rX P A Fin 0) fid n ro (.inRegion ops (i::rest)::k) s K:=by
 intro Q kk O tmps defs kind cs D b G;obtain⟨H,I,q,r,t⟩:=GK (P:=P) (fid:=fid) (k:=k) (rest:=rest) (defs:=defs) (kind:=kind) (ro:=ro) (cs:=ir s.rc cs) (m:=rX P A Fin 0) v e b.size b.env x g j;obtain⟨a,E,F⟩:=b.put (fid:=fid) (ro:=ro) (rest:=rest) (kk:=k) (σ':=s.σ) (.refl kk) v (.cX undef) b.rel;have c:rX P A Fin 0=_:=KD (by simp_all);rw[c];refine .dM jb rfl ⟨rfl,_,_,λw _=>by have:=t w;rw[c]at this;exact this,Kk (KE:=λ_ _ _=>False) y hb l z (GL b.rel p) .none B q r,?_⟩ (λ_ _ _ h=>h.elim);rw[E];exact h jb kk O a defs kind cs D F .none
def Go.Pa(f:A.dir=false){j ops i rest o ch x fn fd D}(r:ops[i]?=some o)(g:o.op=.send ch x)(l:Oper.ok n o=true)(C:cG ops n s.env o)(p:ao s.env ch=.chan A.cF)(L:ao s.env x=A.res j)
 (t:s.σ A.fb=some .jf) (u:s.rc=.told .deferred [de P] D) (y:ro=none) (E:P.funcs[fid]?=some fn) (F:n=fn.ntmps) (z:P.funcs[A.ng.done]?=some fd) (B:fd.body.isSome=true) (q:(fd.name==  "runtime.NumGoroutine")=false)
 (h:Go P (mY P A) fid n ro (.inRegion ops rest::k) {s with env:=bu s.env o.dst (.lit undef)} (U8 P A fn)):Go P (jv P A j) fid n ro (.inRegion ops (i::rest)::k) s K:=by
 intro Q kk O tmps defs kind cs H a M;have c:=a.rc;rw[u]at c;obtain⟨rfl,rfl,I⟩:=c;subst y F;obtain⟨d,N,J⟩:=a.put (fid:=fid) (ro:=none) (rest:=rest) (kk:=k) (σ':=s.σ) (.refl kk) r (.lit undef) a.rel;have ht:=h jb kk O d defs .deferred [de P] H J (LS E z B q);refine .dM jb rfl (.inr (.inr ⟨f,rfl,(a.rel.2 _ _ t rfl).1,G ⟨fid,tmps,.inRegion ops (i::rest)::k,defs,.run,.deferred,none⟩ (ir s.rc [de P]),.tuple #[],Frame.eval ⟨fid,tmps,.inRegion ops (i::rest)::k,defs,.run,.deferred,none⟩ x,λw _=>?_,?_,?_⟩)) (λ_ _ _ h=>h.elim)
 . obtain⟨v,_,e,rfl⟩:=AX (P:=P) (m:=jv P A j) (b:=false) r g a.size a.env C l p w (fid:=fid) (ro:=none) (k:=k) (rest:=rest) (defs:=defs) (kind:=.deferred) (cs:=ir s.rc [de P])
   exact e
 . obtain⟨v,R,_,rfl⟩:=AX (P:=P) (m:=jv P A j) (b:=false) r g a.size a.env C l p default (fid:=fid) (ro:=none) (k:=k) (rest:=rest) (defs:=defs) (kind:=.deferred) (cs:=ir s.rc [de P])
   simp_all
 show T P (mY P A) jb kk O (G (Frame.finish ⟨fid,tmps,.inRegion ops (i::rest)::k,defs,.run,.deferred,none⟩ undef) (ir s.rc [de P]))
 simp_all
def Go.Pb{ops i rest o args d fn}(p:ops[i]?=some o)(e:o.op=.call ⟨.value (.func A.ng.wait),args,d⟩)(r:cG ops n s.env o)(f:Oper.ok n o=true)
 (t:P.funcs[A.ng.wait]?=some fn) (hb:fn.body.isSome=true) (g:(fn.name==  "runtime.NumGoroutine")=false) (ha:args.toList.map (ao s.env)=[.ref A.gb 0])
 (h:Go P (uE P A) fid n ro (.inRegion ops rest::k) {s with env:=bu s.env o.dst (.bL [])} (λ_ _=>False)):Go P (Aw P A) fid n ro (.inRegion ops (i::rest)::k) s K:=by
 intro Q kk O tmps defs kind cs u j y;refine IF p e r f t hb g j λl q=>?_
 rw[ha]at q;obtain⟨v,rfl,m⟩:=Vs.one q;cases m;refine .dM jb rfl ⟨rfl,_,_,rfl,λk' c=>?_⟩ (λ_ _ _ h=>h.elim);obtain⟨b,w,x⟩:=j.put (fid:=fid) (ro:=ro) (rest:=rest) (kk:=k) (σ':=s.σ) (v:=.tuple #[]) (a:=.bL []) c p (.bL _ _ rfl λi v a h=>by simp at h) (j.rel.mono c);show T P (uE P A) jb k' O (G (Frame.finish ⟨fid,tmps,.inRegion ops (i::rest)::k,defs,.run,kind,ro⟩ (.tuple #[])) (ir s.rc cs));rw[w];exact h jb k' O b defs kind cs u x .none
def IG{c s r tm w a ty cs}(h:w.heap[c]?=some (.chan 0 #[] false s r tm)):
 (invoke (.builtin .close a ty cs) #[.chan (some c)]).runT P w #[]=(.ok (.value (.tuple #[])) {w with heap:=w.heap.setIfInBounds c (.chan 0 #[] true s r tm)},#[⟨.obj c,false,true⟩,⟨.obj c,true,true⟩]):=by
 change Sem.runT P (Sem.getObj c _) w #[]=_;rw[Sem.runT,h];change Sem.runT P (Sem.setObj c _ _) w _=_;rw[Sem.runT,h];rfl
def GM{fr cs x w w' v es}(a:(fr.kind==.early)=false)(h:x.runT P w #[]=(.ok (.value v) w',es))(b:seen P fr.fn es=es):stepG.apply P true fr cs none x w=.go (G (fr.finish v) cs) w' es:=by simp only[stepG.apply,aay,h,a,GStep.after];simp[b,G]
def Go.IH{ops i rest o ch g fn y}(j:ops[i]?=some o)(e:o.op=.call ⟨.builtin .close,#[ch],g⟩)(l:Oper.ok n o=true)(B:o.guard=none)(a:ao s.env ch=.chan A.cF)
 (f:s.rc=.told .deferred [de P] y) (z:s.D=[]) (p:ro=none) (C:P.funcs[fid]?=some fn) (E:fn.results=#[]) (F:(Item.inRegion ops rest::k).all CU=true):Go P (uE P A) fid n ro (.inRegion ops (i::rest)::k) s K:=by
 intro Q kk O tmps defs kind cs J d L;obtain⟨env,σ,D,rc⟩:=s;simp only at f z;subst f;subst z;subst p;obtain⟨rfl,rfl,H⟩:=d.rc;have b:defs=[]:=by cases defs with|nil=>rfl|cons _ _=>exact d.ds.elim
 subst b;obtain⟨c,M,R⟩:=d.put (fid:=fid) (ro:=none) (rest:=rest) (kk:=k) (σ':=σ) (v:=.tuple #[]) (.refl kk) j (.cX _) d.rel;obtain⟨N,S⟩:=AU (tmps:=c) C E _ F
 have q:V kk (Frame.eval ⟨fid,tmps,.inRegion ops (i::rest)::k,[],.run,.deferred,none⟩ ch) (ao env ch):=by
  refine V.eval d.env d.size ch ?_;simp only[Oper.ok,zj,aaF]at l
  simp_all
 simp only at a;rw[a]at q;generalize t:Frame.eval ⟨fid,tmps,.inRegion ops (i::rest)::k,[],.run,.deferred,none⟩ ch=T at q;cases q;refine .dM jb rfl ⟨rfl,G (Frame.finish ⟨fid,tmps,.inRegion ops (i::rest)::k,[],.run,.deferred,none⟩ (.tuple #[])) [de P],N,?_,λw s r I U a=>?_,?_⟩ (λ_ _ _ h=>h.elim)
 . simp[mayWake,G,ir,j,e]
 . have u:Region.wanted o (yielded ops tmps)=true:=by simp[Region.wanted,B]
   have x:(execOp (Frame.eval ⟨fid,tmps,.inRegion ops (i::rest)::k,[],.run,.deferred,none⟩) o).runT P w #[]=(.ok (.value (.tuple #[])) {w with heap:=w.heap.setIfInBounds A.cF (.chan 0 #[] true s r I)},#[⟨.obj A.cF,false,true⟩,⟨.obj A.cF,true,true⟩]):=by
    simp only[execOp,e,resolve];have:(#[ch].map (Frame.eval ⟨fid,tmps,.inRegion ops (i::rest)::k,[],.run,.deferred,none⟩))=#[.chan (some A.cF)]:=by simp[t]
    rw[this];exact IG (cs:=#[]) a
   rw[show ir (Rec.told CallKind.deferred [de P] y) [de P]=[de P]from rfl];refine(fe (m:=uE P A) j u (.inl rfl) w).trans ?_;exact GM (by simp) x (by simp[seen])
 simp_all
def Go.Kl(L:jq P){m R ops i rest o ct ce x B ch}(y:ops[i]?=some o)(g:o.op=.recv ct ch true)(l:L.tt ct=some x)(p:x.kind=.chan ce)(q:L.tt ce=some B)
 (r:Oper.ok n o=true) (C:cG ops n s.env o) (t:ao s.env ch=.chan A.cF)
 (h:∀j∈R,Go P (ua P A Fin m (R.erase j)) fid n ro (.inRegion ops rest::k) {s with env:=bu s.env o.dst (.bL [A.res j,.lit (.bool true)])} (λ_ _=>False)):Go P (ua P A Fin (m+1) R) fid n ro (.inRegion ops (i::rest)::k) s K:=by
 intro Q kk O tmps defs kind cs D f I;have c:=AZ (P:=P) (fid:=fid) (k:=k) (rest:=rest) (defs:=defs) (kind:=kind) (ro:=ro) (cs:=ir s.rc cs) (m:=ua P A Fin (m+1) R) L y g l p q f.size f.env C r t;refine .dM jb rfl ⟨rfl,_,_,λw _=>c w,λw _=>c w,rfl,λj E k' v d J=>?_⟩ (λ_ _ _ h=>h.elim)
 have e:V k' (.tuple #[v,.bool true]) (.bL [A.res j,.lit (.bool true)]):=.bL _ _ rfl λi u a z ha=>by
  match i with
  |0=>simp_all
  |1=>simp at z ha;subst z;subst ha;exact .lit _
  |i+2=>simp at ha
 obtain⟨b,F,H⟩:=f.put (fid:=fid) (ro:=ro) (rest:=rest) (kk:=k) (σ':=s.σ) d y e (f.rel.mono d);show T P (ua P A Fin m (R.erase j)) jb k' O (G (Frame.finish ⟨fid,tmps,.inRegion ops (i::rest)::k,defs,.run,kind,ro⟩ _) (ir s.rc cs));rw[F];exact h j E jb k' O b defs kind cs D H .none
def Go.EK(L:jq P){m I kd f J R ops i rest o ct ce M N ch}(S:ops[i]?=some o)(t:o.op=.recv ct ch true)(v:L.tt ct=some M)(y:M.kind=.chan ce)(z:L.tt ce=some N)
 (B:Oper.ok n o=true) (T:cG ops n s.env o) (C:ao s.env ch=.chan A.cF) (D:s.σ A.fb=some .jf) (g:s.rc=.told kd f J) (j:ub P m fid n ro I kd f J Fin)
 (h:∀a,A.GI a->Go P m fid n ro (.inRegion ops rest::k) {s with env:=bu s.env o.dst (.bL [.cX,.lit (.bool false)]),σ:=(s.σ.set A.mb a).set A.fb (.part (bW A.fo)),rc:=.no} I):Go P (ua P A Fin 0 R) fid n ro (.inRegion ops (i::rest)::k) s K:=by
 intro Q kk O tmps defs kind cs W e X;have l:=AZ (P:=P) (fid:=fid) (k:=k) (rest:=rest) (defs:=defs) (kind:=kind) (ro:=ro) (cs:=ir s.rc cs) (m:=ua P A Fin 0 R) L S t v y z e.size e.env T B C;have b:=e.rc;rw[g]at b;obtain⟨rfl,rfl,E⟩:=b;refine .dM jb rfl ⟨rfl,_,_,λw _=>l w,λw _=>l w,rfl,(e.rel.2 _ _ D rfl).2.1,λk' x a c F H=>?_⟩ (λ_ _ _ h=>h.elim)
 have p:V k' (.tuple #[N.zero,.bool false]) (.bL [.cX,.lit (.bool false)]):=.bL _ _ rfl λi u a q ha=>by
  match i with
  |0=>simp at q ha;subst q;subst ha;exact .cX _
  |1=>simp at q ha;subst q;subst ha;exact .lit _
  |i+2=>simp at ha
 obtain⟨d,U,r⟩:=e.put (fid:=fid) (ro:=ro) (rest:=rest) (kk:=k) (σ':=(s.σ.set A.mb a).set A.fb (.part (bW A.fo))) (O':=(O.set A.mb x).set A.fb (.part (bW A.fo))) c S p (((e.rel.mono c).set F).set (.part _));show Fin k' _ (G (Frame.finish ⟨fid,tmps,.inRegion ops (i::rest)::k,defs,.run,kind,ro⟩ _) (ir s.rc cs));rw[U,g];exact j _ _ k' _ d defs (h a H) rfl ⟨r.size,r.env,r.rel,r.ds,trivial⟩ (E.trans c)
def T.X2{m Q kk O}:∀  n  {g a},kB P (λ_=>True) n g a->T P m Q kk O a->T P m Q kk O g
 |0,g,a,h,b=>by obtain rfl:g=a:=h;exact b
 |n+1,g,a,⟨c,d,h⟩,b=>.step (λk' O' g'=>k'=kk/\O'=O/\g'=c) d.1 (λk' O' g' e=>by obtain⟨rfl,rfl,rfl⟩:=e;exact T.X2 n h b) λw f=>⟨c,w,#[],kk,O,d.2 _ w trivial,Eff.refl _ _ _,f,rfl,rfl,rfl⟩
def Go.T2{m todo}(f:m.solo=true)(B:jc)(C:iV P B.ng)(X:jH P B.ng)(CM:iH P B.nm)(XM:iI P B.nm)(F:oC P B.nm){a E σ'}
 (J:B.dir=false->∃tm,s.σ B.cF=some (.raw (.chan 0 #[] false 0 0 tm))) (hG:s.σ B.gb=some (.cells [.lit (.int .u64 0),.lit (.int .u32 0)])) (hL:s.σ B.fb=some (.part E)) (L:E B.fo=some (.int .i32 0)) (M:E (B.fo+1)=some (.int .u32 0)) (N:B.dir=true->∀j,j<B.n->E (B.fo+2+j)≠none)
 (hM:s.σ B.mb=some a) (R:a.gone=false) (S:B.GI a) (U:s.rc=.no) (p:∀d y,σ' d=some y->(d=B.fb/\y=.jf)\/(d≠B.fb/\d≠B.mb/\d≠B.gb/\(B.dir=false->d≠B.cF)/\s.σ d=some y))
 (h:∀  b   hb   Fin   kd   q   k0 ,ub P m fid n ro K kd q k0 Fin ->
   Go P (rX P (B.at b hb) Fin B.n) fid n ro todo {s with σ:=σ',rc:=.told kd q k0} (λ_ _=>False)):Go P m fid n ro todo s K:=by
 intro Q G O tmps defs kind cs h1 c h3;rw[U];refine T.sat rfl λ⟨w,r⟩=>?_
 obtain⟨xG,oG,rG⟩:=c.rel.1 _ _ hG (by simp)
 obtain⟨xM,oM,rM⟩:=c.rel.1 _ _ hM R;have oL:=c.rel.CQ hL;cases rG with
 | cells H eg _ q1 q2 q3=>
   have hg:∀(i:Nat) (v:Value),([.lit (.int .u64 0),.lit (.int .u32 0)]:afk)[i]?=some (AV.lit v)->H[i]?=some v:=λi v hv=>by
    have V:i<H.size:=by grind
    have t:=q2 i H[i] _ (by simp[V]) hv
    generalize hq:H[i]=u at t;cases t
    grind
   obtain⟨ec,cc,_,A,_⟩:=r.part _ _ oL
   refine .phase (λk' O' g'=>T P m Q k' O' g') f (λ_ _ _ h=>h) (IB B C X CM XM F (λhd=>by
    obtain⟨tm,J⟩:=J hd;obtain⟨xF,oF,rF⟩:=c.rel.1 _ _ J (by simp)
    cases rF
    simp_all) oG (hg 0 _ rfl) (hg 1 _ rfl) oL L M N (λn k' O' g' gB h hT=>T.X2 n h hT) oM rM S λb hb=>?_)
   have D:ub P m fid n ro K kind cs G (λk' O' g'=>T P m Q k' O' g'):=λW s' k' O' g k o hn hs Y=>by have:=o Q k' O' g k kind cs h1 hs (h3.mono Y);rw[hn]at this;exact this
   have o:=h b hb _ kind cs G D;refine o jb G _ tmps defs kind cs h1 ⟨c.size,c.env,⟨λd y e I=>?_,λd y e I=>?_⟩,c.ds,rfl,rfl,.refl G⟩ .none
   . rcases p d y e with⟨rfl,rfl⟩|⟨d1,d2,d3,d4,e⟩
     . cases I
     obtain⟨x,z1,Z⟩:=c.rel.1 d y e I;exact⟨x,by simp only[jc.rest];grind,Z⟩
   rcases p d y e with⟨rfl,rfl⟩|⟨d1,d2,d3,d4,e⟩
   . exact⟨by simp[jc.rest],⟨_,A⟩,λl z=>by cases z⟩
   obtain⟨z1,Z⟩:=c.rel.2 d y e I;exact⟨by simp[jc.rest,z1],Z⟩
def Go.cI{m todo}(c:m.solo=true)(B:jc)(p:B.dir=false)(C:iV P B.ng)(X:jH P B.ng)(u:iH P B.nm)(v:iI P B.nm)(F:oC P B.nm){tm a}
 (w:s.σ B.cF=some (.raw (.chan 0 #[] false 0 0 tm))) (x:s.σ B.gb=some (.cells [.lit (.int .u64 0),.lit (.int .u32 0)])) (z:s.σ B.fb=some (.part (bW B.fo))) (A:s.σ B.mb=some a) (j:a.gone=false) (k:B.GI a) (l:s.rc=.no)
 (h:∀  b   hb   Fin   kd   f   r ,ub P m fid n ro K kd f r Fin ->
   Go P (rX P (B.at b hb) Fin B.n) fid n ro todo {s with σ:=((((s.σ.del B.cF).del B.gb).del B.mb).set B.fb .jf),rc:=.told kd f r} (λ_ _=>False)):Go P m fid n ro todo s K:=
 Go.T2 c B C X u v F (λ_=>⟨tm,w⟩) x z (by simp[bW]) (by simp[bW]) (λq=>by simp_all) A j k l (λd y e=>by
  by_cases g:d=B.fb
  . simp_all
  by_cases i:d=B.mb
  . subst i;simp[ab.set,ab.del,g]at e
  by_cases o:d=B.gb
  . subst o;simp[ab.set,ab.del,g,i]at e
  by_cases t:d=B.cF
  . subst t;simp[ab.set,ab.del,g,i,o]at e
  simp only[ab.set,ab.del,g,i,o,t,aao]at e
  simp_all) h
end
end
open Go.Conc
section
variable{P:afn}{m:Mo}{fid n:Nat}{ro:aeX}{hold:aeV}{K:aeN}{todo:afb}
def Go.U9{env a σ D rc}(c:∀t,(env t).W (a t))(h:Go P m fid n ro todo ⟨a,σ,D,rc⟩ K):Go P m fid n ro todo ⟨env,σ,D,rc⟩ K:=λQ k O tmps defs kind cs d b e=>h Q k O tmps defs kind cs d ⟨b.size,λt ht=>c t _ _ (b.env t ht),b.rel,b.ds,b.rc⟩ e
def aa.U9{env a σ D rc}(c:∀t,(env t).W (a t))(h:aa P m fid n ro hold todo ⟨a,σ,D,rc⟩ K):aa P m fid n ro hold todo ⟨env,σ,D,rc⟩ K:=λb=>Go.U9 c (h b)
def aa.Am{env σ D rc}  t  {a'}(a:(env t).W a') (h:aa P m fid n ro hold todo ⟨env.upd t a',σ,D,rc⟩ K):aa P m fid n ro hold todo ⟨env,σ,D,rc⟩ K:=
 aa.U9 (λu=>by
  by_cases e:u=t
  . simp_all
  . simp only[Env.upd,e,aao];exact .refl _) h
def Tok.up{σ0 σ σ' a kk es}(h:Tok σ0 σ a kk es)(c:σ.Le σ'):Tok σ0 σ' a kk es:=by
 refine⟨ab.le_trans h.1 c,?_⟩;rcases h.2 with h|h|⟨b,e,d,f,g⟩
 . exact .inl h
 . simp_all
 . exact .inr (.inr ⟨b,e,d,f,c _ _ g⟩)
def aa.bf{env σ D rc}  t  {b l}  v  (hb:σ b=some (.cells l)) (ht:env t=.ref b 0) (c:v.cells=l) (h:aa P m fid n ro hold todo ⟨env.upd t (.cp v 0),σ.del b,D,rc⟩ K):aa P m fid n ro hold todo ⟨env,σ,D,rc⟩ K:=
 aa.freeze b l hb (λu=>Fz.upd (t:=t) (a':=.cp v 0) (by rw[ht];exact .cp 0 0 v (by grind) (λj a h=>by simp_all)) u) (NI.del _ _ _) h
def uH(L:jq P){t f:Nat}{name i info mt a}(ht:L.tt t=some i)(hi:P.info? t=some info)(e:info.methods.find? (·.name==name)=some mt)(g:mt.path.toList=[])(h:mt.func=some (f,false))(j:i.kind=.struct):qQ P t name f a a:=by
 intro k O v K Kp l m;have n:Made.depth≠0:=by decide
 obtain⟨N,o⟩:∃N,P.types.size+Made.depth=N+1:=Nat.exists_eq_succ_of_ne_zero (by omega);rw[o];unfold method;refine af (dw L ht λc b _ _ _=>?_);rw[hi]at b;cases b;simp only[e,g];unfold follow;refine af (ag ?_);simp only[h];refine af ?_;unfold receiverAt;refine af (aH L ht λq _ d=>?_);obtain⟨p,rfl,_⟩:=uZ d j;simp only[Place.get];exact ag (ag (m _ l))
def ab.Le.none{σ σ':ab}(h:σ.Le σ'){b}(hb:σ' b=Option.none):σ b=Option.none:=by
 cases e:σ b with
 |none=>rfl
 |some x=>rw[h b x e]at hb;cases hb
end
def uq.plain:uq->Bool
 |.part _=>false
 |.jf=>false
 |.stay _=>false
 |.map _=>false
 |_=>true
structure Pd(P:afn)(m:Mo)(nm:FY)(b o mb:Nat)(kd:IntKind)(GI:aeL->Prop)(Un:afi)(Ld:ab->aeL->Prop):Prop where
 lock:∀{a:AV}{σ:ab}{KF:aeQ},kV b o a->Un σ->(∀σ' l,Ld σ' l->GI l->(∀c,c≠b->c≠mb->σ' c=σ c)->(∀y,σ mb=some y->y.plain=false)->KF (.val (.bL [])) σ')->aB P m nm.lock [a] σ KF
 unlock:∀{a:AV}{σ:ab}{l:aeL}{KF:aeQ},kV b o a->Ld σ l->GI l->(∀σ',Un σ'->(∀c,c≠b->c≠mb->σ' c=σ c)->KF (.val (.bL [])) σ')->aB P m nm.unlock [a] σ KF
 map:∀{σ:ab}{l:aeL},Ld σ l->σ mb=some (mapA kd l)
 put:∀{σ:ab}{l l':aeL},Ld σ l->Ld (σ.set mb (mapA kd l')) l'
 un:∀{σ σ':ab},(∀c,c=b\/c=mb->(∃x,σ c=some x/\x.plain=false)->σ' c=σ c)->Un σ->Un σ'
 ld:∀{σ σ':ab}{l:aeL},(∀c,c=b\/c=mb->(∃x,σ c=some x/\x.plain=false)->σ' c=σ c)->Ld σ l->Ld σ' l
 Wi:∀{σ:ab},Un σ->∃x,σ b=some x/\x.plain=false
 ldb:∀{σ:ab}{l:aeL},Ld σ l->∃x,σ b=some x/\x.plain=false
def Wj(b o mb:Nat)(kd:IntKind)(GI:aeL->Prop)(σ:ab):Prop:=σ b=some (.part (bW o))/\∃l,σ mb=some (mapA kd l)/\GI l
def LdS(b o mb:Nat)(kd:IntKind)(σ:ab)(l:aeL):Prop:=σ b=some (.part (AQ o))/\σ mb=some (mapA kd l)
def UnW(b:Nat)(σ:ab):Prop:=σ b=some .jf
def LdW(b mb:Nat)(kd:IntKind)(σ:ab)(l:aeL):Prop:=σ b=some (.part OA)/\σ mb=some (mapA kd l)
section
variable{P:afn}{nm:FY}(C:iH P nm)(X:iI P nm)(F:oC P nm)
include C X F in
def GN{m:Mo}(hs:m.solo=true){b o mb:Nat}(d:b≠mb){kd:IntKind}{GI:aeL->Prop}:Pd P m nm b o mb kd GI (Wj b o mb kd GI) (LdS b o mb kd) where
 lock {a σ k} ha hu h:=by obtain⟨f,l,e,g⟩:=hu;exact LQ C X F hs ha f (h _ l ⟨ab.ai _ _ _,by rw[ab.ah _ _ (zs d)];exact e⟩ g (λc hc _=>ab.ah _ _ hc) (λy hy=>by rw[e]at hy;cases hy;rfl))
 unlock {a σ l k} ha j hg h:=GF C X F hs ha j.1 (h _ ⟨ab.ai _ _ _,l,by rw[ab.ah _ _ (zs d)];exact j.2,hg⟩ (λc hc _=>ab.ah _ _ hc))
 map h:=h.2
 put {σ l n} h:=⟨by rw[ab.ah _ _ d];exact h.1,ab.ai _ _ _⟩
 un {σ i} he h:=by obtain⟨f,l,e,g⟩:=h;exact⟨by rw[he b (.inl rfl) ⟨_,f,rfl⟩];exact f,l,by rw[he mb (.inr rfl) ⟨_,e,rfl⟩];exact e,g⟩
 ld {σ i l} he h:=⟨by rw[he b (.inl rfl) ⟨_,h.1,rfl⟩];exact h.1,by rw[he mb (.inr rfl) ⟨_,h.2,rfl⟩];exact h.2⟩
 Wi h:=⟨_,h.1,rfl⟩
 ldb h:=⟨_,h.1,rfl⟩
def Pe{A:cd}(hd:A.dir=false){j:Nat}{kd:IntKind}{GI:aeL->Prop}(g:∀x,A.GI x↔∃l,x=mapA kd l/\GI l):Pd P (jv P A j) A.nm A.fb A.fo A.mb kd GI (UnW A.fb) (LdW A.fb A.mb kd) where
 lock {a σ i} ha hu h:=LR hd ha hu λx hx hm=>by obtain⟨l,rfl,d⟩:=(g x).1 hx;exact h _ l ⟨ab.ai _ _ _,by rw[ab.ah _ _ (zs A.d5),ab.ai]⟩ d (λc e f=>by rw[ab.ah _ _ e,ab.ah _ _ f]) (λy hy=>by have:=hm y hy;cases y<;>first|rfl|cases this)
 unlock {a σ l i} ha d hg h:=GG hd ha d.1 d.2 ((g _).2 ⟨l,rfl,hg⟩) rfl (h _ (ab.ai _ _ _) (λc e f=>by rw[ab.ah _ _ e];simp[ab.del,f]))
 map h:=h.2
 put {σ l k} h:=⟨by rw[ab.ah _ _ A.d5];exact h.1,ab.ai _ _ _⟩
 un {σ b} he h:=by have h:σ A.fb=some .jf:=h;show b A.fb=some .jf;rw[he _ (.inl rfl) ⟨_,h,rfl⟩];exact h
 ld {σ b l} he h:=⟨by rw[he _ (.inl rfl) ⟨_,h.1,rfl⟩];exact h.1,by rw[he _ (.inr rfl) ⟨_,h.2,rfl⟩];exact h.2⟩
 Wi h:=⟨_,h,rfl⟩
 ldb h:=⟨_,h.1,rfl⟩
end
def CV(ft:Nat):Option TypeDesc->Bool
 |some (.struct fs)=>(match fs.toList with|[f]=>f.name !=  "_" && f.type==ft && f.offset==0|_=>false)
 |_=>false
def NT.of{P:afn}{mt b c ft:Nat}{kd:IntKind}(e:P.underlying mt=some (.map b c))(a:CV ft (P.underlying b)=true)(g:P.underlying ft=some (.int kd))(h:P.stoodInHeld b=false):NT P mt b c ft kd:=by
 refine⟨e,?_,g,h⟩;generalize P.underlying b=d at a;unfold CV at a;split at a
 . next fs=>
   split at a
   . next f i=>
     simp only[zj,bne_iff_ne,adA]at a;refine⟨f,?_,a.1.1,a.1.2,a.2⟩;congr 2
     grind
   . cases a
 . cases a
def rY(b mb:Nat)(σ σ':ab):Prop:=∀c x,σ c=some x->c≠b->(c≠mb\/x.plain=true)->σ' c=some x
def rY.refl(b mb:Nat)(σ:ab):rY b mb σ σ:=λ_ _ h _ _=>h
section
variable{P:afn}(L:jq P){m:Mo}{fid n:Nat}{ro:aeX}{hold:aeV}{s:St}{k:afb}{K:aeN}{A:cd}{Fin:aeE}
def aa.runN  mu   N  {todo}(h:bK L m fid n ro mu hold N todo s K):aa P m fid n ro hold todo s K:=λa=>Go.bK L mu hold N a h
def aa.xj{c}(h:aa P m fid n ro hold (.code c::.inLoop c::k) s K):aa P m fid n ro hold (.code (.loop c)::k) s K:=λa=>.Tv (h (by simpa[lh,mX]using a))
def aa.again{c}(b:mX hold c=true)(h:aa P m fid n ro hold (.code c::.inLoop c::k) s K):aa P m fid n ro hold (.inLoop c::k) s K:=λa=>.inLoop (h (by
 simp only[lh,acd,zj]at a ⊢
 simp_all))
def aa.cI{todo}(d:m.solo=true)(B:jc)(e:B.dir=false)(C:iV P B.ng)(X:jH P B.ng)(l:iH P B.nm)(o:iI P B.nm)(F:oC P B.nm){tm a}
 (p:s.σ B.cF=some (.raw (.chan 0 #[] false 0 0 tm))) (q:s.σ B.gb=some (.cells [.lit (.int .u64 0),.lit (.int .u32 0)])) (r:s.σ B.fb=some (.part (bW B.fo))) (t:s.σ B.mb=some a) (g:a.gone=false) (i:B.GI a) (j:s.rc=.no)
 (h:∀  b   hb   Fin   kd   c   f ,ub P m fid n ro K kd c f Fin ->
   aa P (rX P (B.at b hb) Fin B.n) fid n ro hold todo {s with σ:=((((s.σ.del B.cF).del B.gb).del B.mb).set B.fb .jf),rc:=.told kd c f} (λ_ _=>False)):aa P m fid n ro hold todo s K:=λk=>
 Go.cI d B e C X l o F p q r t g i j λb hb Fin kd c f u=>h b hb Fin kd c f u k
def aa.O9{m ops i rest o args a fn}(f:ops[i]?=some o)(b:o.op=.call ⟨.value (.func A.ng.add),args,a⟩)(g:o.guard=none)(c:Oper.ok n o=true)
 (j:P.funcs[A.ng.add]?=some fn) (hb:fn.body.isSome=true) (d:(fn.name==  "runtime.NumGoroutine")=false) (ha:args.toList.map (ao s.env)=[.ref A.gb 0,.lit (.int .i64 1)])
 (h:aa P (Ir P A Fin m) fid n ro hold (.inRegion ops rest::k) {s with env:=bu s.env o.dst (.bL [])} (λ_ _=>False)):aa P (rX P A Fin (m+1)) fid n ro hold (.inRegion ops (i::rest)::k) s K:=λe=>
 Go.O9 f b (cH g) c j hb d ha (h (by simpa[lh,mX]using e))
def aa.tL{m ops i rest o fo args b f fn body first cap hold'}(q:ops[i]?=some o)(c:o.op=.go ⟨.value fo,args,b⟩)(r:o.guard=none)(d:Oper.ok n o=true)
 (e:ao s.env fo=.fn (.func f) first cap) (t:P.funcs[f]?=some fn) (hb:fn.body=some body) (g:(fn.name==  "runtime.NumGoroutine")=false) (u:((first++args.toList.map (ao s.env))++cap).length<=fn.ntmps) (j:s.σ A.fb=some .jf) (a:lh hold' [.code body]=true)
 (v:∀l,aa P (jv P A (A.n-(m+1))) f fn.ntmps none hold' [.code body] ⟨dW ((first++args.toList.map (ao s.env))++cap),ln A.fb,[],.told .deferred [de P] l⟩ (λ_ _=>False))
 (h:aa P (rX P A Fin m) fid n ro hold (.inRegion ops rest::k) {s with env:=bu s.env o.dst .cX} (λ_ _=>False)):aa P (Ir P A Fin m) fid n ro hold (.inRegion ops (i::rest)::k) s K:=λp=>
 Go.K1 q c (cH r) d e t hb g u j (λ_=>.none) (λl=>v l a) (h (by simpa[lh,mX]using p))
def aa.Z1(a:A.dir=false){ops i rest o fo args c f fn body first cap hold'}(q:ops[i]?=some o)(d:o.op=.go ⟨.value fo,args,c⟩)(r:o.guard=none)(e:Oper.ok n o=true)
 (g:ao s.env fo=.fn (.func f) first cap) (t:P.funcs[f]?=some fn) (hb:fn.body=some body) (j:(fn.name==  "runtime.NumGoroutine")=false) (u:((first++args.toList.map (ao s.env))++cap).length<=fn.ntmps) (l:s.σ A.fb=some .jf) (b:lh hold' [.code body]=true)
 (v:∀m,aa P (Aw P A) f fn.ntmps none hold' [.code body] ⟨dW ((first++args.toList.map (ao s.env))++cap),ln A.fb,[],.told .deferred [de P] m⟩ (λ_ _=>False))
 (h:aa P (ua P A Fin A.n (List.range A.n)) fid n ro hold (.inRegion ops rest::k) {s with env:=bu s.env o.dst .cX} (λ_ _=>False)):aa P (rX P A Fin 0) fid n ro hold (.inRegion ops (i::rest)::k) s K:=λp=>
 Go.Z1 a q d (cH r) e g t hb j u l (λm=>v m b) (h (by simpa[lh,mX]using p))
def aa.Pa(a:A.dir=false){j ops i rest o ch x fn fd r}(t:ops[i]?=some o)(c:o.op=.send ch x)(d:Oper.ok n o=true)(u:o.guard=none)(e:ao s.env ch=.chan A.cF)(v:ao s.env x=A.res j)
 (f:s.σ A.fb=some .jf) (g:s.rc=.told .deferred [de P] r) (l:ro=none) (w:P.funcs[fid]?=some fn) (y:n=fn.ntmps) (m:P.funcs[A.ng.done]?=some fd) (p:fd.body.isSome=true) (b:(fd.name==  "runtime.NumGoroutine")=false)
 (h:aa P (mY P A) fid n ro hold (.inRegion ops rest::k) {s with env:=bu s.env o.dst (.lit undef)} (U8 P A fn)):aa P (jv P A j) fid n ro hold (.inRegion ops (i::rest)::k) s K:=λq=>
 Go.Pa a t c d (cH u) e v f g l w y m p b (h (by simpa[lh,mX]using q))
def aa.Pb{ops i rest o args a fn}(f:ops[i]?=some o)(b:o.op=.call ⟨.value (.func A.ng.wait),args,a⟩)(g:o.guard=none)(c:Oper.ok n o=true)
 (j:P.funcs[A.ng.wait]?=some fn) (hb:fn.body.isSome=true) (d:(fn.name==  "runtime.NumGoroutine")=false) (ha:args.toList.map (ao s.env)=[.ref A.gb 0])
 (h:aa P (uE P A) fid n ro hold (.inRegion ops rest::k) {s with env:=bu s.env o.dst (.bL [])} (λ_ _=>False)):aa P (Aw P A) fid n ro hold (.inRegion ops (i::rest)::k) s K:=λe=>
 Go.Pb f b (cH g) c j hb d ha (h (by simpa[lh,mX]using e))
def aa.IH{ops i rest o ch a fn g}(h:ops[i]?=some o)(b:o.op=.call ⟨.builtin .close,#[ch],a⟩)(c:Oper.ok n o=true)(j:o.guard=none)(d:ao s.env ch=.chan A.cF)
 (e:s.rc=.told .deferred [de P] g) (l:s.D=[]) (f:ro=none) (m:P.funcs[fid]?=some fn) (p:fn.results=#[]) (q:(Item.inRegion ops rest::k).all CU=true):aa P (uE P A) fid n ro hold (.inRegion ops (i::rest)::k) s K:=λ_=>
 Go.IH h b c j d e l f m p q
def aa.Kl{m R ops i rest o ct ce l p ch}(q:ops[i]?=some o)(a:o.op=.recv ct ch true)(b:L.tt ct=some l)(c:l.kind=.chan ce)(d:L.tt ce=some p)
 (e:Oper.ok n o=true) (r:o.guard=none) (f:ao s.env ch=.chan A.cF)
 (h:∀j∈R,aa P (ua P A Fin m (R.erase j)) fid n ro hold (.inRegion ops rest::k) {s with env:=bu s.env o.dst (.bL [A.res j,.lit (.bool true)])} (λ_ _=>False)):aa P (ua P A Fin (m+1) R) fid n ro hold (.inRegion ops (i::rest)::k) s K:=λg=>
 Go.Kl L q a b c d e (cH r) f λj t=>h j t (by simpa[lh,mX]using g)
def aa.EK{t kd b u R ops i rest o ct ce v w ch}(x:ops[i]?=some o)(d:o.op=.recv ct ch true)(e:L.tt ct=some v)(f:v.kind=.chan ce)(g:L.tt ce=some w)
 (j:Oper.ok n o=true) (y:o.guard=none) (l:ao s.env ch=.chan A.cF) (p:s.σ A.fb=some .jf) (q:s.rc=.told kd b u) (c:ub P m fid n ro t kd b u Fin)
 (h:∀a,A.GI a->aa P m fid n ro hold (.inRegion ops rest::k) {s with env:=bu s.env o.dst (.bL [.cX,.lit (.bool false)]),σ:=(s.σ.set A.mb a).set A.fb (.part (bW A.fo)),rc:=.no} t):aa P (ua P A Fin 0 R) fid n ro hold (.inRegion ops (i::rest)::k) s K:=λr=>
 Go.EK L x d e f g j (cH y) l p q c λa ha=>h a ha (by simpa[lh,mX]using r)
end
section
variable{P:afn}(L:jq P){m:Mo}
def aB.II{f:FuncId}{fn args σ b body}  mu   hold   N k  (c:P.funcs[f]?=some fn) (hb:fn.body=some body) (e:args.length=k) (d:qO fn k=true) (a:mX hold body=true)
 (h:bK L m f fn.ntmps none mu hold N [.code body] ⟨dW args,σ,[],.no⟩ (VB L m fn.results.toList (pZ b))):aB P m f args σ b:=by
 simp only[qO,zj]at d;refine aB.thaw (aB.intro L c hb (by simp_all) ?_ (Go.bK L mu hold N (by simpa[lh]using a) h))
 simp_all
variable{fid n:Nat}{ro:aeX}{hold:aeV}{K:aeN}{todo:afb}
@[simp] theorem Wk{mu s}:bK L m fid n ro mu hold 0 todo s K=aa P m fid n ro hold todo s K:=propext aaL
def aa.gN{env σ D rc}(I:aeO)(a:I env σ)(h:∀env σ,I env σ->aa P m fid n ro hold todo ⟨env,σ,D,rc⟩ K):aa P m fid n ro hold todo ⟨env,σ,D,rc⟩ K:=h env σ a
end
section
variable{P:afn}(L:jq P){o:Oper}{env:Env}{σ:ab}{K:aeP}{Kp:aeP}
def qW{t e:Nat}{x y it g n p}(Q:o.op=.makeSlice t x y)(ht:L.tt t=some it)(R:it.kind=.slice e)(A:L.tt e=some g)(S:g.size=1)(hb:g.bytes<=1024)
 (T:(nJ g.zero).cells=[p]) (U:p.flat=true) (W:ao env x=.lit (.int .i64 n)) (X:ao env y=.lit (.int .i64 n)) (M:0<=n/\n<=1000000)
 (Y:∀b,σ b=none->K (.gK b 0 n.toNat n.toNat) (σ.set b (.cells (List.replicate n.toNat p)))):aT P o env σ K Kp:=
 aT.val (s:=λB=>Instr.makeSlice t (B x) (B y)) (λB=>by simp[execOp,Q]) λk O B u Z=>by
  have E:=u x (by simp_all)
  have C:=u y (by simp_all)
  rw[W]at E;rw[X]at C;have e1:=dO E;have e2:=dO C
  have hw:IntKind.i64.wrap n=n:=by simp[IntKind.wrap,IntKind.signed,IntKind.bits];omega
  have a7:g.zero.cells.size=1:=by obtain⟨_,_,_,_,_,_,h⟩:=L.facts A;omega
  have m:=zJ (k:=k) (z:=g.zero) (by simp_all)
  rw[T]at m;rw[e1,e2];unfold Instr.makeSlice;refine af (aH L ht λd _ hd=>?_)
  rw[ck hd R];dsimp only;refine af (s:=asInt (.int .i64 n)) (ag ?_);refine af (s:=asInt (.int .i64 n)) (ag ?_);refine af (dw L A λinfo _ _ F _=>?_)
  dsimp only;rw[hw]
  have G:((decide (n<0)||decide ((info.bytes:Int)*n>2 ^ 48))||decide (n<0)||decide (n>n))=false:=by
   have q:(info.bytes:Int)*n<=1024*1000000:=by rw[F];exact aej (by omega) M.2 M.1 (by omega)
   grind
  simp only[G,aal,aao];refine af (sx ?_);refine af (bY L A ?_);rw[S]
  have j:∀zero:aeS,(n.toNat≠0->zero=g.zero.cells)->eP P (do let a <-newRow e ((Array.range (n.toNat*1)).map (zero[· % zero.size]!));pure (Value.slice (some a) n.toNat n.toNat)) k O (λv k' O'=>oH k' O' λH O2=>k.Le H/\∃a c,V H v a/\Rel H O2 c/\K a c) (λv k' O'=>k.Le k'/\∃a c,V k' v a/\Rel k' O' c/\Kp a c):=λzero hzero=>by
   have f:∀(i:Nat) v,((Array.range (n.toNat*1)).map (zero[· % zero.size]!))[i]?=some v->i<n.toNat/\g.zero.cells[0]?=some v:=λi v D=>by grind
   refine af (kK (l:=List.replicate n.toNat p) Z (by simp) (λi v a D ha=>?_) (λi v D=>?_) λr k' O' I J w=>ag (.here ⟨J,.gK r 0 n.toNat n.toNat,_,.gK ..,w,Y r I⟩))
   . obtain⟨E,C⟩:=f i v D
     have:a=p:=(List.mem_replicate.1 (aeb ha)).2;subst this;exact m.2.1 0 v a C rfl
   exact m.2.2 0 v (f i v D).2
  by_cases N:n.toNat*1=0
  . rw[Rp N]
    refine af (ag ?_);exact j _ (λh=>by omega)
  rw[KD N];refine af (du L A (af (ag ?_)));exact j _ (λ_=>rfl)
end
def Ox{es b sp}(f:es.length=b.length)(l:∀e∈es,e.cells=[e])(m:∀e∈b,e.cells=[e])(n:∀(i:Nat) a a',es[i]?=some a->b[i]?=some a'->a.W a'):(AV.sl 1 es sp).W (.sl 1 b .any):=λk v o=>by
 have f1:=dc l;have p:=dc m;rcases o.FK with⟨q,rfl,rfl,r⟩|⟨s,off,cap,N,t,c,rfl,x,u,w,y,g,h,z⟩
 . have:b=[]:=adg.1 f.symm
   subst this;exact .slnil q 1 .any (.inl rfl)
 rw[f1]at g h;rw[f];refine .sl s off cap 1 N t b .any c (by omega) u w (λe A=>by simp_all) (λj d=>g j (by simp_all)) (λj a ha=>?_) trivial;rw[p]at ha;have d:j<es.length:=by grind
 exact n j es[j] a (by simp[d]) ha k _ (h j _ (by simp[d]))
section
variable{P:afn}{m:Mo}{fid n:Nat}{ro:aeX}{hold:aeV}{K:aeN}{todo:afb}
def aa.SK{env σ D rc b d i l cs es sp at_}(hd:d≠b)(hb:σ b=some (.cells l))(z:∀e∈l,e.cells=[e])(A:σ d=some (.cells cs))(f:cs[at_]?=some (.sl 1 es sp))(q:∀e∈es,e.cells=[e])(hi:es[i]?=some (.gK b 0 l.length l.length))
 (B:aa P m fid n ro hold todo ⟨env,(σ.del b).set d (.cells (cs.set at_ (.sl 1 (es.set i (.sl 1 l .any)) sp))),D,rc⟩ K):aa P m fid n ro hold todo ⟨env,σ,D,rc⟩ K:=by
 have C:=dc z;refine aa.freeze b l hb (λu=>.refl _) (λy x o=>?_) B;by_cases e:y=d
 . subst e
   simp[ab.set]at o;subst o;refine⟨hd,.inr ⟨cs,_,A,rfl,by simp,λj a E r g=>?_⟩⟩;by_cases t:j=at_
   . subst t
     rw[f]at r;cases r;have c:=(aas.1 f).1;rw[acn c]at g;cases g;refine .rows es _ sp (by simp) q (λx v=>?_) (λp a E s k=>?_)
     . rcases adM v with v|rfl
       . simp_all
       rfl
     by_cases w:p=i
     . subst w
       rw[hi]at s;cases s;have c:=(aas.1 hi).1;rw[acn c]at k;cases k;exact .sl 0 l.length 1 l .any (aav _) (by omega) (λe F=>by simp_all) (λj a h=>by simp_all) (.inl rfl)
     rw[ach (zs w)]at k;rw[s]at k;cases k;exact .refl _
   rw[ach (zs t)]at g;rw[r]at g;cases g;exact .refl _
 rw[ab.ah _ _ e]at o;unfold ab.del at o
 simp_all
end
section
variable{P:afn}{m:Mo}{fid n:Nat}{ro:aeX}{hold:aeV}{s:St}{k todo:afb}{K:aeN}
def aa.goto{l}(b:gotoIn l k=some todo)(a:lh hold todo=true)(h:aa P m fid n ro hold todo s K):aa P m fid n ro hold (.code (.goto l)::k) s K:=λ_=>Go.dN (λ_ _ _ _ _=>by simp[G,stepG,stepG.exec,b]) (h a)
def aa.lower(I:Nat->St->Prop)  a  (c:I a s) (d:∀a s,I a s->(∀a' s',a'<a->I a' s'->aa P m fid n ro hold todo s' K)->aa P m fid n ro hold todo s K):aa P m fid n ro hold todo s K:=by
 have key:∀b a s,a<b->I a s->aa P m fid n ro hold todo s K:=λb=>by
  induction b with
  |zero=>omega
  |succ b e=>grind
 grind
end
section
variable{P:afn}(L:jq P){o:Oper}{env:Env}{σ:ab}{K:aeP}{Kp:aeP}
def LU{t b off:Nat}{p x i f v0 u}(m:o.op=.store t p x)(ht:L.tt t=some i)(n:i.size=1)(q:kV b off (ao env p))(r:ao env x=.lit u)(d:flat u=true)(c:σ b=some (.part f))(w:f off=some v0)
 (y:K (.lit undef) (σ.set b (.part λj=>if j=off then some u else f j))):aT P o env σ K Kp:=λk O g h l=>by
 have e:=q _ _ (h p (by simp_all));have a:=h x (by simp_all);rw[r]at a;generalize z:g x=v at a;cases a;have:execOp g o=(do storeVar t ⟨b,off,none⟩ u;pure .skip):=by simp[execOp,m,Instr.storeAt,e,Instr.sureAddr,z]
 rw[this];have A:u.cells=#[u]:=by cases u<;>first|rfl|cases d
 refine af ?_;unfold storeVar;refine af (bY L ht ?_);rw[KD (by simp_all)];refine af (ag ?_);rw[A];unfold storeCells;refine af (s:=store ⟨b,off,none⟩ u) ⟨rfl,d,rfl,.inr (.inr ⟨f,v0,l.CQ c,w,?_⟩)⟩;unfold storeCells;exact ag (ag ⟨undef,.inr ⟨rfl,rfl⟩,.here ⟨.refl k,.lit undef,_,.lit _,l.set (.part _),y⟩⟩)
end
def ar.oi(k:ar)(r n:Nat)(v:Value):ar:={k with cell:=λb j=>if b=r/\j=n then some v else k.cell b j}
def EL(f:Nat->aeR)(n:Nat):Nat->aeR:=λi=>if i=n then none else f i
def CX{f n i u}(h:EL f n i=some u):f i=some u/\i≠n:=by
 unfold EL at h
 simp_all
def EM{f n i}(h:EL f n i≠none):f i≠none/\i≠n:=by
 cases q:EL f n i with
 |none=>simp_all
 |some u=>have:=CX q;simp_all
def GO{k O r n v f}(l:O r=some (.part f))(E:f n=some v):mM k O (k.oi r n v) (O.set r (.part (EL f n))):=λw h=>by
 obtain⟨c,e,B,F,C⟩:=h.part _ _ l
 have G:k.cell r n=none:=by
  cases q:k.cell r n with
  |none=>rfl
  |some u=>exact(h.apart _ _ _ q (.inr (.inr ⟨_,l,by grind⟩))).elim
 have z:k.Le (k.oi r n v):=⟨λb i u j=>by
  have:¬(b=r/\i=n):=λx=>by simp_all
  simpa[ar.oi,this]using j,λ_ _ h=>h⟩
 have p:∀b,b≠r->(O.set r (.part (EL f n))) b=O b:=λb hb=>by simp[an.set,hb]
 have a:(O.set r (.part (EL f n))) r=some (.part (EL f n)):=by simp[an.set]
 refine⟨⟨λb i u j D=>?_,λb i u j=>?_,h.sh,λb o hb=>?_,λb m hb=>?_,λb g hb=>?_⟩,⟨z,aav _,λ_ _ _=>rfl,λ_ _ _ _ c _ h=>⟨c,h,rfl,λ_ _=>rfl⟩,λ_ _ _ _ c _ h=>⟨c,h,rfl,λ_ _=>rfl⟩,λ_ _=>rfl,λb x t=>?_,λb i u j=>?_,λ_ _ h=>.inl h,by simp,rfl,rfl,rfl,by simp,λb g hb=>?_⟩⟩
 . have s:aZ O b i/\¬(b=r/\i=n):=by
    by_cases hb:b=r
    . subst hb
      rcases D with⟨o,y⟩|⟨m,y,A⟩|⟨g,y,A⟩
      . simp_all
      . simp_all
      . rw[a]at y;cases y
        exact⟨.inr (.inr ⟨f,l,(EM A).1⟩),λx=>(EM A).2 x.2⟩
    . exact⟨by simpa[aZ,an.set,hb]using D,λx=>hb x.1⟩
   exact h.apart b i u (by simpa[ar.oi,s.2]using j) s.1
 . by_cases hb:b=r/\i=n
   . obtain⟨rfl,rfl⟩:=hb
     simp only[ar.oi,and_self,aay,kn]at j;subst j;simp[World.cell?,B,C _ _ E]
   . exact h.cell b i u (by simpa only[ar.oi,hb,aao]using j)
 . by_cases d:b=r
   . simp_all
   . exact h.obj b o (by simp_all)
 . by_cases d:b=r
   . simp_all
   . exact h.tail b m (by simp_all)
 . by_cases d:b=r
   . subst d;rw[a]at hb;cases hb
     exact⟨c,e,B,F,λi u j=>C i u (CX j).1⟩
   . exact h.part b g (by simp_all)
 . by_cases d:b=r
   . subst d
     rw[a]at t;cases t;exact .inl ⟨_,l,λi H=>(EM H).1⟩
   . rw[p b d]at t;exact .inl ⟨x,t,.refl x⟩
 . by_cases hb:b=r/\i=n
   . obtain⟨rfl,rfl⟩:=hb;exact .inr (.inl (.inr (.inr ⟨f,l,by grind⟩)))
   . exact .inl (by simpa only[ar.oi,hb,aao]using j)
 grind
section
variable{P:afn}{fid n:Nat}{ro:aeX}{s:St}{k:afb}{K:aeN}{A:cd}{Fin:aeE}{j:Nat}
def cd.own(A:cd)(j:Nat)(v:Value):Nat->aeR:=λi=>if i=A.cell j then some v else none
def IJ(hd:A.dir=true){l h}(r:A.cell j<l.length){σ q}(d:σ A.fb=some .jf)(s:∀x v,A.GI x->(∀y,σ A.mb=some y->y.gone=true)->q (.val (.bL [])) ((σ.set A.mb x).set A.fb (.part (A.own j v)))):aB P (jv P A j) A.nm.lock [.kp A.fb l h A.fo] σ q:=by
 intro Q k O e c rest kind t w g B J;obtain⟨v,rfl,C⟩:=w.one;cases C with
 | kp _ _ N E _ _ K D F _ _=>
   obtain⟨G,_,_⟩:=g.2 _ _ d rfl;refine .dM (λk' O' g'=>T P (jv P A j) Q k' O' g') rfl (.inl ⟨kind,c,rest,_,t,rfl,G,D,λ_=>aaQ r F,λk' x y f b m n H o=>?_⟩) (λ_ _ _ h=>h)
   obtain⟨u,rfl⟩:∃u,f=A.own j u:=by unfold cd.Tk at o;rw[Rp hd]at o;exact o
   refine B k' _ (.tuple #[]) (.bL []) _ b (.bL _ _ rfl λi v a h=>by simp at h) (((g.mono b).set m).set (.part _)) (s y u n λz I=>?_)
   cases p:z.gone with
   |true=>rfl
   | false=>
     obtain⟨L,M,_⟩:=g.1 _ z I p
     simp_all
def Va(P:afn)(A:cd)(j:Nat)(fn:Func):aeN:=λe s=>fn.results=#[]/\(e=.leave none\/e=.leave (some .ret))/\(∃a,s.rc=.told .deferred [de P] a)/\∃pl f y,kV A.fb A.fo pl/\s.D=[.call (.func A.nm.unlock) [] [pl],.call (.func A.ng.done) [] [.ref A.gb 0]]/\
 s.σ A.fb=some (.part f)/\f (A.cell j)=some (A.val j)/\s.σ A.mb=some y/\A.GI y/\y.gone=false
def X3{k d f a}(h:wB k d (.call f [] [a])):∃v,V k v a/\d={target:=.fn f #[],args:=#[v]}:=by
 obtain⟨g,i,rfl,b,c⟩:=h;have j:g=#[]:=by have:=b.1;simp_all
 obtain⟨v,l,e⟩:=Vs.one c;exact⟨v,e,by rw[j,show i=#[v]by grind]⟩
def Pf{f fd v g tmps todo ds cs}(d:P.funcs[f]?=some fd)(hb:fd.body.isSome=true)(a:(fd.name==  "runtime.NumGoroutine")=false){b}  w :
 stepG P b (G ⟨g,tmps,todo,{target:=.fn (.func f) #[],args:=#[v]}::ds,.returning,.deferred,none⟩ cs) w=.go (G (Frame.enter P f #[v] .deferred) (⟨g,tmps,todo,ds,.returning,.deferred,none⟩::cs)) w #[]:=by
 have hinv:∀w,(invoke (.fn (.func f) #[]) #[v]).runT P w #[]=(.ok (.enter f #[v]) w,#[]):=λw=>by
  show Sem.runT P (callFunc f _) w #[]=_;unfold callFunc;have c:fd.body.isNone=false:=by simp_all
  rw[iF,d];simp only[a,c,aal,aao];simp
 simp only[G,stepG,unwind,callDeferred,hinv];simp;rfl
def LV(hd:A.dir=true){f:FuncId}{fn fd i}(hf:P.funcs[f]?=some fn)(k:P.funcs[A.ng.done]?=some fd)(l:fd.body.isSome=true)(b:(fd.name==  "runtime.NumGoroutine")=false)(n:P.funcs[A.nm.unlock]?=some i)(o:i.body.isSome=true)(c:(i.name==  "runtime.NumGoroutine")=false){kk}:
 zw P (jv P A j) jb f fn.ntmps none .deferred [de P] (Va P A j fn) kk where
 leave k' O' tmps defs s todo F hle hs J p:=by
  obtain⟨d,O,⟨Q,e⟩,pl,K,y,q,H,g,a,Ff,r,t⟩:=p;obtain⟨env,σ,D,rc⟩:=s;simp only at e H g Ff;subst e H;show T P (jv P A j) jb k' O' (G ⟨f,tmps,todo,defs,.run,.deferred,none⟩ [de P]);have u:=hs.ds
  match defs,u with
  | [d1,d2],⟨L,M,_⟩=>
    obtain⟨v1,v,rfl⟩:=X3 L;obtain⟨v2,z,rfl⟩:=X3 M;cases z;obtain rfl:=q _ _ v;obtain⟨x,hx,B⟩:=hs.rel.1 _ _ Ff t;have I:=hs.rel.CQ g;refine T.dN (g':=G ⟨f,tmps,todo,[{target:=.fn (.func A.nm.unlock) #[],args:=#[.pointer (some ⟨A.fb,A.fo,none⟩)]},{target:=.fn (.func A.ng.done) #[],args:=#[.pointer (some ⟨A.gb,0,none⟩)]}],.returning,.deferred,none⟩ [de P]) rfl (λw=>?_) ?_
    . rcases J with⟨rfl,rfl⟩|⟨kk,rfl,rfl⟩|⟨_,_,_,_,rfl⟩
      . simp[G,stepG,stepG.exec]
      . simp[G,stepG,stepG.exec]
      grind
    refine T.dN rfl (λw=>Pf n o c w) (T.sat rfl λ⟨w,hw⟩=>?_);have C:=((GO I a) w hw).2.le;refine .ghost (GO I a) ?_;have E:A.mb≠A.fb:=zs A.d5;refine .dM jb rfl (.inr (.inl ⟨.deferred,_,_,EL K (A.cell j),x,y,by simp,rfl,by simp[an.set],by simp only[an.set,E,aao];exact hx,B.mono C,r,λ_=>by simp[ar.oi],?_⟩)) (λ_ _ _ h=>h.elim);rw[show Hz P A jb=T P (mY P A) jb by simp[Hz,hd]];refine T.dN (m:=mY P A) rfl (λw=>Pf k l b w) ?_;exact .dM jb rfl ⟨rfl,f,fn,tmps,todo,hf,d,rfl⟩ (λ_ _ _ h=>h.elim)
 panic k' O' tmps defs s todo R S hle hs N p:=by obtain⟨_,h|h,_⟩:=p<;>cases h
def aa.Tz(hd:A.dir=true){m ops i rest o fo args d f fn fd e body first cap hold hold'}(z:ops[i]?=some o)(g:o.op=.go ⟨.value fo,args,d⟩)(B:o.guard=none)(j:Oper.ok n o=true)
 (l:ao s.env fo=.fn (.func f) first cap) (y:P.funcs[f]?=some fn) (hb:fn.body=some body) (p:(fn.name==  "runtime.NumGoroutine")=false) (C:((first++args.toList.map (ao s.env))++cap).length<=fn.ntmps) (q:s.σ A.fb=some .jf) (a:lh hold' [.code body]=true)
 (r:P.funcs[A.ng.done]?=some fd) (t:fd.body.isSome=true) (b:(fd.name==  "runtime.NumGoroutine")=false) (u:P.funcs[A.nm.unlock]?=some e) (v:e.body.isSome=true) (c:(e.name==  "runtime.NumGoroutine")=false)
 (D:∀w,aa P (jv P A (A.n-(m+1))) f fn.ntmps none hold' [.code body] ⟨dW ((first++args.toList.map (ao s.env))++cap),ln A.fb,[],.told .deferred [de P] w⟩ (Va P A (A.n-(m+1)) fn))
 (h:aa P (rX P A Fin m) fid n ro hold (.inRegion ops rest::k) {s with env:=bu s.env o.dst .cX} (λ_ _=>False)):aa P (Ir P A Fin m) fid n ro hold (.inRegion ops (i::rest)::k) s K:=λx=>
 Go.K1 z g (cH B) j l y hb p C q (λ_=>LV hd y r t b u v c) (λw=>D w a) (h (by simpa[lh,mX]using x))
def SL{kk v b off l l' hole d}(hlen:l'.length=l.length)(k:∀j,j<l.length->j∉d->(j∉hole/\l'[j]?=l[j]?)\/∃u,kk.cell b j=some u/\flat u=true/\l'[j]?=some (.lit u))(h:V kk v (.kp b l hole off)):V kk v (.kp b l' d off):=by
 cases h with
 | kp _ _ N E _ _ c m o p q=>
   have key:∀j,∃u,j<l.length->j∉d->(kk.cell b j=some u/\flat u=true)/\∀a,l'[j]?=some a->V kk u a:=λj=>by
    by_cases e:j<l.length/\j∉d
    . rcases k j e.1 e.2 with⟨g,i⟩|⟨u,g,i,n⟩
      . grind
      . exact⟨u,λ_ _=>⟨⟨g,i⟩,λa ha=>by rw[n]at ha;cases ha;exact .lit _⟩⟩
    simp_all
   refine .kp b off N E l' d (λj=>(key j).choose) m (by omega) (λj e f=>((key j).choose_spec (by omega) f).1) (λj a f ha=>((key j).choose_spec (by grind) f).2 a ha)
def Go.Pg(f:A.dir=true){m J kd g L ops i rest o args u fn b}(M:ops[i]?=some o)(w:o.op=.call ⟨.value (.func A.ng.wait),args,u⟩)(R:cG ops n s.env o)(y:Oper.ok n o=true)
 (S:P.funcs[A.ng.wait]?=some fn) (hb:fn.body.isSome=true) (z:(fn.name==  "runtime.NumGoroutine")=false) (ha:args.toList.map (ao s.env)=[.ref A.gb 0]) (B:s.σ A.fb=some .jf) (l:s.rc=.told kd g L) (p:ub P m fid n ro J kd g L Fin)
 (T:∀kk,(∀j,j<A.n->kk.cell A.fb (A.cell j)=some (A.val j))->∀t v,V kk v (bu s.env o.dst (.bL []) t)->V kk v (b t))
 (h:∀a,A.GI a->Go P m fid n ro (.inRegion ops rest::k) {s with env:=b,σ:=(s.σ.set A.mb a).set A.fb (.part (bW A.fo)),rc:=.no} J):Go P (rX P A Fin 0) fid n ro (.inRegion ops (i::rest)::k) s K:=by
 intro Q kk O tmps defs kind cs W q X;refine IF M w R y S hb z q λC N=>?_
 rw[ha]at N;obtain⟨v,rfl,D⟩:=Vs.one N;cases D;have c:=q.rc;rw[l]at c;obtain⟨rfl,rfl,E⟩:=c;rw[show rX P A Fin 0=_ from Rp f];refine .dM jb rfl ⟨rfl,_,_,rfl,(q.rel.2 _ _ B rfl).2.1,λk' x a d F H I=>?_⟩ (λ_ _ _ h=>h.elim);obtain⟨e,U,r⟩:=q.put (fid:=fid) (ro:=ro) (rest:=rest) (kk:=k) (σ':=(s.σ.set A.mb a).set A.fb (.part (bW A.fo))) (O':=(O.set A.mb x).set A.fb (.part (bW A.fo))) (v:=.tuple #[]) (a:=.bL []) d M (.bL _ _ rfl λi v a h=>by simp at h) (((q.rel.mono d).set H).set (.part _));show Fin k' _ (G (Frame.finish ⟨fid,tmps,.inRegion ops (i::rest)::k,defs,.run,kind,ro⟩ (.tuple #[])) (ir s.rc cs));rw[U,l];exact p _ _ k' _ e defs (h a I) rfl ⟨r.size,λt ht=>T k' F t _ (r.env t ht),r.rel,r.ds,trivial⟩ (E.trans d)
def aa.Pg(c:A.dir=true){m hold w kd d x ops i rest o args f fn}  b  (y:ops[i]?=some o) (g:o.op=.call ⟨.value (.func A.ng.wait),args,f⟩) (z:o.guard=none) (l:Oper.ok n o=true)
 (B:P.funcs[A.ng.wait]?=some fn) (hb:fn.body.isSome=true) (p:(fn.name==  "runtime.NumGoroutine")=false) (ha:args.toList.map (ao s.env)=[.ref A.gb 0]) (q:s.σ A.fb=some .jf) (r:s.rc=.told kd d x) (e:ub P m fid n ro w kd d x Fin)
 (C:∀kk,(∀j,j<A.n->kk.cell A.fb (A.cell j)=some (A.val j))->∀t v,V kk v (bu s.env o.dst (.bL []) t)->V kk v (b t))
 (h:∀a,A.GI a->aa P m fid n ro hold (.inRegion ops rest::k) {s with env:=b,σ:=(s.σ.set A.mb a).set A.fb (.part (bW A.fo)),rc:=.no} w):aa P (rX P A Fin 0) fid n ro hold (.inRegion ops (i::rest)::k) s K:=λu=>
 Go.Pg c y g (cH z) l B hb p ha q r e C λa ha=>h a ha (by simpa[lh,mX]using u)
def aa.X4{m todo hold}(f:m.solo=true)(B:jc)(x:B.dir=true)(C:iV P B.ng)(X:jH P B.ng)(A:iH P B.nm)(D:iI P B.nm)(F:oC P B.nm){a g}
 (E:s.σ B.gb=some (.cells [.lit (.int .u64 0),.lit (.int .u32 0)])) (G:s.σ B.fb=some (.part g)) (k:g B.fo=some (.int .i32 0)) (l:g (B.fo+1)=some (.int .u32 0)) (o:∀j,j<B.n->g (B.fo+2+j)≠none) (H:s.σ B.mb=some a) (p:a.gone=false) (r:B.GI a) (t:s.rc=.no)
 (h:∀  b   hb   Fin   kd   c   i ,ub P m fid n ro K kd c i Fin ->
   aa P (rX P (B.at b hb) Fin B.n) fid n ro hold todo {s with σ:=((s.σ.del B.gb).del B.mb).set B.fb .jf,rc:=.told kd c i} (λ_ _=>False)):aa P m fid n ro hold todo s K:=λu=>
 Go.T2 f B C X A D F (λq=>by simp_all) E G k l (λ_=>o) H p r t (λd y e=>by
  by_cases v:d=B.fb
  . simp_all
  by_cases w:d=B.mb
  . subst w;simp[ab.set,ab.del,v]at e
  by_cases z:d=B.gb
  . subst z;simp[ab.set,ab.del,v,w]at e
  simp only[ab.set,ab.del,v,w,z,aao]at e
  simp_all) λb hb Fin kd c i I=>h b hb Fin kd c i I u
end
structure Km(P:afn)(t ft:Nat):Prop where
 hk:∃f g,P.underlying t=some (.struct #[f,g])/\(f.name≠ "_"/\f.type=ft/\f.offset=0)/\(g.name≠ "_"/\g.type=ft/\g.offset=1)
 hf:P.underlying ft=some (.int .i64)
 hs:P.stoodInHeld t=false
 hg:P.eqGuardType P.depth t=false
def Km.of{P t ft}(a:(match P.underlying t with|some (.struct fs)=>(match fs.toList with|[f,g]=>f.name !=  "_" && f.type==ft && f.offset==0 && (g.name !=  "_" && g.type==ft && g.offset==1)|_=>false)|_=>false)=true)(b:P.underlying ft=some (.int .i64))(c:P.stoodInHeld t=false)(d:P.eqGuardType P.depth t=false):Km P t ft:=by
 refine⟨?_,b,c,d⟩;split at a
 . next fs e=>
   split at a
   . next f g h=>
     simp only[zj,bne_iff_ne,adA]at a;refine⟨f,g,?_,⟨a.1.1.1,a.1.1.2,a.1.2⟩,a.2.1.1,a.2.1.2,a.2.2⟩;rw[e];congr 2
     grind
   . cases a
 . cases a
section
variable{P:afn}(L:jq P){k:ar}{O:an}{Kp:aeG}{t ft:Nat}
def nB{K i c n v}(ht:L.tt ft=some i)(ha:i.agg=false)(a:c[n]?=some v)(h:K v k O):eP P (part ft c n) k O K Kp:=by unfold part;refine af (th L ht ?_);rw[ha];simp only[aal,aao];rw[a];exact ag h
variable(M:Km P t ft){i:TI}(ht:L.tt ft=some i)(ha:i.agg=false)
include M ht ha
theorem A7{K a b c d}(h:K (a==c && b==d) k O):eP P (Op.equal t (.agg #[.int .i64 a,.int .i64 b]) (.agg #[.int .i64 c,.int .i64 d])) k O K Kp:=by
 obtain⟨f,g,j,⟨l,m,n⟩,o,p,q⟩:=M.hk;show eP P (Op.equalIn (9998+1+1) t (.agg #[.int .i64 a,.int .i64 b]) (.agg #[.int .i64 c,.int .i64 d])) k O K Kp;rw[Op.equalIn];refine af (cW j ?_);refine af (bI ?_);rw[M.hs];simp only[aal,aao,adP,adN,adW];rw[Rp l,m,n,Rp o,p,q];refine af (af (af (nB L ht ha rfl ?_)));refine af (nB L ht ha rfl ?_);refine af ?_;rw[Op.equalIn];refine af (cW M.hf ?_);simp only;refine ag ?_;cases e:(a==c)with
 |false=>rw[e]at h;exact ag (ag (ag h))
 | true=>
   rw[e]at h;refine ag ?_;simp only[];refine af (af (nB L ht ha rfl ?_));refine af (nB L ht ha rfl ?_);refine af ?_;rw[Op.equalIn];refine af (cW M.hf ?_);simp only;refine ag ?_;cases i:(b==d)with
   |false=>rw[i]at h;exact ag (ag (ag h))
   |true=>rw[i]at h;exact ag (ag (ag h))
theorem GP{c a b}(h:V k c (.agg [.lit (.int .i64 a),.lit (.int .i64 b)])):c=.agg #[.int .i64 a,.int .i64 b]:=by
 cases h with
 | agg c l e d=>
   obtain⟨f⟩:=c
   match f,e,d with
   |[p,q],_,d=>have g:=d 0 p _ rfl rfl;have i:=d 1 q _ rfl rfl;cases g;cases i;rfl
theorem LW{o env σ K Kp op}{p:Nat}{x y a b c d r}(q:o.op=.binOp op t x y p)(u:ao env x=.agg [.lit (.int .i64 a),.lit (.int .i64 b)])(v:ao env y=.agg [.lit (.int .i64 c),.lit (.int .i64 d)])
 (f:(op=.eql/\r=(a==c && b==d))\/(op=.neq/\r=!(a==c && b==d))) (i:K (.lit (.bool r)) σ):aT P o env σ K Kp:=
 aT.val (s:=λe=>do eqGuard op t x y (e x) (e y);binOp op t (e x) (e y)) (λe=>by simp[execOp,q]) λk O e g j=>by
  have l:=g x (by simp_all);have m:=g y (by simp_all);rw[u]at l;rw[v]at m;rw[GP L M ht ha l,GP L M ht ha m]
  have h:∀{R:Unit->ar->an->Prop}{w:aeG},R () k O->eP P (eqGuard op t x y (.agg #[.int .i64 a,.int .i64 b]) (.agg #[.int .i64 c,.int .i64 d])) k O R w:=λn=>by
   rcases f with⟨rfl,_⟩|⟨rfl,_⟩
   . unfold eqGuard
     simp only[Bool.not_true,aal,aao];refine af (bI ?_);refine af (bI ?_);rw[M.hg];exact ag n
   . unfold eqGuard
     simp only[Bool.not_true,aal,aao];refine af (bI ?_);refine af (bI ?_);rw[M.hg];exact ag n
  refine af (h ?_);rcases f with⟨rfl,rfl⟩|⟨rfl,rfl⟩
  . exact af (s:=Op.equal t _ _) (A7 L M ht ha (ag (.here ⟨.refl k,_,σ,.lit _,j,i⟩)))
  . exact af (s:=Op.equal t _ _) (A7 L M ht ha (ag (.here ⟨.refl k,_,σ,.lit _,j,i⟩)))
end

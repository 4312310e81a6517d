import Derived.Test.YtggpckcdfilkoaaGreatDoorC12
set_option linter.all false
namespace Go.bu
section
open Go.Conc
open Go.ConcN (sumTo upd sumTo_upd upd_ne upd_same)
theorem runNT_add{P}:∀  a b   m m1   t c ,runNT P a m t=(.next m1,c)->runNT P (a+b) m t=runNT P b m1 c
 | 0,b,m,m1,t,c,h=>by
   simp  [runNT,zG]at h
   grind
 | a + 1,b,m,m1,t,c,h=>by
   have e:a+1+b=(a+b)+1:=ac
   rw[e];simp  [runNT]at h ⊢;cases d:stepT P m with
   | mk r ο=>
     rw[d]at h;cases r with
     |next f=>exact runNT_add a b f m1 _ c h
     |ended o w=>grind
def Ed(w w':World):Prop:=w.heap=w'.heap/\sE w.os w'.os/\w'.output=w.output
theorem Ed.refl  w :Ed w w:=⟨rfl,.refl _,rfl⟩
def dX.Mx{Z kk g J M w w' t}(h:dX Z kk g J M w t)(d:Ed w w'):dX Z kk g J M w' t:=by
 have e:=d.1.symm;have c:∀{k O},Sat k O w->Sat k O w':=λc=>⟨c.apart,λb i v x=>by rw[(xp e _).1];exact c.cell b i v x,λb s x=>by have:=c.sh b s x;simpa[World.shape?,e]using this,λb o x=>by rw[e];exact c.obj b o x,λb n x=>by rw[e];exact c.tail b n x,λb f x=>by rw[e];exact c.part b f x⟩
 exact⟨λi=>c (h.sat i),h.om,h.tW,λi=>by rw[e];exact h.Hr i,h.clean,λop x=>by rw[e];exact h.seen op x,h.acc,h.n0,h.Dl,λa x=>by rw[e];exact h.rp a x,λr x=>by rw[e];exact h.vH r x,h.Fo.step d.2.1 d.2.2 am am,h.mine⟩
structure jj  P   d   k   O   g  (gs:Da)  w   t  (Z:Base)  q :Prop where
 lk:0≠Z.lk
 g0:gs[0]?=some g
 lv:Leavers P t gs q
 df:Deaf t 0=d
 eU:dX Z (dz (λ_=>az.bot) 0 k) (dz (λ_=>au.bot) 0 O) (λ_=>False) (λ_=>False) w t
def Y5(P:Rg)(k:az)(O:au)(g:YB)(d:Nat)(N:az->au->YB->ZA):Prop:=∀w,Sat k O w->∃g' w' es k' O',stepG P true g w=.go g' w' es/\(∃a:World,Ed a w'/\Sat k' O' a/\(Eff k O w k' O' a es.toList\/(a=w/\k'=k/\O'=O/\(es=#[⟨.mark .disable,false,true⟩]\/es=#[⟨.mark .enable,false,true⟩]))))/\N k' O' g' (deafBehind d es)
section
variable{P:Rg}{k k':az}{O O':au}{g g':YB}{gs:Da}{w w':World}{t:Trace}{Z:Base}{q:Ct}{d:Nat}
def iz.toD{W0}(h:iz P W0 k O g gs w t):∃Z q,Z.W0=W0/\jj P 0 k O g gs w t Z q:=by
 obtain⟨Z,_,e,_,a,b,⟨q,c⟩,hd,d,_⟩:=dX.start h 1 ⟨0,0,none⟩ be;exact⟨Z,q,a,ac,b,c,hd,d⟩
def jj.back(h:jj P 0 k O g gs w t Z q):iz P Z.W0 k O g gs w t:=by
 have:=h.eU.finish  h.g0 h.lv h.df
 grind [aD]
def jj.at(h:jj P d k O g gs w t Z q)  x :jj P d k O g gs (w.at x) t Z q:=⟨h.lk,h.g0,h.lv,h.df,h.eU.at x⟩
def jj.Mx(h:jj P d k O g gs w t Z q)(e:Ed w w'):jj P d k O g gs w' t Z q:=⟨h.lk,h.g0,h.lv,h.df,h.eU.Mx e⟩
def jj.sat(h:jj P d k O g gs w t Z q):Sat k O w:=by have:=h.eU.sat 0;grind [aD]
theorem rPk{α}  f   i  (x y:α):dz (dz f i x) i y=dz f i y:=by grind [aD,aK]
def jj.own(h:jj P d k O g gs w t Z q){es fn pos}(r:Sat k' O' w')(f:Eff k O w k' O' w' es.toList\/(w'=w/\k'=k/\O'=O/\(es=#[⟨.mark .disable,false,true⟩]\/es=#[⟨.mark .enable,false,true⟩]))):
 jj P (deafBehind d es) k' O' g' (gs.setIfInBounds 0 g') w' (t++MemOp.ofEvents 0 fn pos es) Z q:=by
 have s:=(CS.1 h.g0).1;have c:∀op∈MemOp.ofEvents 0 fn pos es,op.g=0:=(by grind [Go.Conc.mem_ofEvents]);refine⟨h.lk,am,⟨λi x u m=>?_,λj o=>?_⟩,by rw[Deaf_own,h.df],?_⟩
 . rw[It ac]at m
   rw[Deaf_other t ac _ c];exact h.lv.old i x u m
 . rw[KV]at o
   rw[Deaf_other t ac _ c];exact h.lv.above j o
 . rcases f with f|⟨rfl,rfl,rfl,f⟩
   . have:=h.eU.own (i:=0) h.lk (.inl rfl) (k':=k') (O':=O') (fn:=fn) (pos:=pos) (by exact f) r
     grind [rPk]
   . have v:∀op∈MemOp.ofEvents 0 fn pos es,op.act.touch?=none/\op.act.low w'.heap.size:=λop l=>by
      obtain⟨e,p,rfl⟩:=zj l;rcases f with rfl|rfl<;>simp at p<;>subst p<;>exact⟨rfl,trivial⟩
     exact h.eU.AO (λa b=>a=b) rfl ⟨⟨.refl _,rfl⟩,am⟩ (λb=>.inl rfl) am (λa b e n x _ _ _ y=>by subst e;exact y.app _) am am am h.eU.om
      (λsaid=>noRace_appendMute (h.eU.clean said) am) am am am
def aje(c:Leavers P t gs q){a a' x w'}:(gs.map (woken P a a' w')).setIfInBounds 0 x=gs.setIfInBounds 0 x:=by
 apply Mi;intro j;by_cases b:0=j
 . grind
 . rw[It b,It b,Kv]
   cases d:gs[j]? with
   |none=>rfl
   |some y=>simp  [IP];exact woken_quitsD (c.old j y ac d)
def Gw{N}(v:g.status=.running)(B:Y5 P k O g d N):
 ∀  n   gs   w   sl   t   q ,sumTo gs.size q=n->jj P d k O g gs w t Z q ->
  ∃M gs' w' f I q' k' O' g' d',runNT P M (crowd gs w sl) t=(.next (crowd gs' w' f),I)/\jj P d' k' O' g' gs' w' I Z q'/\N k' O' g' d':=by
 intro n;induction n using Nat.strongRecOn with
 |ind n ih=>
 intro gs w sl t q hn l
 have K:∀x∈gs,awake x:=by
  intro x hx;obtain⟨i,C,rfl⟩:=Array.mem_iff_getElem.1 hx;rcases Ks i with rfl|m
  . have:gs[0]=g:=by simpa[Ie C]using l.g0
    grind [awake_of]
  . exact awake_of ((l.lv.old i _ m am).status.elim .inl am)
 obtain⟨i,x,r,f,C,hg,E⟩:=crowd_pick (P:=P) (w:=w) (sl:=sl) K ⟨0,g,l.g0,v⟩;have L:=(CS.1 C).1;have o:=l.at r;rcases Ks i with rfl|m
 . obtain rfl:x=g:=by rw[l.g0]at C;grind
   obtain⟨g',w',es,k',O',s1,⟨w2,s0,s2,s3⟩,s4⟩:=B (w.at r) o.sat;have c:=runT_crowd_go (P:=P) (sl:=f) (i:=0) C (show stepG P (0==0) x (w.at r)=_ from s1);rw[aje l.lv]at c;exact⟨1,_,w',f,_,q,k',O',g',_,by simp only[runNT,E,c],(o.own (fn:=x.frame.fn) (pos:=x.frame.place) s2 s3).Mx s0,s4⟩
 . have J :=l.lv.old i x m C
   have Q:(i==0)=false:=am
   cases D:q i with
   |zero=>rw[D]at J;rw[J.1]at hg;grind
   | succ A=>
     rw[D]at J;rcases J with⟨hf,_⟩|⟨_,g',es,hm,F,a7⟩
     . grind
     have c:=runT_crowd_go (P:=P) (sl:=f) (i:=i) C (by rw[Q];exact F (w.at r));have X:sumTo gs.size (upd q i A)+(A+1)=sumTo gs.size q+A:=by have:=sumTo_upd q A id L;simpa[D]using this
     have p:∀op∈MemOp.ofEvents i x.frame.fn x.frame.place es,op.g=i:=(by grind [Go.Conc.mem_ofEvents]);have R:∀op∈MemOp.ofEvents i x.frame.fn x.frame.place es,op.act.touch?=none:=(by grind [Go.Conc.mem_ofEvents,touch_mute]);have G:∀op∈MemOp.ofEvents i x.frame.fn x.frame.place es,op.act.low (w.at r).heap.size:=(by grind [Go.Conc.mem_ofEvents,low_mute])
     have hP:=o.eU.AO (w':=w.at r) (kk':=dz (λ_=>az.bot) 0 k) (OO':=dz (λ_=>au.bot) 0 O) (J':=λ_=>False) (M':=λ_=>False) (u:=MemOp.ofEvents i x.frame.fn x.frame.place es) (λa b=>a=b) rfl ⟨⟨.refl _,rfl⟩,am⟩ (λb=>.inl rfl) G (λa b e n y _ _ _ h=>by subst e;exact h.app _) am am am o.eU.om
      (λsaid=>noRace_appendMute (o.eU.clean said) R) am am am
     have S:jj P d k O g ((gs.map (woken P x g' (w.at r))).setIfInBounds i g') (w.at r) (t++MemOp.ofEvents i x.frame.fn x.frame.place es) Z (upd q i A):=by
      refine⟨l.lk,?_,⟨λj y Y T=>?_,λj Y=>?_⟩,?_,hP⟩
      . rw[It ac,Kv,l.g0]
        simp[woken_run v]
      . by_cases s:i=j
        . subst s
          rw[Ik am]at T
          grind [Option.some.inj,upd_same,Deaf_own]
        . rw[It s,Kv]at T
          obtain⟨z,hz,rfl⟩:=Fh.1 T;have U:=l.lv.old j z Y hz;rw[woken_quitsD U,upd_ne q A (vj s),Deaf_other t s _ p];omega
      . rw[Deaf_other t (g':=i) am _ p]
        exact l.lv.above j am
      . rw[Deaf_other t ac _ p];exact l.df
     obtain⟨M,gs',V,H,I,q',k',O',W,d',e1,e2,e3⟩:=ih (sumTo gs.size (upd q i A)) ac _ (w.at r) f _ (upd q i A) ap S;exact⟨M+1,gs',V,H,I,q',k',O',W,d',by simp only[runNT,E,c];omega,e2,e3⟩
inductive mX(P:Rg)(N:ZD):az->au->YB->ZA
 |done {k:az}{O:au}{g:YB}:N k O g->mX P N k O g 0
 |step {k:az}{O:au}{g:YB}{d:Nat}(N':az->au->YB->ZA):g.status=.running->Y5 P k O g d N'->(∀k' O' g' d',N' k' O' g' d'->mX P N k' O' g' d')->mX P N k O g d
def TM{N}(h:mX P N k O g d):∀  gs   w   sl   t   q ,jj P d k O g gs w t Z q ->
 ∃M gs' w' a j k' O' g',runNT P M (crowd gs w sl) t=(.next (crowd gs' w' a),j)/\iz P Z.W0 k' O' g' gs' w' j/\N k' O' g':=by
 induction h with
 |done h=>exact λgs w sl t q b=>⟨0,gs,w,sl,t,_,_,_,rfl,b.back,h⟩
 |step E l m _ n=>intro gs w sl t q b;obtain⟨o,c,p,e,r,s,F,G,H,I,J,u,v⟩:=Gw l m _ gs w sl t q rfl b;obtain⟨M2,f,x,i,y,z,A,B,f1,C,D⟩:=n _ _ _ _ v c p e r s u;exact⟨o+M2,f,x,i,y,z,A,B,by grind [runNT_add],C,D⟩
def mX.phase{N}(h:mX P N k O g 0):Ha P k O g N:=λW0 gs w sl t a=>by obtain⟨Z,q,rfl,b⟩:=a.toD;exact TM h gs w sl t q b
def iz.ghost{W0}(h:iz P W0 k O g gs w t){k' O'}(b:qp k O k' O'):iz P W0 k' O' g gs w t:=by
 obtain⟨Z,q,rfl,a⟩:=h.toD;obtain⟨c,d⟩:=b w a.sat;have:=a.own (g':=g)  (fn:=0) (pos:=  "") c (.inl d)
 have e:t++MemOp.ofEvents 0 0  "" #[]=t:=by grind [ofEvents_eq]
 have f:gs.setIfInBounds 0 g=gs:=by
  apply Mi;intro j;by_cases i:0=j
  . subst i
    rw[Ik (CS.1 a.g0).1,a.g0]
  grind
 rw[e,f]at this;exact this.back
def TN{m}(G:m.main=true)(H:∀k O g N,¬m.fY k O g N){Q}(h:T P m Q k O g):
 ∀  W0   gs   w   sl   t ,iz P W0 k O g gs w t ->
  ∃M gs' w' n D k' O' g',runNT P M (crowd gs w sl) t=(.next (crowd gs' w' n),D)/\iz P W0 k' O' g' gs' w' D/\Q k' O' g':=by
 induction h with
 |stop h=>exact λW0 gs w sl t a=>⟨0,gs,w,sl,t,_,_,_,rfl,a,h⟩
 | step N i _ l j=>
   intro W0 gs w sl t a;rw[G]at l;obtain⟨Z,q,rfl,I⟩:=a.toD
   obtain⟨o,b,p,c,r,q1,J,K,L,d1,R,s,rfl,u⟩:=Gw (N:=λk' O' g' S=>S=0/\N k' O' g') i (λw U=>by
    obtain⟨g',w',es,k',O',V,E,W,X⟩:=l w U;refine⟨g',w',es,k',O',V,⟨w',.refl _,W,.inl E⟩,?_,X⟩;have F:=dH (t:=#[]) (Dp (λe Y=>E.evs e Y) 0 0  "") 0
    rw[Deaf_own]at F;exact F) _ gs w sl t q rfl I
   obtain⟨M2,d,v,f,x,y,z,A,f1,B,C⟩:=j _ _ _ u _ b p c r s.back;exact⟨o+M2,d,v,f,x,y,z,A,by grind [runNT_add],B,C⟩
 |ghost i _ j=>exact λW0 gs w sl t a=>j W0 gs w sl t (a.ghost i)
 |phase N i _ l j=>intro W0 gs w sl t a;obtain⟨o,b,p,c,r,J,K,L,R,s,u⟩:=l W0 gs w sl t a;obtain⟨M2,d,v,f,x,y,z,A,f1,B,C⟩:=j _ _ _ u W0 b p c r s;exact⟨o+M2,d,v,f,x,y,z,A,by grind [runNT_add],B,C⟩
 |fY N h0 i _ _=>grind
end
def nW(fo:Nat)(s:Mu.Sh):Nat->FP:=λi=>if i=fo then some (.int .i32 (enc s.w.L s.w.K s.w.S s.w.N))else if i=fo+1 then some (.int .u32 s.ms)else none
def kT:Mu.Sh:=⟨.zero,0⟩
def jg:Mu.Sh:=⟨{Mu.Wd.zero with L:=true},0⟩
def Ee  fo :nW fo kT=dB fo:=by
 funext i;simp[nW,dB,kT,enc,Mu.Wd.zero]
def Ef(fo:Nat):Nat->FP:=nW fo jg
section
variable{P:Rg}{k:az}{O:au}{b o:Nat}{w w':World}{s s':Mu.Sh}
def XP(f:Sat k O w)(g:O b=some (.part (nW o s))):ShM b o w s:=by
 obtain⟨c,e,a,h,d⟩:=f.part _ _ g;refine⟨?_,?_,λi=>?_⟩
 . exact ta a (d o _ (by simp[nW]))
 . exact ta a (d _ _ (by simp[nW]))
 grind [qK]
theorem heap_set{w:World}{b i v c e z}(h:w.heap[b]?=some (.cells c e z)):(w.setCell ⟨b,i,none⟩ v).heap[b]?=some (.cells (c.setIfInBounds i v) e z):=by simp[World.setCell,J8,h]
theorem B4{w:World}{b i d v}(h:d≠b):(w.setCell ⟨b,i,none⟩ v).heap[d]?=w.heap[d]?:=by simp[World.setCell,J8,vj h]
theorem aaa{es}(t:Sat k O w)(J:O b=some (.part (nW o s)))(D:MW b o w w')(E:ShM b o w' s')(F:EvM b o es)(Z:∀e∈es,∀m,e.loc≠.mark m):
 ∃Q ,Ed Q w'/\Sat k (O.set b (.part (nW o s'))) Q/\Eff k O w k (O.set b (.part (nW o s'))) Q es.toList:=by
 obtain⟨c,e,G,h2,h3⟩:=t.part _ _ J;have a7:=(CS.1 G).1
 have key:∃u,w'.heap[b]?=some (.cells u e (0,0))/\u.size=c.size/\(∀i,i≠o->i≠o+1->u[i]?=c[i]?)/\(∀d,d≠b->w'.heap[d]?=w.heap[d]?)/\w'.heap.size=w.heap.size:=by
  rcases D.2 with hq|⟨i,v,p,M,hq⟩
  . grind
  . refine⟨c.setIfInBounds i v,by grind [heap_set],ap,λj hj a8=>?_,(by grind [B4]),aq⟩
    grind
 obtain⟨u,A,R,k3,C,k5⟩:=key;have a9:u[o]?=some (.int .i32 (enc s'.w.L s'.w.K s'.w.S s'.w.N)):=by have:=E.cw;simpa[World.cell?,A]using this
 have ab:u[o+1]?=some (.int .u32 s'.ms):=by have:=E.cs;simpa[World.cell?,A]using this
 have V:∀i,(i=o\/i=o+1)->bS O b i:=λi p=>.inr (.inr ⟨_,J,by rcases p with rfl|rfl<;>simp[nW]⟩)
 have l:∀d y,(O.set b (.part (nW o s'))) d=some y->(d=b/\y=.part (nW o s'))\/(d≠b/\O d=some y):=λd y h=>by
  by_cases hd:d=b
  . subst hd;simp[au.set]at h;grind
  . simp[au.set,hd]at h;grind
 have r:∀i v,k.cell b i=some v->i≠o/\i≠o+1:=λi v x=>⟨λe=>t.apart _ _ _ x am,λe=>t.apart _ _ _ x am⟩
 refine⟨{w with heap:=w'.heap},⟨rfl,D.1⟩,⟨λd i v x W=>?_,λd i v x=>?_,λd z hz=>?_,λd y B=>?_,λd n B=>?_,λd f B=>?_⟩,⟨.refl k,?_,λd hd P=>?_,λd n hd P c2 e2 T=>?_,λd f hd P c2 e2 T=>?_,λd hd=>?_,λd y B=>?_,am,am,λU H=>?_,rfl,rfl,rfl,λU H=>?_,λd f M=>?_⟩⟩
 . by_cases hd:d=b
   . subst hd
     obtain⟨X,Y⟩:=r i v x;rcases W with⟨_,q⟩|⟨_,q,_⟩|⟨f,q,M⟩
     . grind
     . grind
     . simp[au.set]at q;subst q
       simp[nW,X,Y]at M
   . exact t.apart d i v x (by simpa[bS,au.set,hd]using W)
 . have I:=t.cell d i v x
   by_cases hd:d=b
   . subst hd
     obtain⟨X,Y⟩:=r i v x;simp only[World.cell?,G,A]at I ⊢
     grind
   . simpa[World.cell?,C d hd]using I
 . have I:=t.sh d z hz
   by_cases hd:d=b
   . subst hd
     simp only[World.shape?,G,A,R]at I ⊢;omega
   . simpa[World.shape?,C d hd]using I
 . rcases l d _ B with⟨_,q⟩|⟨hd,g⟩
   . cases q
   . rw[show({w with heap:=w'.heap}:World).heap[d]?=w.heap[d]? from C d hd];exact t.obj d y g
 . rcases l d _ B with⟨_,q⟩|⟨hd,g⟩
   . cases q
   . rw[show({w with heap:=w'.heap}:World).heap[d]?=w.heap[d]? from C d hd];exact t.tail d n g
 . rcases l d _ B with⟨rfl,q⟩|⟨hd,g⟩
   . cases q
     refine⟨u,e,A,am,λi v p=>?_⟩;unfold nW at p
     grind
   . rw[show({w with heap:=w'.heap}:World).heap[d]?=w.heap[d]? from C d hd];exact t.part d f g
 . grind
 . grind
 . grind
 . by_cases a:d=b
   . subst a
     rw[J]at P;cases P;rw[G]at T;cases T;exact⟨u,A,R,λi p=>k3 i (λq=>by subst q;simp[nW]at p) (λq=>by subst q;simp[nW]at p)⟩
   grind
 . by_cases a:d=b
   . subst a
     simp only[World.shape?,G,A,R]
   . simp[World.shape?,C d a]
 . rcases l d _ B with⟨rfl,rfl⟩|⟨a,g⟩
   . refine .inl ⟨_,J,λi p=>?_⟩
     unfold nW at p ⊢
     grind
   . exact .inl ⟨y,g,.refl y⟩
 . rcases F U am with q|⟨i,p,q,_⟩
   . grind
   . simp only[nY,q];grind
 . rcases F U am with q|⟨i,p,q,_⟩
   . grind
   . simp only[nF,q];omega
 . by_cases a:d=b
   . subst a;exact⟨nW o s',by simp[au.set]⟩
   . exact⟨f,by simp[au.set,a,M]⟩
theorem au.set_set(O:au)  b   x y :(O.set b x).set b y=O.set b y:=by funext d;by_cases h:d=b<;>simp[au.set,h]
theorem au.aj(O:au)  b   x :(O.set b x) b=some x:=by simp[au.set]
def au.Ic{O:au}{b x}(h:O b=some x):O.set b x=O:=by
 funext d;by_cases e:d=b
 . subst e;simp[au.set,h]
 . simp[au.set,e]
structure Lk  k   b o  (f:Mu.Sh->au):Prop where
 sat:∀{s w},Sat k (f s) w->ShM b o w s
 eff:∀{s s' w w' es},Sat k (f s) w->MW b o w w'->ShM b o w' s'->EvM b o es->(∀e∈es,∀m,e.loc≠.mark m)->∃w2 ,Ed w2 w'/\Sat k (f s') w2/\Eff k (f s) w k (f s') w2 es.toList
 has:∀s,∃x,f s b=some x
def Lk.part(O:au):Lk k b o λs=>O.set b (.part (nW o s)) where
 sat h:=XP h (au.aj O b _)
 eff a c d e f:=by grind [aaa,au.aj,au.set_set]
 has s:=⟨_,au.aj O b _⟩
def sd(c:E7)(o:Nat)(s:Mu.Sh):E7:=(c.setIfInBounds o (.int .i32 (enc s.w.L s.w.K s.w.S s.w.N))).setIfInBounds (o+1) (.int .u32 s.ms)
theorem qX{c i}(a:i≠o)(b:i≠o+1):(sd c o s)[i]?=c[i]?:=by
 unfold sd
 grind
theorem zY{c}(h:o+1<c.size):(sd c o s)[o]?=some (.int .i32 (enc s.w.L s.w.K s.w.S s.w.N)):=by
 unfold sd
 grind
theorem zZ{c}(h:o+1<c.size):(sd c o s)[o+1]?=some (.int .u32 s.ms):=by
 unfold sd
 grind
theorem se{c}:(sd c o s).size=c.size:=by simp[sd]
def Lk.obj(O:au){c e}(hc:o+1<c.size):Lk k b o λs=>O.set b (.obj (.cells (sd c o s) e (0,0))) where
 sat h:=by have g:=h.obj b _ (au.aj O b _);exact⟨ta g (zY hc),ta g (zZ hc),λi=>qK g⟩
 eff {s s' w w' es} hs r t u I:=by
  have g:=hs.obj b _ (au.aj O b _);have J:=(CS.1 g).1;have B:(O.set b (.obj (.cells (sd c o s) e (0,0)))) b=some (.obj (.cells (sd c o s) e (0,0))):=by simp[au.set]
  have M:∀d x,d≠b->(O.set b x) d=O d:=λd x h=>by simp[au.set,h]
  have key:w'.heap[b]?=some (.cells (sd c o s') e (0,0))/\(∀d,d≠b->w'.heap[d]?=w.heap[d]?)/\w'.heap.size=w.heap.size:=by
   have key:∃m,w'.heap[b]?=some (.cells m e (0,0))/\m.size=c.size/\(∀i,i≠o->i≠o+1->m[i]?=c[i]?)/\(∀d,d≠b->w'.heap[d]?=w.heap[d]?)/\w'.heap.size=w.heap.size:=by
    rcases r.2 with E|⟨i,v,F,hf,E⟩
    . grind [se,qX]
    . refine⟨_,by rw[E];exact heap_set g,by rw[KV,se],λj U P=>?_,(by grind [B4]),aq⟩
      grind [Array.getElem?_setIfInBounds_ne,qX]
   obtain⟨m,k1,V,W,l,G⟩:=key;refine⟨?_,l,G⟩;rw[k1];have Q:m[o]?=some (.int .i32 (enc s'.w.L s'.w.K s'.w.S s'.w.N)):=by have:=t.cw;simpa[World.cell?,k1]using this
   have R:m[o+1]?=some (.int .u32 s'.ms):=by have:=t.cs;simpa[World.cell?,k1]using this
   have:m=sd c o s':=by
    apply Mi;intro i;by_cases e1:i=o
    . grind [zY]
    . by_cases e2:i=o+1
      . grind [zZ]
      grind [qX]
   rw[this]
  obtain⟨k1,l,G⟩:=key
  have H:∀d i x y,bS (O.set b (.obj x)) d i->bS (O.set b (.obj y)) d i:=λd i x y hc=>by
   by_cases hd:d=b
   . subst hd;exact .inl ⟨y,by simp[au.set]⟩
   . simpa[bS,au.set,hd]using hc
  have C:∀d i v,k.cell d i=some v->d≠b:=λd i v p e=>hs.apart _ _ _ p (by subst e;exact .inl ⟨_,B⟩)
  refine⟨{w with heap:=w'.heap},⟨rfl,r.1⟩,⟨λd i v p hc=>hs.apart d i v p am,λd i v p=>?_,λd z hz=>?_,λd y hy=>?_,λd n hy=>?_,λd f hy=>?_⟩,⟨.refl k,?_,λd hd hn=>?_,λd n hd hn c2 e2 T=>?_,λd f hd hn c2 e2 T=>?_,λd hd=>?_,λd y hy=>?_,am,am,λD A=>?_,rfl,rfl,rfl,λD A=>?_,λd f hf=>?_⟩⟩
  . have h0:=hs.cell d i v p
    simpa[World.cell?,l d (C d i v p)]using h0
  . have h0:=hs.sh d z hz
    by_cases hd:d=b
    . subst hd
      simp only[World.shape?,g,k1,se]at h0 ⊢;omega
    . simpa[World.shape?,l d hd]using h0
  . by_cases hd:d=b
    . subst hd
      simp only[au.set,ZC,td,Own.obj.injEq]at hy
      grind
    . rw[show({w with heap:=w'.heap}:World).heap[d]?=w.heap[d]? from l d hd]
      exact hs.obj d y am
  . have hd:d≠b:=λq=>by subst q;simp[au.set]at hy
    rw[show({w with heap:=w'.heap}:World).heap[d]?=w.heap[d]? from l d hd];exact hs.tail d n am
  . have hd:d≠b:=λq=>by subst q;simp[au.set]at hy
    rw[show({w with heap:=w'.heap}:World).heap[d]?=w.heap[d]? from l d hd];exact hs.part d f am
  . grind
  . grind
  . grind
  . grind
  . by_cases a:d=b
    . subst a
      simp only[World.shape?,g,k1,se]
    . simp[World.shape?,l d a]
  . by_cases a:d=b
    . subst a;exact .inl ⟨_,B,trivial⟩
    . exact .inl ⟨y,am,.refl y⟩
  . rcases u D am with q|⟨i,F,q,_⟩
    . grind
    . simp only[nY,q];exact .inl (.inl ⟨_,B⟩)
  . rcases u D am with q|⟨i,F,q,_⟩
    . grind
    . simp only[nF,q];omega
  grind
 has s:=(by simp[au.aj])
variable{n:Jl}(C:kX P n)(X:kY P n){ν:FB}{Wd:FD}{cs:E8}{g:YB}{γ:Bool}
def Lw(b o:Nat):KP:=#[⟨.cell ⟨b,o,none⟩,false,true⟩,⟨.cell ⟨b,o,none⟩,true,true⟩]
def aab  b o :EvM b o (Lw b o)/\(∀e∈Lw b o,∀m,e.loc≠.mark m)/\∀d,deafBehind d (Lw b o)=d:=by
 refine⟨qk (.inl rfl),λe a m h=>?_,λd=>rfl⟩;simp[Lw]at a
 grind
include C X in
def TO(a:ShM b o w kT)(h:uJ P n b o ν .mE cs g):∃e w',stepG P γ g w=.go e w' (Lw b o)/\MW b o w w'/\ShM b o w' jg/\Next P n b o ν Wd cs .le e:=by
 obtain⟨c,y,fr,j,rfl,k,f,d,rfl⟩:=h;have l:(AU P n b o ν).1.kind≠.early:=by simp[AU,sJ]
 have i:=a.cw;rw[show enc kT.w.L kT.w.K kT.w.S kT.w.N=0 from rfl]at i;exact⟨_,_,lX f (C.o2 b o ν) l X.qe (v:=0) (n:=1) (λx h=>h) (λx h=>h) i (a.fz o),Cn rfl,a.bW {Mu.Wd.zero with L:=true},nxt (C.e2 _ b o ν) k f d rfl (.inl rfl)⟩
include C X in
def TP(i:ShM b o w jg)(h:uJ P n b o ν .held cs g):∃r w' es,stepG P γ g w=.go r w' es/\MW b o w w'/\ShM b o w' kT/\EvM b o es/\(∀e∈es,∀m,e.loc≠.mark m)/\(∀d,deafBehind d es=d)/\Next P n b o ν Wd cs .ue r:=by
 obtain⟨c,y,fr,j,rfl,u,s,k,rfl⟩:=h;have l:({y with N:=0}:Sy).ok:=⟨⟨ap,ap⟩,u.2⟩;have p:=s.re (y':={y with N:=0}) (.inr rfl) (.inl rfl) (.inl rfl) (.inl rfl);have a:=k.lG (y':={y with N:=0}) (by simpa[yn,vI]using(C.p3 b o ν).1);have f:=wv (γ:=γ) (cs:=j++cs) (w:=w) s (C.o24 b o ν) (by simp[yn,vI]) X.add (λx h=>h) i.cw (i.fz _);have e:IntKind.i32.wrap (enc jg.w.L jg.w.K jg.w.S jg.w.N+-1)=enc false false false 0:=be
 rw[e]at f;have q:=i.bW Mu.Wd.zero;have v:SR {y with N:=0} (.word false false false 0) (.int .i32 (enc false false false 0)):=xq rfl;have key:=C.u5 (Fl.of {y with N:=0}) b o ν true false (by rfl);exact⟨_,_,_,f,Cn rfl,q,qk (.inl rfl),(λe t m h=>(by simp at t;rcases t with rfl|rfl<;>cases h)),(λd=>rfl),nxt (y:={y with N:=0}) key l p a v rfl⟩
theorem mX.F7{N Wd a d}(f:∀w,Sat k O w->Wd w){m}:∀{g},n8 P Wd m g a->mX P N k O a d->mX P N k O g d:=by
 induction m with
 |zero=>intro g h i;obtain rfl:g=a:=h;omega
 | succ m l=>
   intro g h i;obtain⟨b,c,n⟩:=h;refine .step (λk' O' g' j=>k=k'/\O=O'/\b=g'/\d=j) c.1 (λw e=>⟨b,w,#[],k,O,c.2 true w (f w e),⟨w,.refl _,e,.inl (.refl ..)⟩,rfl,rfl,rfl,rfl⟩) ?_
   grind
def mX.next{N p c d}(e:∀w,Sat k O w->Wd w)(h:Next P n b o ν Wd cs p c)(f:∀a,uJ P n b o ν p cs a->mX P N k O a d):mX P N k O c d:=by
 obtain⟨_,a,⟨m,g⟩,i⟩:=h
 grind [mX.F7]
variable{N:ZD}
def Km{e}(g:Sat k O w){x}(h:O b=some x)(f:e.loc=.mark (.acquire ⟨b,o,none⟩)\/e.loc=.mark (.releaseMerge ⟨b,o,none⟩)):Eff k O w k O w [e]:=by
 have a:=Eff.refl k O w;have d:=g.AB h;refine⟨a.le,a.size,a.keep,a.tail,a.part,a.shape,a.own,a.cell,a.sh,λx c=>?_,rfl,rfl,rfl,λx c=>?_,a.tok⟩
 . rw[sN]at c;subst c
   rcases f with q|q<;>simp[nY,q,pG]
 . rw[sN]at c;subst c
   rcases f with q|q<;>simp  [nF,q]<;>exact d
def Lk.wd{f}(L:Lk k b o f)  s :∀w,Sat k (f s) w->∃v,w.cell? ⟨b,o,none⟩=some v:=λw a=>⟨_,(L.sat a).cw⟩
include C X in
def Eg(F:sz P n){c μ}(u:ν≠.early){f}(L:Lk k b o f)(x:N k (f jg) (qz ν c μ (.tuple #[]))):mX P N k (f kT) (G (Frame.enter P n.lock #[.pointer (some ⟨b,o,none⟩)] ν) (c::μ)) 0:=by
 have t:=L.wd kT;have e:=L.wd jg;obtain⟨_,r⟩:=L.has jg;obtain⟨q,⟨m,s⟩,a⟩:=yb (P:=P) (n:=n) (b:=b) (o:=o) (ν:=ν) (Wd:=λw=>∃v,w.cell? ⟨b,o,none⟩=some v) (cs:=c::μ) F;refine mX.F7 t s ?_;refine .step (λk' O' g' i=>k=k'/\f kT=O'/\i=1/\Next P n b o ν (λw=>∃v,w.cell? ⟨b,o,none⟩=some v) (c::μ) .mE g') a.running.1 (λw g=>?_) ?_
 . obtain⟨d,j,l⟩:=Hz (γ:=true) (w:=w) C X a
   exact⟨d,w,_,k,f kT,j,⟨w,.refl _,g,.inr ⟨rfl,rfl,rfl,.inl rfl⟩⟩,rfl,rfl,rfl,l⟩
 rintro _ _ d _ ⟨rfl,rfl,rfl,p⟩;refine mX.next t p λq a=>?_
 refine .step (λk' O' g' i=>k=k'/\f jg=O'/\i=1/\Next P n b o ν (λw=>∃v,w.cell? ⟨b,o,none⟩=some v) (c::μ) .le g') a.running.1 (λw g=>?_) ?_
 . obtain⟨d,w',j,l,y,z⟩:=TO (γ:=true) (w:=w) C X (L.sat g) a
   obtain⟨A,B,D⟩:=aab b o;obtain⟨E,H,I,J⟩:=L.eff g l y A B;exact⟨d,w',_,k,_,j,⟨E,H,I,.inl J⟩,rfl,rfl,D 1,z⟩
 rintro _ _ d _ ⟨rfl,rfl,rfl,p⟩;refine mX.next e p λq a=>?_
 refine .step (λk' O' g' i=>k=k'/\f jg=O'/\i=0/\Next P n b o ν (λw=>∃v,w.cell? ⟨b,o,none⟩=some v) (c::μ) .la g') a.running.1 (λw g=>?_) ?_
 . obtain⟨d,j,l⟩:=NR (γ:=true) (w:=w) C X (λw h=>h) a
   exact⟨d,w,_,k,_,j,⟨w,.refl _,g,.inr ⟨rfl,rfl,rfl,.inr rfl⟩⟩,rfl,rfl,rfl,l⟩
 rintro _ _ d _ ⟨rfl,rfl,rfl,p⟩;refine mX.next e p λq a=>?_
 refine .step (λk' O' g' i=>k=k'/\f jg=O'/\i=0/\Next P n b o ν (λw=>∃v,w.cell? ⟨b,o,none⟩=some v) (c::μ) .back g') a.running.1 (λw g=>?_) ?_
 . obtain⟨d,j,l⟩:=NQ (γ:=true) (w:=w) C X a
   exact⟨d,w,_,k,_,j,⟨w,.refl _,g,.inl (Km g r (.inl rfl))⟩,rfl,rfl,rfl,l⟩
 rintro _ _ d _ ⟨rfl,rfl,rfl,p⟩;refine mX.next e p λq a=>?_
 obtain⟨m,s⟩:=zn (Wd:=λw=>∃v,w.cell? ⟨b,o,none⟩=some v) F a u;exact mX.F7 e s (.done x)
include C X in
def z7(F:sz P n){c μ}(t:ν≠.early){f}(L:Lk k b o f)(u:N k (f kT) (qz ν c μ (.tuple #[]))):mX P N k (f jg) (G (Frame.enter P n.unlock #[.pointer (some ⟨b,o,none⟩)] ν) (c::μ)) 0:=by
 have r:=L.wd jg;have p:=L.wd kT;obtain⟨_,x⟩:=L.has jg;obtain⟨q,⟨m,s⟩,a⟩:=vJ (P:=P) (n:=n) (b:=b) (o:=o) (ν:=ν) (Wd:=λw=>∃v,w.cell? ⟨b,o,none⟩=some v) (cs:=c::μ) F;refine mX.F7 r s ?_;refine .step (λk' O' g' g=>k=k'/\f jg=O'/\g=0/\Next P n b o ν (λw=>∃v,w.cell? ⟨b,o,none⟩=some v) (c::μ) .ur g') a.running.1 (λw e=>?_) ?_
 . obtain⟨d,i,j⟩:=Dt (γ:=true) (w:=w) C X (λw h=>h) (L.sat e).cw a
   exact⟨d,w,_,k,f jg,i,⟨w,.refl _,e,.inl (.refl ..)⟩,rfl,rfl,rfl,j⟩
 rintro _ _ d _ ⟨rfl,rfl,rfl,l⟩;refine mX.next r l λq a=>?_
 refine .step (λk' O' g' g=>k=k'/\f jg=O'/\g=0/\Next P n b o ν (λw=>∃v,w.cell? ⟨b,o,none⟩=some v) (c::μ) .ud g') a.running.1 (λw e=>?_) ?_
 . obtain⟨d,i,j⟩:=NP (γ:=true) (w:=w) C X a
   exact⟨d,w,_,k,_,i,⟨w,.refl _,e,.inl (Km e x (.inr rfl))⟩,rfl,rfl,rfl,j⟩
 rintro _ _ d _ ⟨rfl,rfl,rfl,l⟩;refine mX.next r l λq a=>?_
 refine .step (λk' O' g' g=>k=k'/\f jg=O'/\g=1/\Next P n b o ν (λw=>∃v,w.cell? ⟨b,o,none⟩=some v) (c::μ) .held g') a.running.1 (λw e=>?_) ?_
 . obtain⟨d,i,j⟩:=NN (γ:=true) (w:=w) C X a
   exact⟨d,w,_,k,_,i,⟨w,.refl _,e,.inr ⟨rfl,rfl,rfl,.inl rfl⟩⟩,rfl,rfl,rfl,j⟩
 rintro _ _ d _ ⟨rfl,rfl,rfl,l⟩;refine mX.next r l λq a=>?_
 refine .step (λk' O' g' g=>k=k'/\f kT=O'/\g=1/\Next P n b o ν (λw=>∃v,w.cell? ⟨b,o,none⟩=some v) (c::μ) .ue g') a.running.1 (λw e=>?_) ?_
 . obtain⟨d,w',es,i,j,y,z,A,B,D⟩:=TP (γ:=true) (w:=w) C X (L.sat e) a
   obtain⟨E,H,I,J⟩:=L.eff e j y z A;exact⟨d,w',_,k,_,i,⟨E,H,I,.inl J⟩,rfl,rfl,B 1,D⟩
 rintro _ _ d _ ⟨rfl,rfl,rfl,l⟩;refine mX.next p l λq a=>?_
 refine .step (λk' O' g' g=>k=k'/\f kT=O'/\g=0/\Next P n b o ν (λw=>∃v,w.cell? ⟨b,o,none⟩=some v) (c::μ) .Jp g') a.running.1 (λw e=>?_) ?_
 . obtain⟨d,i,j⟩:=HA (γ:=true) (w:=w) C X a
   exact⟨d,w,_,k,_,i,⟨w,.refl _,e,.inr ⟨rfl,rfl,rfl,.inr rfl⟩⟩,rfl,rfl,rfl,j⟩
 rintro _ _ d _ ⟨rfl,rfl,rfl,l⟩;refine mX.next p l λq a=>?_
 obtain⟨m,s⟩:=rB (Wd:=λw=>∃v,w.cell? ⟨b,o,none⟩=some v) F a t;exact mX.F7 p s (.done u)
def Rel.Gx{σ f}(a:Rel k O σ)(h:σ b=some (.part f)):O b=some (.part f):=by
 obtain⟨x,d,c⟩:=a.1 b _ h ap;cases c;omega
def oR(b o:Nat)(a:AV):Prop:=∀k v,V k v a->v=.pointer (some ⟨b,o,none⟩)
theorem xC  b o   l   h :oR b o (.kp b l h o):=λk v a=>by cases a;rfl
def vu  b o :oR b o (.ref b o):=λk v a=>by cases a;rfl
def Vs.one{a c}(h:Vs k c [a]):∃v,c=[v]/\V k v a:=by
 obtain⟨d,b⟩:=h
 match c with
 |[v]=>exact⟨v,rfl,b 0 v a rfl rfl⟩
 |[]=>grind
 |_::_::_=>grind
include C X in
def rDs(F:sz P n){m}(g:m.solo=true){a}(ha:oR b o a){σ KF}(d:σ b=some (.part (dB o)))(h:KF (.val (.cx [])) (σ.set b (.part (Ef o)))):ar P m n.lock [a] σ KF:=by
 intro Q k O e c μ ν j l f p r;obtain⟨v,rfl,q⟩:=l.one;obtain rfl:=ha _ _ q;refine .phase (λk' O' g'=>T P m Q k' O' g') g (λ_ _ _ h=>h) (mX.phase ?_);have L:=Lk.part (k:=k) (b:=b) (o:=o) O;have:=Eg (P:=P) (N:=λk' O' g'=>T P m Q k' O' g') C X F j L (c:=c) (μ:=μ) ?_
 . simp only[Ee]at this
   rwa [au.Ic (f.Gx d)]at this
 exact p k _ (.tuple #[]) (.cx []) _ (.refl k) (.cx _ _ rfl λi v a h=>by simp at h) (f.set (.part _)) h
include C X in
def afV(F:sz P n){m}(j:m.solo=true){a}(ha:oR b o a){σ KF}(d:σ b=some (.part (Ef o)))(h:KF (.val (.cx [])) (σ.set b (.part (dB o)))):ar P m n.unlock [a] σ KF:=by
 intro Q k O f c μ ν l p g q s;obtain⟨v,rfl,r⟩:=p.one;obtain rfl:=ha _ _ r;refine .phase (λk' O' g'=>T P m Q k' O' g') j (λ_ _ _ h=>h) (mX.phase ?_);have L:=Lk.part (k:=k) (b:=b) (o:=o) O;have:=z7 (P:=P) (N:=λk' O' g'=>T P m Q k' O' g') C X F l L (c:=c) (μ:=μ) ?_
 . have e:O.set b (.part (nW o jg))=O:=au.Ic (g.Gx d)
   simp only[e]at this;exact this
 simp only[Ee];exact q k _ (.tuple #[]) (.cx []) _ (.refl k) (.cx _ _ rfl λi v a h=>by simp at h) (g.set (.part _)) h
def Rel.CH{σ l}(d:Rel k O σ)(h:σ b=some (.cells l)):∃c e,O b=some (.obj (.cells c e (0,0)))/\c.size=l.length/\(∀(i:Nat) v a,c[i]?=some v->l[i]?=some a->V k v a)/\∀(i:Nat) v,c[i]?=some v->flat v=true:=by
 obtain⟨x,g,f⟩:=d.1 b _ h ap;cases f with
 |cells c e l j m n=>grind
def Gy{c}{l:We}{e}(m:c.size=l.length)(n:∀(i:Nat) v a,c[i]?=some v->l[i]?=some a->V k v a)(p:∀(i:Nat) v,c[i]?=some v->flat v=true)(j:l[o+1]?=some (.lit (.int .u32 0)))(g:s.ms=0):qf k (.obj (.cells (sd c o s) e (0,0))) (.cells (l.set o (.lit (.int .i32 (enc s.w.L s.w.K s.w.S s.w.N))))):=by
 have b:o+1<c.size:=am
 refine .cells _ _ _ (by grind [se]) (λi v a d ha=>?_) (λi v d=>?_)
 . by_cases f:i=o
   . subst f
     rw[zY b]at d;rw[KC ac]at ha;cases d;cases ha;exact .lit _
   . rw[Fp (vj f)]at ha
     by_cases h:i=o+1
     . subst h
       rw[zZ b,g]at d;rw[j]at ha;cases d;cases ha;exact .lit _
     grind [qX]
 . by_cases f:i=o
   . subst f
     rw[zY b]at d;cases d;rfl
   . by_cases h:i=o+1
     . subst h
       rw[zZ b]at d;cases d;rfl
     grind [qX]
def Eh{c}{l:We}{n}(p:c.size=l.length)(e:∀(i:Nat) v a,c[i]?=some v->l[i]?=some a->V k v a)(f:l[o]?=some (.lit (.int .i32 n)))(g:n=enc s.w.L s.w.K s.w.S s.w.N)(h:l[o+1]?=some (.lit (.int .u32 0)))(d:s.ms=0):sd c o s=c:=by
 have b:o+1<c.size:=am
 apply Mi;intro i;by_cases j:i=o
 . subst j
   rw[zY b,<-g,Ie ac];have:=e i c[i] _ (Ie _) f;generalize c[i]=u at this;cases this;rfl
 . by_cases m:i=o+1
   . subst m
     rw[zZ b,d,Ie b];have:=e _ _ _ (Ie b) h;generalize c[o+1]=u at this;cases this;rfl
   grind [qX]
include C X in
def WC2(F:sz P n){m}(t:m.solo=true){a}(ha:oR b o a){σ KF l}(d:σ b=some (.cells l))(u:l[o]?=some (.lit (.int .i32 0)))(f:l[o+1]?=some (.lit (.int .u32 0)))(h:KF (.val (.cx [])) (σ.set b (.cells (l.set o (.lit (.int .i32 1)))))):ar P m n.lock [a] σ KF:=by
 intro Q k O g c μ ν w x q y G;obtain⟨v,rfl,z⟩:=x.one;obtain rfl:=ha _ _ z;obtain⟨A,B,D,j,r,E⟩:=q.CH d;refine .phase (λk' O' g'=>T P m Q k' O' g') t (λ_ _ _ h=>h) (mX.phase ?_)
 have p:o+1<A.size:=by rw[j];exact(IK.1 f).1
 have L:=Lk.obj (k:=k) (b:=b) (o:=o) O (e:=B) p;have:=Eg (P:=P) (N:=λk' O' g'=>T P m Q k' O' g') C X F w L (c:=c) (μ:=μ) ?_
 . simp only[Eh (s:=kT) j r u rfl f rfl]at this
   rwa [au.Ic D]at this
 exact y k _ (.tuple #[]) (.cx []) _ (.refl k) (.cx _ _ rfl λi v a h=>by simp at h) (q.set (Gy (s:=jg) j r E f rfl)) h
include C X in
def adv(F:sz P n){m}(t:m.solo=true){a}(ha:oR b o a){σ KF l}(d:σ b=some (.cells l))(u:l[o]?=some (.lit (.int .i32 1)))(f:l[o+1]?=some (.lit (.int .u32 0)))(h:KF (.val (.cx [])) (σ.set b (.cells (l.set o (.lit (.int .i32 0)))))):ar P m n.unlock [a] σ KF:=by
 intro Q k O g c μ ν w x q y G;obtain⟨v,rfl,z⟩:=x.one;obtain rfl:=ha _ _ z;obtain⟨A,B,D,j,r,E⟩:=q.CH d;refine .phase (λk' O' g'=>T P m Q k' O' g') t (λ_ _ _ h=>h) (mX.phase ?_)
 have p:o+1<A.size:=by rw[j];exact(IK.1 f).1
 have L:=Lk.obj (k:=k) (b:=b) (o:=o) O (e:=B) p;have:=z7 (P:=P) (N:=λk' O' g'=>T P m Q k' O' g') C X F w L (c:=c) (μ:=μ) ?_
 . simp only[Eh (s:=jg) j r u rfl f rfl]at this
   rwa [au.Ic D]at this
 exact y k _ (.tuple #[]) (.cx []) _ (.refl k) (.cx _ _ rfl λi v a h=>by simp at h) (q.set (Gy (s:=kT) j r E f rfl)) h
def Rel.del{σ}(h:Rel k O σ)  r :Rel k (O.del r) (σ.del r):=⟨λb a e c=>by
 by_cases hb:b=r
 . subst hb;simp[af.del]at e
 . simp  [af.del,hb]at e
   obtain⟨x,d,f⟩:=h.1 b a e c;exact⟨x,by simp[au.del,hb,d],f⟩,λb a e c=>by
 by_cases hb:b=r
 . subst hb;simp[af.del]at e
 . simp  [af.del,hb]at e
   obtain⟨d,f⟩:=h.2 b a e c;exact⟨by simp[au.del,d],f⟩⟩
def Rel.mC{σ}(h:Rel k O σ)  r  (d:∃s,k.sh r=some s):Rel k (O.del r) (σ.set r .mC):=⟨λb a e c=>by
 by_cases hb:b=r
 . subst hb;simp  at e;subst e;cases c
 . simp  [af.set,hb]at e
   obtain⟨x,f,g⟩:=h.1 b a e c;exact⟨x,by simp[au.del,hb,f],g⟩,λb a e c=>by
 by_cases hb:b=r
 . subst hb;simp  at e;exact⟨by simp[au.del],d,am⟩
 . simp  [af.set,hb]at e
   obtain⟨f,g⟩:=h.2 b a e c;exact⟨by simp[au.del,f],g⟩⟩
def T.sat{m Q}(a:g.status=.running)(h:(∃w,Sat k O w)->T P m Q k O g):T P m Q k O g:=by
 by_cases b:∃w,Sat k O w
 . grind
 . exact .step (λ_ _ _=>False) a am λw c=>absurd ⟨w,c⟩ b
variable{A:dq}{j:Nat}
def f1'(hd:A.dir=false){a}(ha:oR A.fb A.fo a){σ KF}(d:σ A.fb=some .mC)(h:∀x,A.GI x->(∀y,σ A.mb=some y->y.gone=true)->KF (.val (.cx [])) ((σ.set A.mb x).set A.fb (.part Tf))):ar P (mT P A j) A.nm.lock [a] σ KF:=by
 intro Q k O g c μ ν o p i q B;obtain⟨v,rfl,r⟩:=p.one;obtain rfl:=ha _ _ r;obtain⟨s,⟨e,t⟩,_⟩:=i.2 _ _ d rfl;refine .fY (λk' O' g'=>T P (mT P A j) Q k' O' g') rfl (.inl ⟨ν,c,μ,e,o,rfl,s,t,am,λk' x y f b l m u w=>?_⟩) am;rw[show f=Tf by simpa[dq.Tk,hd]using w];refine q k' _ _ _ _ b (.cx _ _ rfl am) (((i.mono b).set l).set (.part _)) (h y m λz hz=>?_);cases n:z.gone with
 |true=>rfl
 | false=>
   obtain⟨C,D,_⟩:=i.1 _ z hz n
   grind
def afP(hd:A.dir=false){a}(ha:oR A.fb A.fo a){σ KF f y}(b:σ A.fb=some (.part f))(n:σ A.mb=some y)(o:A.GI y)(d:y.gone=false)(h:KF (.val (.cx [])) ((σ.del A.mb).set A.fb .mC)):ar P (mT P A j) A.nm.unlock [a] σ KF:=by
 intro Q k O e c μ ν p q g r z;obtain⟨v,rfl,s⟩:=q.one;obtain rfl:=ha _ _ s;obtain⟨x,t,i⟩:=g.1 _ _ n d;have m:=g.Gx b;refine T.sat rfl λ⟨w,u⟩=>?_
 obtain⟨B,C,_,l,_⟩:=u.part _ _ m;refine .fY (λk' O' g'=>T P (mT P A j) Q k' O' g') rfl (.inr (.inl ⟨ν,c,μ,f,x,y,p,rfl,m,t,i,o,am,?_⟩)) am;rw[show Lt P A _=λk' O' g'=>T P (mT P A j) Q k' O' g' by simp[Lt,hd]];exact r k _ _ _ _ (.refl k) (.cx _ _ rfl am) ((g.del A.mb).mC A.fb ⟨_,l⟩) h
end
section
variable{P:Rg}(L:lz P){o:Oper}{ε:Env}{σ:af}{K:CU}{Kp:CU}
def Gz{i d e}(h:iA P i d=true)(a:i.kind=.chan e):∃dir,d=.chan dir e:=by cases d<;>simp_all [iA]
def afO{t e:Nat}{x i h kd n}(l:o.op=.makeChan t x)(ht:L.tt t=some i)(m:i.kind=.chan e)(p:L.tt e=some h)(q:aA ε x=.lit (.int kd n))(y:0<=n/\n<=1000000/\h.bytes<=1000000)
 (u:∀b,σ b=none->K (.chan b) (σ.set b (.raw (.chan n.toNat #[] false 0 0 false)))):bt P o ε σ K Kp:=
 bt.val (s:=λf=>Instr.makeChan t (f x)) (λf=>by simp[execOp,l]) λk O f v j=>by
  have c:=v x aq
  rw[q]at c;rw[ga c];refine ag (an ?_);refine ag (aY L ht λd _ hd=>?_)
  obtain⟨dir,rfl⟩:=Gz hd m;refine ag (fB L p λinfo _ _ hb _=>?_)
  have w:((info.bytes:Int)*n)<=1000000*1000000:=by exact MF ac ac ac ac
  have g:¬(n<0\/n>IntKind.i64.max\/(info.bytes:Int)*n>2 ^ 48-112):=by have:IntKind.i64.max=9223372036854775807:=rfl;omega
  rw[wN g];refine ag  ⟨rfl,λr a=>an ?_⟩
  exact .here ⟨.made a.2.2,_,_,.chan r,(j.mono (.made a.2.2)).set (.raw _ rfl),u r (j.isNone a.1 a.2.2)⟩
end
def Ei(P:Rg)(d:Deferred):YB:=G {(default:Frame)with fn:=P.funcs.size,defers:=[d],mode:=.panicking [goexitEntry]} []
def GA:Item->Bool
 |.inRegion _ []=>true
 |.inBlock _=>true
 |.inScope _=>true
 |.code .skip=>true
 |.code .ret=>true
 |_=>false
def Ej{P f fn τ}(b:P.funcs[f]?=some fn)(d:fn.results=#[]):∀  todo ,todo.all GA=true->∃n,QuitsD P n 0 (G ⟨f,τ,todo,[],.run,.deferred,none⟩ [fy P])
 |[],_=>⟨_,.ctl rfl (λw=>by simp[G,stepG,stepG.exec,qo]) (AX b d (todo:=[]) (τ:=τ))⟩
 | i ::k,h=>by
   simp only[IN,vc]at h;obtain⟨n,e⟩:=Ej (τ:=τ) b d k h.2;by_cases a:i=.code .ret
   . subst a
     exact⟨_,.ctl rfl (λw=>by simp[G,stepG,stepG.exec,qo]) (AX b d (todo:=.code .ret::k) (τ:=τ))⟩
   . refine⟨_,.ctl rfl (λw=>?_) e⟩
     cases i with
     |code c=>cases c<;>first|(exact absurd rfl a)|(simp[GA]at h;done)|simp[G,stepG,stepG.exec]
     |inRegion ο l=>cases l<;>first|(simp[GA]at h;done)|simp[G,stepG,stepG.exec]
     |_=>first|(simp[GA]at h;done)|simp[G,stepG,stepG.exec]
section
variable{P:Rg}{φ n:Nat}{ro:Dm}{s:St}{k:AJ}{K:Ci}{A:dq}{Fin:ZD}
def CY.none{m Q ν cs a}:CY P m Q φ n ro ν cs (λ_ _=>False) a:=⟨am,am⟩
def Ek{fn}:seen P fn #[]=#[]:=rfl
def WA2{fr cs x w cases b sh}(h:x.runT P w #[]=(.ok (.comm cases b sh) w,#[])):stepG.apply P true fr cs none x w=.comm (G fr cs) cases b sh w #[]:=by simp only[stepG.apply,ZC,h,ite_self,Ek];rfl
def afM{fr cs x w f cap args}(h:x.runT P w #[]=(.ok (.spawn {target:=.fn f cap,args}) w,#[])):stepG.apply P true fr cs none x w=.spawn (G (fr.finish undef) cs) (Ei P {target:=.fn f cap,args}) w #[]:=by simp only[stepG.apply,ZC,h,ite_self,Ek,GStep.after];simp[Ei,G]
def El{b:Bool}{ο i μ o ch x τ ξ ν cs}{m:Mo}{ε d c}(r:ο[i]?=some o)(f:o.op=.send ch x)(p:τ.size=n)(q:kz d τ ε)(s:dC ο n ε o)
 (g:Oper.ok n o=true) (h:aA ε ch=.chan c)  w :
 ∃ v,V d v (aA ε x)/\stepG P m.main (G ⟨φ,τ,.inRegion ο (i::μ)::k,ξ,.run,ν,ro⟩ cs) w=.comm (G ⟨φ,τ,.inRegion ο (i::μ)::k,ξ,.run,ν,ro⟩ cs) #[scase c v (.tuple #[])] true .send w #[]/\
   v=Frame.eval ⟨φ,τ,.inRegion ο (i::μ)::k,ξ,.run,ν,ro⟩ x:=by
 have a:∀y∈o.op.operands,V d (Frame.eval ⟨φ,τ,.inRegion ο (i::μ)::k,ξ,.run,ν,ro⟩ y) _:=λy z=>by
  refine V.eval q p y ?_;simp only[Oper.ok,vc,HV]at g
  grind
 have j:=a ch aq;have t:=a x aq;rw[h]at j;generalize u:Frame.eval _ ch=A at j;cases j;refine⟨_,t,?_,rfl⟩;rw[iI r (lU p q s) (.inr λc e=>aq) w];have l:execOp (Frame.eval ⟨φ,τ,.inRegion ο (i::μ)::k,ξ,.run,ν,ro⟩) o=pure (.comm #[scase c (Frame.eval ⟨φ,τ,.inRegion ο (i::μ)::k,ξ,.run,ν,ro⟩ x) (.tuple #[])] true .send):=by simp[execOp,f,u,scase]
 rw[l];by_cases B:(ν==CallKind.early)=true<;>simp[stepG.apply,seen,GStep.after,G]
def ajc{α}{f:TypeDesc->Sem α}{t d w es}(h:P.underlying t=some d):(underlying t >>=f).runT P w es=(f d).runT P w es:=by
 unfold underlying
 simp_all
def ajm{α}{f:Value->Sem α}{t info z w es}(h:P.info? t=some info)(hz:info.zero=some z):(zeroValue t >>=f).runT P w es=(f z).runT P w es:=by
 unfold zeroValue typeInfo
 simp_all
def En(L:lz P){ok ο i μ o ct ce v a ch τ ξ ν cs}{m:Mo}{ε x c}(A:ο[i]?=some o)(b:o.op=.recv ct ch ok)(f:L.tt ct=some v)(g:v.kind=.chan ce)(h:L.tt ce=some a)
 (y:τ.size=n) (z:kz x τ ε) (B:dC ο n ε o) (j:Oper.ok n o=true) (l:aA ε ch=.chan c)  w :
 stepG P m.main (G ⟨φ,τ,.inRegion ο (i::μ)::k,ξ,.run,ν,ro⟩ cs) w=.comm (G ⟨φ,τ,.inRegion ο (i::μ)::k,ξ,.run,ν,ro⟩ cs) #[rcase c a.zero] true (.recv ok) w #[]:=by
 have p:V x (Frame.eval ⟨φ,τ,.inRegion ο (i::μ)::k,ξ,.run,ν,ro⟩ ch) (aA ε ch):=by
  refine V.eval z y ch ?_;simp only[Oper.ok,vc,HV]at j
  simp_all
 rw[l]at p;generalize C:Frame.eval _ ch=D at p;cases p;rw[iI A (lU y z B) (.inr λc e=>aq) w]
 obtain⟨⟨d,q,r⟩,_⟩:=L.facts f;obtain⟨dir,rfl⟩:=Gz r g;obtain⟨_,info,s,_,_,t,_⟩:=L.facts h
 have u:(execOp (Frame.eval ⟨φ,τ,.inRegion ο (i::μ)::k,ξ,.run,ν,ro⟩) o).runT P w #[]=(.ok (.comm #[rcase c a.zero] true (.recv ok)) w,#[]):=by simp only[execOp,b,C];rw[ajc q];rw[ajm s t];rfl
 exact WA2 u
def Kt{ο i μ o fo args h f first cap τ ξ ν cs}{m:Mo}{ε d}(z:ο[i]?=some o)(j:o.op=.go ⟨.value fo,args,h⟩)
 (r:τ.size=n) (s:kz d τ ε) (A:dC ο n ε o) (l:Oper.ok n o=true) (p:aA ε fo=.fn f first cap):
 ∃ t u,Vs d t cap/\Vs d u (first++args.toList.map (aA ε))/\∀w,stepG P m.main (G ⟨φ,τ,.inRegion ο (i::μ)::k,ξ,.run,ν,ro⟩ cs) w=
   .spawn (G (Frame.finish ⟨φ,τ,.inRegion ο (i::μ)::k,ξ,.run,ν,ro⟩ undef) cs) (Ei P {target:=.fn f t.toArray,args:=u.toArray}) w #[]:=by
 have b:∀x∈o.op.operands,V d (Frame.eval ⟨φ,τ,.inRegion ο (i::μ)::k,ξ,.run,ν,ro⟩ x) (aA ε x):=λx B=>by
  refine V.eval s r x ?_;simp only[Oper.ok,vc,HV]at l
  grind
 have q:=b fo aq;rw[p]at q;generalize C:Frame.eval _ fo=cf at q;cases q with
 | fn _ g y I J K L M D=>
   have E:=Vs.ofArray (k:=d) (ρ:=Frame.eval ⟨φ,τ,.inRegion ο (i::μ)::k,ξ,.run,ν,ro⟩) (ε:=ε) (xs:=args) (λx B=>b x aq);refine⟨y.toList,g.toList++(args.map (Frame.eval ⟨φ,τ,.inRegion ο (i::μ)::k,ξ,.run,ν,ro⟩)).toList,⟨ac,λi v a F ha=>D i v a am ha⟩,Vs.append ⟨ac,am⟩ ⟨am,λi v a F ha=>E.2 i v a am ha⟩,λw=>?_⟩;rw[iI z (lU r s A) (.inr λc e=>aq) w];refine(afM (f:=f) (cap:=y) (args:=g++args.map (Frame.eval ⟨φ,τ,.inRegion ο (i::μ)::k,ξ,.run,ν,ro⟩)) ?_).trans ?_
   . simp only[execOp,j,resolve,C,Deferred.ofValue]
     rfl
   . have H:∀x:E7,(g.toList++x.toList).toArray=g++x:=am
     rw[H,Array.toArray_toList]
def MB{m Q kk O τ ξ ν cs f fn ο i μ o args b}(l:ο[i]?=some o)(c:o.op=.call ⟨.value (.func f),args,b⟩)(p:dC ο n s.env o)(d:Oper.ok n o=true)
 (q:P.funcs[f]?=some fn) (hb:fn.body.isSome=true) (e:(fn.name==  "runtime.NumGoroutine")=false) (a:IT n kk O τ ξ ν cs s)
 (h:∀cargs,Vs kk cargs (args.toList.map (aA s.env))->T P m Q kk O (G (Frame.enter P f cargs.toArray .normal) (⟨φ,τ,.inRegion ο (i::μ)::k,ξ,.run,ν,ro⟩::oV s.rc cs))):T P m Q kk O (G ⟨φ,τ,.inRegion ο (i::μ)::k,ξ,.run,ν,ro⟩ (oV s.rc cs)):=by
 refine T.uL (λw=>iI l (lU a.size a.env p) am w) (iB ?_)
 have j:∀x∈o.op.operands,V kk (Frame.eval ⟨φ,τ,.inRegion ο (i::μ)::k,ξ,.run,ν,ro⟩ x) (aA s.env x):=λx r=>by
  refine V.eval a.env a.size x ?_;simp only[Oper.ok,vc,HV]at d
  grind
 have t:=Vs.ofArray (k:=kk) (ρ:=Frame.eval ⟨φ,τ,.inRegion ο (i::μ)::k,ξ,.run,ν,ro⟩) (ε:=s.env) (xs:=args) aq
 have g:fn.body.isNone=false:=by cases r:fn.body<;>simp_all
 simp only[execOp,c,resolve];refine ag ?_;refine ag (cO ?_);rw[q];simp only[e,g,zA,LK];refine an λ_=>⟨am,?_⟩
 have:=h (args.map (Frame.eval ⟨φ,τ,.inRegion ο (i::μ)::k,ξ,.run,ν,ro⟩)).toList ⟨am,am⟩
 have key:∀x:E7,x=(args.map (Frame.eval ⟨φ,τ,.inRegion ο (i::μ)::k,ξ,.run,ν,ro⟩)).toList.toArray->T P m Q kk O (G (Frame.enter P f x .normal) (⟨φ,τ,.inRegion ο (i::μ)::k,ξ,.run,ν,ro⟩::oV s.rc cs)):=am
 grind
def yd(P:Rg)(m:Mo)(φ n:Nat)(ro:Dm)(K:Ci)(kd:FB)(a:E8)(b:az)(Fin:ZD):Prop:=∀todo s k' O' τ ξ,Go P m φ n ro todo s K->s.rc=.no->IT n k' O' τ ξ kd a s->b.Le k'->Fin k' O' (G ⟨φ,τ,todo,ξ,.run,kd,ro⟩ a)
def Go.TR{m ο i μ o args f fn}(t:ο[i]?=some o)(g:o.op=.call ⟨.value (.func A.ng.add),args,f⟩)(w:dC ο n s.env o)(j:Oper.ok n o=true)
 (z:P.funcs[A.ng.add]?=some fn) (hb:fn.body.isSome=true) (l:(fn.name==  "runtime.NumGoroutine")=false) (ha:args.toList.map (aA s.env)=[.ref A.gb 0,.lit (.int .i64 1)])
 (h:Go P (N8 P A Fin m) φ n ro (.inRegion ο μ::k) {s with env:=cG s.env o.dst (.cx [])} (λ_ _=>False)):Go P (vN P A Fin (m+1)) φ n ro (.inRegion ο (i::μ)::k) s K:=by
 intro Q p O τ ξ ν cs q r F;refine MB t g w j z hb l r λb u=>?_
 rw[ha]at u;obtain⟨B,c⟩:=u
 have e:b.toArray=#[.pointer (some ⟨A.gb,0,none⟩),.int .i64 1]:=by
  match b,B,c with
  |[x,y],_,c=>have C:=c 0 x _ rfl rfl;have q:=c 1 y _ rfl rfl;cases C;cases q;rfl
 rw[e];refine .fY lR rfl ⟨rfl,_,_,rfl,?_⟩ (λ_ _ _ h=>h.elim);obtain⟨d,D,E⟩:=r.put      (v:=.tuple #[]) (a:=.cx []) (.refl p) t (.cx _ _ rfl am) r.rel;show T P _ lR p O (G _ _);rw[D];exact h lR p O d ξ ν cs q E .none
def o0(b:Nat):af:=λc=>if c=b then some .mC else none
def Ol{m}{f:FuncId}{fn body cap args σ0}{k:az->Ci}(n:P.funcs[f]?=some fn)(hb:fn.body=some body)(o:(fn.name==  "runtime.NumGoroutine")=false)(q:(args++cap).length<=fn.ntmps){kk}(d:Rel kk au.bot σ0)
 (p:CY P m lR f fn.ntmps none .deferred [fy P] (k kk) kk)
 (h:∀l,Go P m f fn.ntmps none [.code body] ⟨fR (args++cap),σ0,[],.told .deferred [fy P] l⟩ (k l)){b c}(g:Vs kk b cap) (i:Vs kk c args):
 T P m lR kk au.bot (Ei P {target:=.fn (.func f) b.toArray,args:=c.toArray}):=by
 have hinv:∀w,(invoke (.fn (.func f) b.toArray) c.toArray).runT P w #[]=(.ok (.enter f (c++b).toArray) w,#[]):=λw=>by
  show Sem.runT P (callFunc f _) w #[]=_;unfold callFunc
  simp_all
 refine T.fZ (g':=G (Frame.enter P f (c++b).toArray .deferred) [fy P]) rfl (λw=>?_) ?_
 . simp only[Ei,G,stepG,unwind,callDeferred,hinv]
   rfl
 . have a:=i.append g
   have e:Frame.enter P f (c++b).toArray .deferred=⟨f,(c++b).toArray++Array.replicate (fn.ntmps-(c++b).length) undef,[.code body],[],.run,.deferred,none⟩:=by simp[Frame.enter,n,hb]
   have j:((c++b).toArray++Array.replicate (fn.ntmps-(c++b).length) undef).size=fn.ntmps:=by
    have:=a.1
    grind
   rw[e];exact h kk lR kk au.bot _ [] .deferred [fy P] ap ⟨j,AI a _,d,trivial,rfl,rfl,.refl kk⟩ p
def PA(P:Rg)(A:dq)(fn:Func):Ci:=λe s=>fn.results=#[]/\(e=.leave none\/e=.leave (some .ret))/\(∃a,s.rc=.told .deferred [fy P] a)/\∃r,s.D=[.mark r,.call (.func A.ng.done) [] [.ref A.gb 0]]/\s.σ r=some (.raw (.deferred (some [])))
def akx{f:FuncId}{fn fd}(hf:P.funcs[f]?=some fn)(d:P.funcs[A.ng.done]?=some fd)(y:fd.body.isSome=true)(a:(fd.name==  "runtime.NumGoroutine")=false){kk}:CY P (rZ P A) lR f fn.ntmps none .deferred [fy P] (PA P A fn) kk where
 leave k' O' τ ξ s todo n hle hs z e:=by
  obtain⟨b,H,⟨I,c⟩,r,o,p⟩:=e;obtain⟨ε,σ,D,rc⟩:=s;simp only at c o p;subst c o;show T P (rZ P A) lR k' O' (G ⟨f,τ,todo,ξ,.run,.deferred,none⟩ [fy P]);have g:=hs.ds
  match ξ,g with
  | [d1,d2],⟨q,t,_⟩=>
    simp only[AF]at q t;obtain⟨B,C,rfl,i,j⟩:=t;subst q;have e1:B=#[]:=by have:=i.1;grind
    have e2:C=#[.pointer (some ⟨A.gb,0,none⟩)]:=by
     obtain⟨v,J,k⟩:=Vs.one j;cases k
     grind
    subst e1 e2;refine T.fZ (g':=G ⟨f,τ,todo,[{target:=.collected r,args:=#[]},{target:=.fn (.func A.ng.done) #[],args:=#[.pointer (some ⟨A.gb,0,none⟩)]}],.returning,.deferred,none⟩ [fy P]) rfl (λw=>?_) ?_
    . rcases z with⟨rfl,rfl⟩|⟨kk,rfl,rfl⟩|⟨_,_,_,_,rfl⟩
      . simp[G,stepG,stepG.exec]
      . simp[G,stepG,stepG.exec]
      grind
    . refine T.I6 (φ:=f) (s:=Instr.takeDeferred r) rfl (K:=λcalls u E=>calls=[]/\u=k') (nxt:=λcalls w=>.go (G ⟨f,τ,todo,calls++[{target:=.fn (.func A.ng.done) #[],args:=#[.pointer (some ⟨A.gb,0,none⟩)]}],.returning,.deferred,none⟩ [fy P]) w) ?_ ?_ ?_
      . rintro calls u E w' _ _ ⟨rfl,rfl⟩
        refine⟨_,rfl,?_⟩
        have hinv:∀w,(invoke (.fn (.func A.ng.done) #[]) #[.pointer (some ⟨A.gb,0,none⟩)]).runT P w #[]=(.ok (.enter A.ng.done #[.pointer (some ⟨A.gb,0,none⟩)]) w,#[]):=λw=>by
         show Sem.runT P (callFunc A.ng.done _) w #[]=_;unfold callFunc;have l:fd.body.isNone=false:=aq
         rw[od,d];simp only[a,l,zA,LK];simp
        refine T.fZ (g':=G (Frame.enter P A.ng.done #[.pointer (some ⟨A.gb,0,none⟩)] .deferred) [qo P f τ todo,fy P]) rfl (λw=>?_) ?_
        . simp only[G,stepG,unwind,callDeferred,hinv,List.nil_append]
          simp;rfl
        . exact .fY lR rfl ⟨rfl,f,fn,τ,todo,hf,b,rfl⟩ (λ_ _ _ h=>h.elim)
      . simp only[G,stepG,unwind]
        grind
      . obtain⟨x,hx,m⟩:=hs.rel.1 r _ p ap
        cases m with
        |raw _ hc=>refine ag (s:=getObj r) ⟨_,hx,rfl,?_⟩;exact ag (s:=setObj r _) ⟨⟨_,hx,rfl⟩,rfl,an ⟨rfl,rfl⟩⟩
 panic k' O' τ ξ s todo L M hle hs F e:=by obtain⟨_,h|h,_⟩:=e<;>cases h
def Ku{kk O σ b}(d:Rel kk O σ)(h:σ b=some .mC):Rel kk au.bot (o0 b):=by
 refine⟨λc a e f=>?_,λc a e _=>?_⟩
 . unfold o0 at e
   split at e
   . cases e;cases f
   grind
 . unfold o0 at e
   split at e
   . next q=>subst q;exact⟨rfl,(d.2 _ _ h rfl).2.1,am⟩
   grind
def Go.OQ{m u ο i μ o fo args c f fn body first cap}(v:ο[i]?=some o)(d:o.op=.go ⟨.value fo,args,c⟩)(x:dC ο n s.env o)(e:Oper.ok n o=true)
 (g:aA s.env fo=.fn (.func f) first cap) (y:P.funcs[f]?=some fn) (hb:fn.body=some body) (j:(fn.name==  "runtime.NumGoroutine")=false) (z:((first++args.toList.map (aA s.env))++cap).length<=fn.ntmps) (l:s.σ A.fb=some .mC) (p:∀kk,CY P (mT P A (A.n-(m+1))) lR f fn.ntmps none .deferred [fy P] u kk)
 (B:∀C,Go P (mT P A (A.n-(m+1))) f fn.ntmps none [.code body] ⟨fR ((first++args.toList.map (aA s.env))++cap),o0 A.fb,[],.told .deferred [fy P] C⟩ u)
 (h:Go P (vN P A Fin m) φ n ro (.inRegion ο μ::k) {s with env:=cG s.env o.dst .eT} (λ_ _=>False)):Go P (N8 P A Fin m) φ n ro (.inRegion ο (i::μ)::k) s K:=by
 intro Q kk O τ ξ ν cs D b G;obtain⟨H,I,q,r,t⟩:=Kt         (m:=N8 P A Fin m) v d b.size b.env x e g;obtain⟨a,E,F⟩:=b.put      (.refl kk) v (.eT undef) b.rel;refine .fY lR rfl ⟨rfl,_,_,λw _=>t w,Ol  y hb j z (Ku b.rel l) (p _) B q r,?_⟩ (λ_ _ _ h=>h.elim);rw[E];exact h lR kk O a ξ ν cs D F .none
def Go.goC(u:A.dir=false){ο i μ o fo args c f fn body first cap}(v:ο[i]?=some o)(d:o.op=.go ⟨.value fo,args,c⟩)(y:dC ο n s.env o)(e:Oper.ok n o=true)
 (g:aA s.env fo=.fn (.func f) first cap) (z:P.funcs[f]?=some fn) (hb:fn.body=some body) (j:(fn.name==  "runtime.NumGoroutine")=false) (B:((first++args.toList.map (aA s.env))++cap).length<=fn.ntmps) (l:s.σ A.fb=some .mC)
 (C:∀D,Go P (DN P A) f fn.ntmps none [.code body] ⟨fR ((first++args.toList.map (aA s.env))++cap),o0 A.fb,[],.told .deferred [fy P] D⟩ (λ_ _=>False))
 (h:Go P (yA P A Fin A.n (List.range A.n)) φ n ro (.inRegion ο μ::k) {s with env:=cG s.env o.dst .eT} (λ_ _=>False)):Go P (vN P A Fin 0) φ n ro (.inRegion ο (i::μ)::k) s K:=by
 intro Q x O τ ξ ν cs E b H;obtain⟨I,J,p,q,r⟩:=Kt         (m:=vN P A Fin 0) v d b.size b.env y e g;obtain⟨a,F,G⟩:=b.put      (.refl x) v (.eT undef) b.rel;have t:vN P A Fin 0=_:=wN aq;rw[t];refine .fY lR rfl ⟨rfl,_,_,λw _=>by have:=r w;exact this,Ol  z hb j B (Ku b.rel l) .none C p q,?_⟩ (λ_ _ _ h=>h.elim);rw[F];exact h lR x O a ξ ν cs E G .none
def Go.TS(f:A.dir=false){j ο i μ o ch x fn fd D}(r:ο[i]?=some o)(g:o.op=.send ch x)(l:Oper.ok n o=true)(C:dC ο n s.env o)(p:aA s.env ch=.chan A.cF)(L:aA s.env x=A.res j)
 (t:s.σ A.fb=some .mC) (u:s.rc=.told .deferred [fy P] D) (y:ro=none) (E:P.funcs[φ]?=some fn) (F:n=fn.ntmps) (z:P.funcs[A.ng.done]?=some fd) (B:fd.body.isSome=true) (q:(fd.name==  "runtime.NumGoroutine")=false)
 (h:Go P (rZ P A) φ n ro (.inRegion ο μ::k) {s with env:=cG s.env o.dst (.lit undef)} (PA P A fn)):Go P (mT P A j) φ n ro (.inRegion ο (i::μ)::k) s K:=by
 intro Q kk O τ ξ ν cs H a M;have c:=a.rc;rw[u]at c;obtain⟨rfl,rfl,I⟩:=c;subst y F;obtain⟨d,N,J⟩:=a.put (φ:=φ) (ro:=none) (μ:=μ) (kk:=k)  (.refl kk) r (.lit undef) a.rel;have ht:=h lR kk O d ξ .deferred [fy P] H J (akx E z B q);refine .fY lR rfl (.inr (.inr ⟨f,rfl,(a.rel.2 _ _ t rfl).1,G ⟨φ,τ,.inRegion ο (i::μ)::k,ξ,.run,.deferred,none⟩ (oV s.rc [fy P]),.tuple #[],Frame.eval ⟨φ,τ,.inRegion ο (i::μ)::k,ξ,.run,.deferred,none⟩ x,λw _=>?_,?_,?_⟩)) (λ_ _ _ h=>h.elim)
 . obtain⟨v,_,e,rfl⟩:=El  (m:=mT P A j) (b:=false) r g a.size a.env C l p w
   exact e
 . obtain⟨v,R,_,rfl⟩:=El (P:=P) (m:=mT P A j) (b:=false) r g a.size a.env C l p default (φ:=φ) (ro:=none) (k:=k) (μ:=μ) (ξ:=ξ) (ν:=.deferred) (cs:=oV s.rc [fy P])
   grind
 . show T P _ lR kk O (G (Frame.finish ⟨φ,τ,.inRegion ο _::k,ξ,.run,.deferred,none⟩ undef) (oV s.rc [fy P]))
   grind
def Go.TU{ο i μ o args d fn}(p:ο[i]?=some o)(e:o.op=.call ⟨.value (.func A.ng.wait),args,d⟩)(r:dC ο n s.env o)(f:Oper.ok n o=true)
 (t:P.funcs[A.ng.wait]?=some fn) (hb:fn.body.isSome=true) (g:(fn.name==  "runtime.NumGoroutine")=false) (ha:args.toList.map (aA s.env)=[.ref A.gb 0])
 (h:Go P (zJ P A) φ n ro (.inRegion ο μ::k) {s with env:=cG s.env o.dst (.cx [])} (λ_ _=>False)):Go P (DN P A) φ n ro (.inRegion ο (i::μ)::k) s K:=by
 intro Q y O τ ξ ν cs u j z;refine MB p e r f t hb g j λl q=>?_
 rw[ha]at q;obtain⟨v,rfl,m⟩:=Vs.one q;cases m;refine .fY lR rfl ⟨rfl,_,_,rfl,λk' c=>?_⟩ (λ_ _ _ h=>h.elim);obtain⟨b,w,x⟩:=j.put      (v:=.tuple #[]) (a:=.cx []) c p (.cx _ _ rfl am) (j.rel.mono c);show T P _ lR k' O (G _ _);rw[w];exact h lR k' O b ξ ν cs u x .none
theorem aiA{c s r tm w a ty cs}(h:w.heap[c]?=some (.chan 0 #[] false s r tm)):
 (invoke (.builtin .close a ty cs) #[.chan (some c)]).runT P w #[]=(.ok (.value (.tuple #[])) {w with heap:=w.heap.setIfInBounds c (.chan 0 #[] true s r tm)},#[⟨.obj c,false,true⟩,⟨.obj c,true,true⟩]):=by
 change Sem.runT P (Sem.getObj c _) w #[]=_;rw[Sem.runT,h];change Sem.runT P (Sem.setObj c _ _) w _=_;rw[Sem.runT,h];rfl
def afL{fr cs x w w' v es}(a:(fr.kind==.early)=false)(h:x.runT P w #[]=(.ok (.value v) w',es))(b:seen P fr.fn es=es):stepG.apply P true fr cs none x w=.go (G (fr.finish v) cs) w' es:=by simp only[stepG.apply,h,a,GStep.after];simp[b,G]
def Go.MD{ο i μ o ch e fn x}(f:ο[i]?=some o)(g:o.op=.call ⟨.builtin .close,#[ch],e⟩)(j:Oper.ok n o=true)(y:o.guard=none)(d:aA s.env ch=.chan A.cF)
 (l:s.rc=.told .deferred [fy P] x) (z:s.D=[]) (p:ro=none) (B:P.funcs[φ]?=some fn) (C:fn.results=#[]) (E:(Item.inRegion ο μ::k).all GA=true):Go P (zJ P A) φ n ro (.inRegion ο (i::μ)::k) s K:=by
 intro Q kk O τ ξ ν cs J c L;obtain⟨ε,σ,D,rc⟩:=s;subst l;subst z;subst p;obtain⟨rfl,rfl,F⟩:=c.rc;have a:ξ=[]:=by cases ξ with|nil=>rfl|cons _ _=>exact c.ds.elim
 subst a;obtain⟨b,M,R⟩:=c.put (φ:=φ) (ro:=none) (μ:=μ) (kk:=k) (σ':=σ) (v:=.tuple #[]) (.refl kk) f (.eT _) c.rel;obtain⟨N,S⟩:=Ej (τ:=b) B C _ E
 have q:V kk (Frame.eval ⟨φ,τ,.inRegion ο (i::μ)::k,[],.run,.deferred,none⟩ ch) (aA ε ch):=by
  refine V.eval c.env c.size ch ?_;simp only[Oper.ok,vc,HV]at j
  simp_all
 rw[d]at q;generalize H:Frame.eval ⟨φ,τ,.inRegion ο (i::μ)::k,[],.run,.deferred,none⟩ ch=T at q;cases q;refine .fY lR rfl ⟨rfl,G (Frame.finish ⟨φ,τ,.inRegion ο (i::μ)::k,[],.run,.deferred,none⟩ (.tuple #[])) [fy P],N,?_,λw s r I U d=>?_,?_⟩ (λ_ _ _ h=>h.elim)
 . simp[mayWake,G,oV,f,g]
 . have t:Region.wanted o (yielded ο τ)=true:=by simp[Region.wanted,y]
   have u:(execOp (Frame.eval ⟨φ,τ,.inRegion ο (i::μ)::k,[],.run,.deferred,none⟩) o).runT P w #[]=(.ok (.value (.tuple #[])) {w with heap:=w.heap.setIfInBounds A.cF (.chan 0 #[] true s r I)},#[⟨.obj A.cF,false,true⟩,⟨.obj A.cF,true,true⟩]):=by
    simp only[execOp,resolve]
    grind [aiA]
   refine(iI (m:=zJ P A) f t (.inl rfl) w).trans ?_;exact afL ap u (by simp[seen])
 grind
def Go.Om(L:lz P){m R ο i μ o ct ce x B ch}(y:ο[i]?=some o)(g:o.op=.recv ct ch true)(l:L.tt ct=some x)(p:x.kind=.chan ce)(q:L.tt ce=some B)
 (r:Oper.ok n o=true) (C:dC ο n s.env o) (t:aA s.env ch=.chan A.cF)
 (h:∀j∈R,Go P (yA P A Fin m (R.erase j)) φ n ro (.inRegion ο μ::k) {s with env:=cG s.env o.dst (.cx [A.res j,.lit (.bool true)])} (λ_ _=>False)):Go P (yA P A Fin (m+1) R) φ n ro (.inRegion ο (i::μ)::k) s K:=by
 intro Q I O τ ξ ν cs D f J;have c:=En  (φ:=φ) (k:=k) (μ:=μ) (ξ:=ξ) (ν:=ν) (ro:=ro) (cs:=oV s.rc cs) (m:=yA P A Fin (m+1) R) L y g l p q f.size f.env C r t;refine .fY lR rfl ⟨rfl,_,_,λw _=>c w,λw _=>c w,rfl,λj E k' v d M=>?_⟩ (λ_ _ _ h=>h.elim)
 have e:V k' (.tuple #[v,.bool true]) (.cx [A.res j,.lit (.bool true)]):=.cx _ _ rfl λi u a z ha=>by
  match i with
  |0=>grind
  |1=>simp at z ha;subst z;subst ha;exact .lit _
  |i+2=>grind
 obtain⟨b,F,H⟩:=f.put      d y e (f.rel.mono d);show T P _ lR k' O (G (Frame.finish ⟨φ,τ,.inRegion ο _::k,ξ,.run,ν,ro⟩ _) _);rw[F];exact h j E lR k' O b ξ ν cs D H .none
def Go.Ig(L:lz P){m I kd f J R ο i μ o ct ce M N ch}(S:ο[i]?=some o)(r:o.op=.recv ct ch true)(t:L.tt ct=some M)(v:M.kind=.chan ce)(y:L.tt ce=some N)
 (z:Oper.ok n o=true) (T:dC ο n s.env o) (B:aA s.env ch=.chan A.cF) (C:s.σ A.fb=some .mC) (g:s.rc=.told kd f J) (j:yd P m φ n ro I kd f J Fin)
 (h:∀a,A.GI a->Go P m φ n ro (.inRegion ο μ::k) {s with env:=cG s.env o.dst (.cx [.eT,.lit (.bool false)]),σ:=(s.σ.set A.mb a).set A.fb (.part (dB A.fo)),rc:=.no} I):Go P (yA P A Fin 0 R) φ n ro (.inRegion ο (i::μ)::k) s K:=by
 intro Q W O τ ξ ν cs X e Y;have l:=En  (φ:=φ) (k:=k) (μ:=μ) (ξ:=ξ) (ν:=ν) (ro:=ro) (cs:=oV s.rc cs) (m:=yA P A Fin 0 R) L S r t v y e.size e.env T z B;have b:=e.rc;rw[g]at b;obtain⟨rfl,rfl,D⟩:=b;refine .fY lR rfl ⟨rfl,_,_,λw _=>l w,λw _=>l w,rfl,(e.rel.2 _ _ C rfl).2.1,λk' x a c E F=>?_⟩ (λ_ _ _ h=>h.elim)
 have p:V k' (.tuple #[N.zero,.bool false]) (.cx [.eT,.lit (.bool false)]):=.cx _ _ rfl λi u a H ha=>by
  match i with
  |0=>simp at H ha;subst ha;exact .eT _
  |1=>simp at H ha;subst H;subst ha;exact .lit _
  |i+2=>grind
 obtain⟨d,U,q⟩:=e.put       c S p (((e.rel.mono c).set E).set (.part _));show Fin k' _ (G (Frame.finish ⟨φ,τ,.inRegion ο _::k,ξ,.run,ν,ro⟩ _) _);rw[U,g];exact j _ _ k' _ d ξ (h a F) rfl ⟨q.size,q.env,q.rel,q.ds,trivial⟩ (D.trans c)
theorem T.acX{m Q kk O}:∀  n  {g a},n8 P (λ_=>True) n g a->T P m Q kk O a->T P m Q kk O g
 |0,g,a,h,b=>by obtain rfl:g=a:=h;omega
 |n+1,g,a,⟨c,d,h⟩,b=>.step (λk' O' g'=>k'=kk/\O'=O/\g'=c) d.1 (λk' O' g' e=>by obtain⟨rfl,rfl,rfl⟩:=e;exact T.acX n h b) λw f=>⟨c,w,#[],kk,O,d.2 _ w trivial,Eff.refl _ _ _,f,rfl,rfl,rfl⟩
def Go.Y6{m todo}(f:m.solo=true)(B:lS)(C:lH P B.ng)(X:mP P B.ng)(CM:kX P B.nm)(XM:kY P B.nm)(F:sz P B.nm){a A σ'}
 (H:B.dir=false->∃tm,s.σ B.cF=some (.raw (.chan 0 #[] false 0 0 tm))) (hG:s.σ B.gb=some (.cells [.lit (.int .u64 0),.lit (.int .u32 0)])) (hL:s.σ B.fb=some (.part A)) (I:A B.fo=some (.int .i32 0)) (J:A (B.fo+1)=some (.int .u32 0)) (L:B.dir=true->∀j,j<B.n->A (B.fo+2+j)≠none)
 (hM:s.σ B.mb=some a) (M:a.gone=false) (N:B.GI a) (R:s.rc=.no) (o:∀d y,σ' d=some y->(d=B.fb/\y=.mC)\/(d≠B.fb/\d≠B.mb/\d≠B.gb/\(B.dir=false->d≠B.cF)/\s.σ d=some y))
 (h:∀  b   hb   Fin   kd   p   Y ,yd P m φ n ro K kd p Y Fin ->
   Go P (vN P (B.at b hb) Fin B.n) φ n ro todo {s with σ:=σ',rc:=.told kd p Y} (λ_ _=>False)):Go P m φ n ro todo s K:=by
 intro Q D O τ ξ ν cs Z c h3;rw[R];refine T.sat rfl λ⟨w,q⟩=>?_
 obtain⟨xG,oG,rG⟩:=c.rel.1 _ _ hG ap
 obtain⟨xM,oM,rM⟩:=c.rel.1 _ _ hM M;have oL:=c.rel.Gx hL;cases rG with
 | cells E eg _ q1 q2 q3=>
   have hg:∀(i:Nat) (v:Value),([.lit (.int .u64 0),.lit (.int .u32 0)]:We)[i]?=some (AV.lit v)->E[i]?=some v:=λi v hv=>by
    have S:i<E.size:=am
    have r:=q2 i E[i] _ (by simp[S]) hv
    generalize hq:E[i]=u at r;cases r
    grind
   obtain⟨ec,cc,_,t,_⟩:=q.part _ _ oL
   refine .phase (λk' O' g'=>T P m Q k' O' g') f am (WE2 B C X CM XM F (λhd=>by
    obtain⟨tm,H⟩:=H hd;obtain⟨xF,oF,rF⟩:=c.rel.1 _ _ H ap
    cases rF
    grind) oG (hg 0 _ rfl) (hg 1 _ rfl) oL I J L (by grind [T.acX]) oM rM N λb hb=>?_)
   have z:yd P m φ n ro K ν cs D (λk' O' g'=>T P m Q k' O' g'):=λU s' k' O' g k l hn hs V=>by have:=l Q k' O' g k ν cs Z hs (h3.mono V);rw[hn]at this;exact this
   have l:=h b hb _ ν cs D z;refine l lR D _ τ ξ ν cs Z ⟨c.size,c.env,⟨λd y e G=>?_,λd y e G=>?_⟩,c.ds,rfl,rfl,.refl D⟩ .none
   . rcases o d y e with⟨rfl,rfl⟩|⟨d1,d2,d3,d4,e⟩
     . cases G
     . obtain⟨x,z1,W⟩:=c.rel.1 d y e G
       exact⟨x,by simp only[lS.rest];grind,W⟩
   . rcases o d y e with⟨rfl,rfl⟩|⟨d1,d2,d3,d4,e⟩
     . exact⟨by simp[lS.rest],⟨_,t⟩,am⟩
     . obtain⟨z1,W⟩:=c.rel.2 d y e G
       exact⟨by simp[lS.rest,z1],W⟩
def Go.dG{m todo}(c:m.solo=true)(B:lS)(l:B.dir=false)(C:lH P B.ng)(X:mP P B.ng)(r:kX P B.nm)(t:kY P B.nm)(F:sz P B.nm){tm a}
 (z:s.σ B.cF=some (.raw (.chan 0 #[] false 0 0 tm))) (u:s.σ B.gb=some (.cells [.lit (.int .u64 0),.lit (.int .u32 0)])) (v:s.σ B.fb=some (.part (dB B.fo))) (w:s.σ B.mb=some a) (g:a.gone=false) (i:B.GI a) (j:s.rc=.no)
 (h:∀  b   hb   Fin   kd   f   o ,yd P m φ n ro K kd f o Fin ->
   Go P (vN P (B.at b hb) Fin B.n) φ n ro todo {s with σ:=((((s.σ.del B.cF).del B.gb).del B.mb).set B.fb .mC),rc:=.told kd f o} (λ_ _=>False)):Go P m φ n ro todo s K:=
 Go.Y6 c B C X r t F am u v (by simp[dB]) (by simp[dB]) am w g i j (λd y e=>by
  by_cases k:d=B.fb
  . simp_all
  by_cases p:d=B.mb
  . subst p;simp[af.set,af.del,k]at e
  by_cases x:d=B.gb
  . subst x;simp[af.set,af.del,k]at e
  by_cases q:d=B.cF
  . subst q;simp[af.set,af.del,k,p]at e
  simp  [af.set,af.del,q]at e
  grind) h
end
end
open Go.Conc
section
variable{P:Rg}{m:Mo}{φ n:Nat}{ro:Dm}{η:YA}{K:Ci}{todo:AJ}
def Go.aad{ε a σ D rc}(c:∀t,(ε t).W (a t))(h:Go P m φ n ro todo ⟨a,σ,D,rc⟩ K):Go P m φ n ro todo ⟨ε,σ,D,rc⟩ K:=λQ k O τ ξ ν cs d b e=>h Q k O τ ξ ν cs d ⟨b.size,λt ht=>c t _ _ (b.env t ht),b.rel,b.ds,b.rc⟩ e
def aa.aad{ε a σ D rc}(c:∀t,(ε t).W (a t))(h:aa P m φ n ro η todo ⟨a,σ,D,rc⟩ K):aa P m φ n ro η todo ⟨ε,σ,D,rc⟩ K:=λb=>Go.aad c (h b)
def aa.Fs{ε σ D rc}  t  {a'}(a:(ε t).W a') (h:aa P m φ n ro η todo ⟨ε.upd t a',σ,D,rc⟩ K):aa P m φ n ro η todo ⟨ε,σ,D,rc⟩ K:=
 aa.aad (λu=>by
  by_cases e:u=t
  . simp_all
  . simp  [e];exact .refl _) h
def Tok.up{σ0 σ σ' a kk es}(h:Tok σ0 σ a kk es)(c:σ.Le σ'):Tok σ0 σ' a kk es:=by
 refine⟨af.le_trans h.1 c,?_⟩;rcases h.2 with h|h|⟨b,e,d,f,g⟩
 . grind
 . grind
 . exact .inr (.inr ⟨b,e,d,f,c _ _ g⟩)
def aa.bj{ε σ D rc}  t  {b l}  v  (hb:σ b=some (.cells l)) (ht:ε t=.ref b 0) (a:v.cells=l) (h:aa P m φ n ro η todo ⟨ε.upd t (.cp v 0),σ.del b,D,rc⟩ K):aa P m φ n ro η todo ⟨ε,σ,D,rc⟩ K:=
 aa.freeze b l hb (λu=>Fz.upd   (by rw[ht];exact .cp 0 0 v am am) u) (RD.del _ _ _) h
def yC(L:lz P){t f:Nat}{name i info mt a}(ht:L.tt t=some i)(hi:P.info? t=some info)(e:info.methods.find? (·.name==name)=some mt)(g:mt.path.toList=[])(h:mt.func=some (f,false))(j:i.kind=.struct):tv P t name f a a:=by
 intro k O v K Kp m n;refine ag (fB L ht λc b _ _ _=>?_);rw[hi]at b;cases b;simp only[e,g];refine ag (an ?_);simp only[h];refine ag ?_;refine ag (aY L ht λo _ d=>?_);obtain⟨l,rfl,_⟩:=yP d j;simp  [Place.get]
 grind [an]
def af.Le.none{σ σ':af}(h:σ.Le σ'){b}(hb:σ' b=Option.none):σ b=Option.none:=by
 cases e:σ b with
 |none=>rfl
 |some x=>rw[h b x e]at hb;omega
end
def uK.plain:uK->Bool
 |.part _=>false
 |.mC=>false
 |.stay _=>false
 |.map _=>false
 |_=>true
structure TV(P:Rg)(m:Mo)(nm:Jl)(b o mb:Nat)(kd:IntKind)(GI:FT->Prop)(Un:FC)(Ld:af->FT->Prop):Prop where
 lock:∀{a:AV}{σ:af}{KF:YC},oR b o a->Un σ->(∀σ' l,Ld σ' l->GI l->(∀c,c≠b->c≠mb->σ' c=σ c)->(∀y,σ mb=some y->y.plain=false)->KF (.val (.cx [])) σ')->ar P m nm.lock [a] σ KF
 unlock:∀{a:AV}{σ:af}{l:FT}{KF:YC},oR b o a->Ld σ l->GI l->(∀σ',Un σ'->(∀c,c≠b->c≠mb->σ' c=σ c)->KF (.val (.cx [])) σ')->ar P m nm.unlock [a] σ KF
 map:∀{σ:af}{l:FT},Ld σ l->σ mb=some (mapA kd l)
 put:∀{σ:af}{l l':FT},Ld σ l->Ld (σ.set mb (mapA kd l')) l'
 un:∀{σ σ':af},(∀c,c=b\/c=mb->(∃x,σ c=some x/\x.plain=false)->σ' c=σ c)->Un σ->Un σ'
 ld:∀{σ σ':af}{l:FT},(∀c,c=b\/c=mb->(∃x,σ c=some x/\x.plain=false)->σ' c=σ c)->Ld σ l->Ld σ' l
 unb:∀{σ:af},Un σ->∃x,σ b=some x/\x.plain=false
 ldb:∀{σ:af}{l:FT},Ld σ l->∃x,σ b=some x/\x.plain=false
def Lq(b o mb:Nat)(kd:IntKind)(GI:FT->Prop)(σ:af):Prop:=σ b=some (.part (dB o))/\∃l,σ mb=some (mapA kd l)/\GI l
def LdS(b o mb:Nat)(kd:IntKind)(σ:af)(l:FT):Prop:=σ b=some (.part (Ef o))/\σ mb=some (mapA kd l)
def Rx(b:Nat)(σ:af):Prop:=σ b=some .mC
def LdW(b mb:Nat)(kd:IntKind)(σ:af)(l:FT):Prop:=σ b=some (.part Tf)/\σ mb=some (mapA kd l)
section
variable{P:Rg}{nm:Jl}(C:kX P nm)(X:kY P nm)(F:sz P nm)
include C X F in
def Kw{m:Mo}(hs:m.solo=true){b o mb:Nat}(d:b≠mb){kd:IntKind}{GI:FT->Prop}:TV P m nm b o mb kd GI (Lq b o mb kd GI) (LdS b o mb kd) where
 lock {a σ KF} ha hu h:=by obtain⟨f,l,e,g⟩:=hu;exact rDs C X F hs ha f (h _ l ⟨af.aj _ _ _,by rw[af.ah _ _ (vj d)];exact e⟩ g (λc hc _=>af.ah _ _ hc) (λy hy=>by rw[e]at hy;cases hy;rfl))
 unlock {a σ l KF} ha j hg h:=afV C X F hs ha j.1 (h _ ⟨af.aj _ _ _,l,by rw[af.ah _ _ (vj d)];exact j.2,hg⟩ (λc hc _=>af.ah _ _ hc))
 map h:=h.2
 put {σ l k} h:=⟨by rw[af.ah _ _ d];exact h.1,af.aj _ _ _⟩
 un {σ i} he h:=by obtain⟨f,l,e,g⟩:=h;exact⟨by rw[he b (.inl rfl) ⟨_,f,rfl⟩];exact f,l,by rw[he mb (.inr rfl) ⟨_,e,rfl⟩];exact e,g⟩
 ld {σ i l} he h:=⟨by rw[he b (.inl rfl) ⟨_,h.1,rfl⟩];exact h.1,by rw[he mb (.inr rfl) ⟨_,h.2,rfl⟩];exact h.2⟩
 unb h:=⟨_,h.1,rfl⟩
 ldb h:=⟨_,h.1,rfl⟩
def TW{A:dq}(hd:A.dir=false){j:Nat}{kd:IntKind}{GI:FT->Prop}(e:∀x,A.GI x↔∃l,x=mapA kd l/\GI l):TV P (mT P A j) A.nm A.fb A.fo A.mb kd GI (Rx A.fb) (LdW A.fb A.mb kd) where
 lock {a σ KF} ha hu h:=f1' hd ha hu λx hx hm=>by obtain⟨l,rfl,d⟩:=(e x).1 hx;exact h _ l ⟨af.aj _ _ _,by rw[af.ah _ _ (vj A.d5),af.aj]⟩ d (by grind [af.ah]) (λy hy=>by have:=hm y hy;cases y<;>first|rfl|cases this)
 unlock {a σ l KF} ha d hg h:=afP hd ha d.1 d.2 am rfl (h _ (af.aj _ _ _) (λc f g=>by rw[af.ah _ _ f];simp[af.del,g]))
 map h:=h.2
 put {σ l i} h:=⟨by rw[af.ah _ _ A.d5];exact h.1,af.aj _ _ _⟩
 un {σ b} he h:=by show b A.fb=some .mC;rw[he _ (.inl rfl) ⟨_,h,rfl⟩];exact h
 ld {σ b l} he h:=⟨by rw[he _ (.inl rfl) ⟨_,h.1,rfl⟩];exact h.1,by rw[he _ (.inr rfl) ⟨_,h.2,rfl⟩];exact h.2⟩
 unb h:=⟨_,h,rfl⟩
 ldb h:=⟨_,h.1,rfl⟩
end
def GB(ft:Nat):Option TypeDesc->Bool
 |some (.struct fs)=>(match fs.toList with|[f]=>f.name !=  "_" && f.type==ft && f.offset==0|_=>false)
 |_=>false
def RU.of{P:Rg}{mt b c ft:Nat}{kd:IntKind}(e:P.underlying mt=some (.map b c))(a:GB ft (P.underlying b)=true)(g:P.underlying ft=some (.int kd))(h:P.stoodInHeld b=false):RU P mt b c ft kd:=by
 refine⟨e,?_,g,h⟩;generalize P.underlying b=d at a;unfold GB at a;split at a
 . next fs=>
   split at a
   . next f i=>
     simp  [bne_iff_ne]at a;refine⟨f,?_,a.1.1,a.1.2,a.2⟩;congr 2
     grind
   grind
 grind
def vO(b mb:Nat)(σ σ':af):Prop:=∀c x,σ c=some x->c≠b->(c≠mb\/x.plain=true)->σ' c=some x
theorem vO.refl(b mb:Nat)(σ:af):vO b mb σ σ:=λ_ _ h _ _=>h
section
variable{P:Rg}(L:lz P){m:Mo}{φ n:Nat}{ro:Dm}{η:YA}{s:St}{k:AJ}{K:Ci}{A:dq}{Fin:ZD}
def aa.runN  mu   N  {todo}(h:cU L m φ n ro mu η N todo s K):aa P m φ n ro η todo s K:=λa=>Go.cU L mu η N a h
def aa.yD{c}(h:aa P m φ n ro η (.code c::.inLoop c::k) s K):aa P m φ n ro η (.code (.loop c)::k) s K:=λa=>.Yz (h (by simpa[oZ,vR]using a))
theorem aa.again{c}(b:vR η c=true)(h:aa P m φ n ro η (.code c::.inLoop c::k) s K):aa P m φ n ro η (.inLoop c::k) s K:=λa=>.inLoop (h (by
 simp  [oZ,IN]at a ⊢
 grind))
def aa.dG{todo}(d:m.solo=true)(B:lS)(e:B.dir=false)(C:lH P B.ng)(X:mP P B.ng)(l:kX P B.nm)(o:kY P B.nm)(F:sz P B.nm){tm a}
 (p:s.σ B.cF=some (.raw (.chan 0 #[] false 0 0 tm))) (q:s.σ B.gb=some (.cells [.lit (.int .u64 0),.lit (.int .u32 0)])) (r:s.σ B.fb=some (.part (dB B.fo))) (t:s.σ B.mb=some a) (g:a.gone=false) (i:B.GI a) (j:s.rc=.no)
 (h:∀  b   hb   Fin   kd   c   f ,yd P m φ n ro K kd c f Fin ->
   aa P (vN P (B.at b hb) Fin B.n) φ n ro η todo {s with σ:=((((s.σ.del B.cF).del B.gb).del B.mb).set B.fb .mC),rc:=.told kd c f} (λ_ _=>False)):aa P m φ n ro η todo s K:=λk=>
 Go.dG d B e C X l o F p q r t g i j λb hb Fin kd c f u=>h b hb Fin kd c f u k
def aa.TR{m ο i μ o args a fn}(f:ο[i]?=some o)(b:o.op=.call ⟨.value (.func A.ng.add),args,a⟩)(g:o.guard=none)(c:Oper.ok n o=true)
 (j:P.funcs[A.ng.add]?=some fn) (hb:fn.body.isSome=true) (d:(fn.name==  "runtime.NumGoroutine")=false) (ha:args.toList.map (aA s.env)=[.ref A.gb 0,.lit (.int .i64 1)])
 (h:aa P (N8 P A Fin m) φ n ro η (.inRegion ο μ::k) {s with env:=cG s.env o.dst (.cx [])} (λ_ _=>False)):aa P (vN P A Fin (m+1)) φ n ro η (.inRegion ο (i::μ)::k) s K:=λe=>
 Go.TR f b (cP g) c j hb d ha (h (by simpa[oZ]using e))
def aa.xj{m ο i μ o fo args b f fn body first cap hold'}(q:ο[i]?=some o)(c:o.op=.go ⟨.value fo,args,b⟩)(r:o.guard=none)(d:Oper.ok n o=true)
 (e:aA s.env fo=.fn (.func f) first cap) (t:P.funcs[f]?=some fn) (hb:fn.body=some body) (g:(fn.name==  "runtime.NumGoroutine")=false) (u:((first++args.toList.map (aA s.env))++cap).length<=fn.ntmps) (j:s.σ A.fb=some .mC) (a:oZ hold' [.code body]=true)
 (v:∀l,aa P (mT P A (A.n-(m+1))) f fn.ntmps none hold' [.code body] ⟨fR ((first++args.toList.map (aA s.env))++cap),o0 A.fb,[],.told .deferred [fy P] l⟩ (λ_ _=>False))
 (h:aa P (vN P A Fin m) φ n ro η (.inRegion ο μ::k) {s with env:=cG s.env o.dst .eT} (λ_ _=>False)):aa P (N8 P A Fin m) φ n ro η (.inRegion ο (i::μ)::k) s K:=λp=>
 Go.OQ q c (cP r) d e t hb g u j (λ_=>.none) (λl=>v l a) (h (by simpa[oZ]using p))
def aa.goC(a:A.dir=false){ο i μ o fo args c f fn body first cap hold'}(q:ο[i]?=some o)(d:o.op=.go ⟨.value fo,args,c⟩)(r:o.guard=none)(e:Oper.ok n o=true)
 (g:aA s.env fo=.fn (.func f) first cap) (t:P.funcs[f]?=some fn) (hb:fn.body=some body) (j:(fn.name==  "runtime.NumGoroutine")=false) (u:((first++args.toList.map (aA s.env))++cap).length<=fn.ntmps) (l:s.σ A.fb=some .mC) (b:oZ hold' [.code body]=true)
 (v:∀m,aa P (DN P A) f fn.ntmps none hold' [.code body] ⟨fR ((first++args.toList.map (aA s.env))++cap),o0 A.fb,[],.told .deferred [fy P] m⟩ (λ_ _=>False))
 (h:aa P (yA P A Fin A.n (List.range A.n)) φ n ro η (.inRegion ο μ::k) {s with env:=cG s.env o.dst .eT} (λ_ _=>False)):aa P (vN P A Fin 0) φ n ro η (.inRegion ο (i::μ)::k) s K:=λp=>
 Go.goC a q d (cP r) e g t hb j u l (λm=>v m b) (h (by simpa[oZ]using p))
def aa.TS(a:A.dir=false){j ο i μ o ch x fn fd r}(t:ο[i]?=some o)(c:o.op=.send ch x)(d:Oper.ok n o=true)(u:o.guard=none)(e:aA s.env ch=.chan A.cF)(v:aA s.env x=A.res j)
 (f:s.σ A.fb=some .mC) (g:s.rc=.told .deferred [fy P] r) (l:ro=none) (w:P.funcs[φ]?=some fn) (y:n=fn.ntmps) (m:P.funcs[A.ng.done]?=some fd) (p:fd.body.isSome=true) (b:(fd.name==  "runtime.NumGoroutine")=false)
 (h:aa P (rZ P A) φ n ro η (.inRegion ο μ::k) {s with env:=cG s.env o.dst (.lit undef)} (PA P A fn)):aa P (mT P A j) φ n ro η (.inRegion ο (i::μ)::k) s K:=λq=>
 Go.TS a t c d (cP u) e v f g l w y m p b (h (by simpa[oZ]using q))
def aa.TU{ο i μ o args a fn}(f:ο[i]?=some o)(b:o.op=.call ⟨.value (.func A.ng.wait),args,a⟩)(g:o.guard=none)(c:Oper.ok n o=true)
 (j:P.funcs[A.ng.wait]?=some fn) (hb:fn.body.isSome=true) (d:(fn.name==  "runtime.NumGoroutine")=false) (ha:args.toList.map (aA s.env)=[.ref A.gb 0])
 (h:aa P (zJ P A) φ n ro η (.inRegion ο μ::k) {s with env:=cG s.env o.dst (.cx [])} (λ_ _=>False)):aa P (DN P A) φ n ro η (.inRegion ο (i::μ)::k) s K:=λe=>
 Go.TU f b (cP g) c j hb d ha (h (by simpa[oZ]using e))
def aa.MD{ο i μ o ch a fn g}(h:ο[i]?=some o)(b:o.op=.call ⟨.builtin .close,#[ch],a⟩)(c:Oper.ok n o=true)(j:o.guard=none)(d:aA s.env ch=.chan A.cF)
 (e:s.rc=.told .deferred [fy P] g) (l:s.D=[]) (f:ro=none) (m:P.funcs[φ]?=some fn) (p:fn.results=#[]) (q:(Item.inRegion ο μ::k).all GA=true):aa P (zJ P A) φ n ro η (.inRegion ο (i::μ)::k) s K:=λ_=>
 Go.MD h b c j d e l f m p q
def aa.Om{m R ο i μ o ct ce l p ch}(q:ο[i]?=some o)(a:o.op=.recv ct ch true)(b:L.tt ct=some l)(c:l.kind=.chan ce)(d:L.tt ce=some p)
 (e:Oper.ok n o=true) (r:o.guard=none) (f:aA s.env ch=.chan A.cF)
 (h:∀j∈R,aa P (yA P A Fin m (R.erase j)) φ n ro η (.inRegion ο μ::k) {s with env:=cG s.env o.dst (.cx [A.res j,.lit (.bool true)])} (λ_ _=>False)):aa P (yA P A Fin (m+1) R) φ n ro η (.inRegion ο (i::μ)::k) s K:=λg=>
 Go.Om L q a b c d e (cP r) f λj t=>h j t (by simpa[oZ]using g)
def aa.Ig{t kd b u R ο i μ o ct ce v w ch}(x:ο[i]?=some o)(d:o.op=.recv ct ch true)(e:L.tt ct=some v)(f:v.kind=.chan ce)(g:L.tt ce=some w)
 (j:Oper.ok n o=true) (y:o.guard=none) (l:aA s.env ch=.chan A.cF) (p:s.σ A.fb=some .mC) (q:s.rc=.told kd b u) (c:yd P m φ n ro t kd b u Fin)
 (h:∀a,A.GI a->aa P m φ n ro η (.inRegion ο μ::k) {s with env:=cG s.env o.dst (.cx [.eT,.lit (.bool false)]),σ:=(s.σ.set A.mb a).set A.fb (.part (dB A.fo)),rc:=.no} t):aa P (yA P A Fin 0 R) φ n ro η (.inRegion ο (i::μ)::k) s K:=λr=>
 Go.Ig L x d e f g j (cP y) l p q c λa ha=>h a ha (by simpa[oZ]using r)
end
section
variable{P:Rg}(L:lz P){m:Mo}
def ar.ME{f:FuncId}{fn args σ KF body}  mu   η   N k  (b:P.funcs[f]?=some fn) (hb:fn.body=some body) (d:args.length=k) (c:uO fn k=true) (a:vR η body=true)
 (h:cU L m f fn.ntmps none mu η N [.code body] ⟨fR args,σ,[],.no⟩ (L6 L m fn.results.toList (tO KF))):ar P m f args σ KF:=by
 simp  [uO]at c;refine ar.thaw (ar.intro L b hb aq ?_ (Go.cU L mu η N (by simpa[oZ]using a) h))
 grind
variable{φ n:Nat}{ro:Dm}{η:YA}{K:Ci}{todo:AJ}
@[simp] theorem abt{mu s}:cU L m φ n ro mu η 0 todo s K=aa P m φ n ro η todo s K:=propext Zy
def aa.lh{ε σ D rc}(I:FI)(a:I ε σ)(h:∀ε σ,I ε σ->aa P m φ n ro η todo ⟨ε,σ,D,rc⟩ K):aa P m φ n ro η todo ⟨ε,σ,D,rc⟩ K:=h ε σ a
end
section
variable{P:Rg}(L:lz P){o:Oper}{ε:Env}{σ:af}{K:CU}{Kp:CU}
def z8{t e:Nat}{x y it f n p}(Q:o.op=.makeSlice t x y)(ht:L.tt t=some it)(R:it.kind=.slice e)(A:L.tt e=some f)(S:f.size=1)(hb:f.bytes<=1024)
 (hz:(qZ f.zero).cells=[p]) (T:p.flat=true) (U:aA ε x=.lit (.int .i64 n)) (W:aA ε y=.lit (.int .i64 n)) (J:0<=n/\n<=1000000)
 (X:∀b,σ b=none->K (.mJ b 0 n.toNat n.toNat) (σ.set b (.cells (List.replicate n.toNat p)))):bt P o ε σ K Kp:=
 bt.val (s:=λB=>Instr.makeSlice t (B x) (B y)) (λB=>by simp[execOp,Q]) λk O B u Y=>by
  have D:=u x aq
  have C:=u y aq
  rw[U]at D;rw[W]at C;have Z:=ga D;have e2:=ga C
  have hw:IntKind.i64.wrap n=n:=by simp[IntKind.wrap,IntKind.signed,IntKind.bits];omega
  have a7:f.zero.cells.size=1:=by obtain⟨_,_,_,_,_,_,h⟩:=L.facts A;omega
  have j:=C7 (k:=k) (z:=f.zero) aq
  rw[hz]at j;rw[Z,e2];unfold Instr.makeSlice;refine ag (aY L ht λd _ hd=>?_)
  rw[dD hd R];dsimp only;refine ag (s:=asInt (.int .i64 n)) (an ?_);refine ag (s:=asInt (.int .i64 n)) (an ?_);refine ag (fB L A λinfo _ _ E _=>?_)
  dsimp only;rw[hw]
  have F:((decide (n<0)||decide ((info.bytes:Int)*n>2 ^ 48))||decide (n<0)||decide (n>n))=false:=by
   have q:(info.bytes:Int)*n<=1024*1000000:=by rw[E];exact MF ac J.2 J.1 ac
   grind
  simp only[F,zA,LK];refine ag (vZ ?_);refine ag (de L A ?_);rw[S]
  have g:∀zero:E7,(n.toNat≠0->zero=f.zero.cells)->jm P (do let a <-newRow e ((Array.range (n.toNat*1)).map (zero[· % zero.size]!));pure (Value.slice (some a) n.toNat n.toNat)) k O (λv k' O'=>sF k' O' λG O2=>k.Le G/\∃a c,V G v a/\Rel G O2 c/\K a c) (λv k' O'=>k.Le k'/\∃a c,V k' v a/\Rel k' O' c/\Kp a c):=λzero hzero=>by
   have m:∀(i:Nat) v,((Array.range (n.toNat*1)).map (zero[· % zero.size]!))[i]?=some v->i<n.toNat/\f.zero.cells[0]?=some v:=am
   refine ag (lD (l:=List.replicate n.toNat p) Y ap (λi v a M ha=>?_) (λi v M=>?_) λr k' O' H I w=>an (.here ⟨I,.mJ r 0 n.toNat n.toNat,_,.mJ ..,w,X r H⟩))
   . obtain⟨D,C⟩:=m i v M
     have:a=p:=am
     subst this;exact j.2.1 0 v a C rfl
   . exact j.2.2 0 v am
  by_cases N:n.toNat*1=0
  . rw[wS N]
    refine ag (an ?_);exact g _ ac
  . rw[wN N]
    refine ag (fA L A (ag (an ?_)));exact g _ am
end
def S5{es b sp}(d:es.length=b.length)(f:∀e∈es,e.cells=[e])(g:∀e∈b,e.cells=[e])(h:∀(i:Nat) a a',es[i]?=some a->b[i]?=some a'->a.W a'):(AV.sl 1 es sp).W (.sl 1 b .any):=λk v l=>by
 have f1:=iC f;have m:=iC g;rcases l.I9 with⟨n,rfl,rfl,o⟩|⟨p,off,cap,N,q,c,rfl,t,r,s,u,w,x,y⟩
 . have:b=[]:=am
   subst this;exact .slnil n 1 .any (.inl rfl)
 . rw[d]
   refine .sl p off cap 1 N q b .any c ac r s am am (λj a ha=>?_) trivial;rw[m]at ha;have z:j<es.length:=am
   exact h j es[j] a am ha k _ am
section
variable{P:Rg}{m:Mo}{φ n:Nat}{ro:Dm}{η:YA}{K:Ci}{todo:AJ}
def aa.XQ{ε σ D rc b d i l cs es sp at_}(hd:d≠b)(hb:σ b=some (.cells l))(w:∀e∈l,e.cells=[e])(z:σ d=some (.cells cs))(f:cs[at_]?=some (.sl 1 es sp))(o:∀e∈es,e.cells=[e])(hi:es[i]?=some (.mJ b 0 l.length l.length))
 (A:aa P m φ n ro η todo ⟨ε,(σ.del b).set d (.cells (cs.set at_ (.sl 1 (es.set i (.sl 1 l .any)) sp))),D,rc⟩ K):aa P m φ n ro η todo ⟨ε,σ,D,rc⟩ K:=by
 have B:=iC w;refine aa.freeze b l hb (λu=>.refl _) (λy x k=>?_) A;by_cases e:y=d
 . subst e
   simp[af.set]at k;subst k;refine⟨hd,.inr ⟨cs,_,z,rfl,ap,λj a C q g=>?_⟩⟩;by_cases s:j=at_
   . subst s
     rw[f]at q;cases q;have c:=(IK.1 f).1;rw[KC c]at g;cases g;refine .rows es _ sp ap o (λx t=>?_) (λp a C r h=>?_)
     . rcases Mq t with t|rfl
       . grind
       . rfl
     . by_cases v:p=i
       . subst v
         rw[hi]at r;cases r;have c:=(IK.1 hi).1;rw[KC c]at h;cases h;exact .sl 0 l.length 1 l .any (AK _) ac am am (.inl rfl)
       . rw[Fp (vj v)]at h
         rw[r]at h;cases h;exact .refl _
   . rw[Fp (vj s)]at g
     rw[q]at g;cases g;exact .refl _
 . rw[af.ah _ _ e]at k
   unfold af.del at k
   grind
variable{s:St}{k:AJ}
def aa.goto{l}(b:gotoIn l k=some todo)(a:oZ η todo=true)(h:aa P m φ n ro η todo s K):aa P m φ n ro η (.code (.goto l)::k) s K:=λ_=>Go.fZ (λ_ _ _ _ _=>by simp[G,stepG,stepG.exec,b]) (h a)
def aa.lower(I:Nat->St->Prop)  a  (c:I a s) (d:∀a s,I a s->(∀a' s',a'<a->I a' s'->aa P m φ n ro η todo s' K)->aa P m φ n ro η todo s K):aa P m φ n ro η todo s K:=by
 have key:∀b a s,a<b->I a s->aa P m φ n ro η todo s K:=λb=>by
  induction b with
  |zero=>omega
  |succ b e=>grind
 grind
end
section
variable{P:Rg}(L:lz P){o:Oper}{ε:Env}{σ:af}{K:CU}{Kp:CU}
def aks{t b off:Nat}{p x i f v0 u}(m:o.op=.store t p x)(ht:L.tt t=some i)(n:i.size=1)(q:oR b off (aA ε p))(r:aA ε x=.lit u)(d:flat u=true)(c:σ b=some (.part f))(s:f off=some v0)
 (w:K (.lit undef) (σ.set b (.part λj=>if j=off then some u else f j))):bt P o ε σ K Kp:=λk O g h l=>by
 have e:=q _ _ (h p aq);have a:=h x aq;rw[r]at a;generalize y:g x=v at a;cases a;have:execOp g o=(do storeVar t ⟨b,off,none⟩ u;pure .skip):=by simp[execOp,m,Instr.storeAt,e,Instr.sureAddr,y]
 rw[this];have z:u.cells=#[u]:=by cases u<;>first|rfl|cases d
 refine ag ?_;refine ag (de L ht ?_);rw[wN aq];rw[z];refine ag  ⟨rfl,d,rfl,.inr (.inr ⟨f,v0,l.Gx c,s,?_⟩)⟩;exact an (an ⟨undef,am,.here ⟨.refl k,.lit undef,_,.lit _,l.set (.part _),w⟩⟩)
end
def az.sc(k:az)(r n:Nat)(v:Value):az:={k with cell:=λb j=>if b=r/\j=n then some v else k.cell b j}
def Ih(f:Nat->FP)(n:Nat):Nat->FP:=λi=>if i=n then none else f i
theorem GC{f n i u}(h:Ih f n i=some u):f i=some u/\i≠n:=by
 unfold Ih at h
 grind
theorem Ii{f n i}(h:Ih f n i≠none):f i≠none/\i≠n:=by
 cases q:Ih f n i with
 |none=>grind
 |some u=>grind [GC]
def Kx{k O r n v f}(l:O r=some (.part f))(D:f n=some v):qp k O (k.sc r n v) (O.set r (.part (Ih f n))):=λw h=>by
 obtain⟨c,e,A,E,F⟩:=h.part _ _ l
 have G:k.cell r n=none:=by
  cases q:k.cell r n with
  |none=>rfl
  |some u=>exact(h.apart _ _ _ q (.inr (.inr ⟨_,l,am⟩))).elim
 have z:k.Le (k.sc r n v):=⟨λb i u j=>by
  have:¬(b=r/\i=n):=am;simpa[az.sc,this]using j,λ_ _ h=>h⟩
 have p:∀b,b≠r->(O.set r (.part (Ih f n))) b=O b:=λb hb=>by simp[au.set,hb]
 have a:(O.set r (.part (Ih f n))) r=some (.part (Ih f n)):=by simp[au.set]
 refine⟨⟨λb i u j B=>?_,λb i u j=>?_,h.sh,λb o hb=>?_,λb m hb=>?_,λb g hb=>?_⟩,⟨z,AK _,am,am,am,am,λb x t=>?_,λb i u j=>?_,λ_ _ h=>.inl h,ap,rfl,rfl,rfl,ap,λb g hb=>?_⟩⟩
 . have s:bS O b i/\¬(b=r/\i=n):=by
    by_cases hb:b=r
    . subst hb
      rcases B with⟨o,y⟩|⟨m,y,C⟩|⟨g,y,C⟩
      . grind
      . grind
      . rw[a]at y;cases y
        exact⟨.inr (.inr ⟨f,l,(Ii C).1⟩),(by grind [Ii])⟩
    . exact⟨by simpa[bS,au.set,hb]using B,ac⟩
   exact h.apart b i u (by simpa[az.sc,s.2]using j) s.1
 . by_cases hb:b=r/\i=n
   . obtain⟨rfl,rfl⟩:=hb
     simp only[az.sc,and_self,ZC,td]at j;subst j;simp[World.cell?,A,F _ _ D]
   . exact h.cell b i u (by simpa only[az.sc,hb,LK]using j)
 . by_cases d:b=r
   . grind
   . exact h.obj b o am
 . by_cases d:b=r
   . grind
   . exact h.tail b m am
 . by_cases d:b=r
   . subst d;rw[a]at hb;cases hb
     exact⟨c,e,A,E,(by grind [GC])⟩
   . exact h.part b g am
 . by_cases d:b=r
   . subst d
     rw[a]at t;cases t;exact .inl ⟨_,l,λi H=>(Ii H).1⟩
   . rw[p b d]at t;exact .inl ⟨x,t,.refl x⟩
 . by_cases hb:b=r/\i=n
   . obtain⟨rfl,rfl⟩:=hb;exact .inr (.inl (.inr (.inr ⟨f,l,am⟩)))
   . exact .inl (by simpa only[az.sc,hb,LK]using j)
 grind
section
variable{P:Rg}{φ n:Nat}{ro:Dm}{s:St}{k:AJ}{K:Ci}{A:dq}{Fin:ZD}{j:Nat}
def dq.own(A:dq)(j:Nat)(v:Value):Nat->FP:=λi=>if i=A.cell j then some v else none
def ahO(hd:A.dir=true){l h}(C:A.cell j<l.length){σ KF}(b:σ A.fb=some .mC)(o:∀x v,A.GI x->(∀y,σ A.mb=some y->y.gone=true)->KF (.val (.cx [])) ((σ.set A.mb x).set A.fb (.part (A.own j v)))):ar P (mT P A j) A.nm.lock [.kp A.fb l h A.fo] σ KF:=by
 intro Q k O d c μ ν p q e r D;obtain⟨v,rfl,s⟩:=q.one;cases s with
 | kp _ _ N E _ _ F t G _ _=>
   obtain⟨w,_,_⟩:=e.2 _ _ b rfl;refine .fY (λk' O' g'=>T P (mT P A j) Q k' O' g') rfl (.inl ⟨ν,c,μ,_,p,rfl,w,t,ac,λk' x y f a g i B m=>?_⟩) am
   obtain⟨u,rfl⟩:∃u,f=A.own j u:=by unfold dq.Tk at m;rw[wS hd]at m;exact m
   refine r k' _ _ _ _ a (.cx _ _ rfl am) (((e.mono a).set g).set (.part _)) (o y u i λz hz=>?_)
   cases n:z.gone with
   |true=>rfl
   | false=>
     obtain⟨H,I,_⟩:=e.1 _ z hz n
     grind
def P8(P:Rg)(A:dq)(j:Nat)(fn:Func):Ci:=λe s=>fn.results=#[]/\(e=.leave none\/e=.leave (some .ret))/\(∃a,s.rc=.told .deferred [fy P] a)/\∃pl f y,oR A.fb A.fo pl/\s.D=[.call (.func A.nm.unlock) [] [pl],.call (.func A.ng.done) [] [.ref A.gb 0]]/\
 s.σ A.fb=some (.part f)/\f (A.cell j)=some (A.val j)/\s.σ A.mb=some y/\A.GI y/\y.gone=false
def R6{k d f a}(h:AF k d (.call f [] [a])):∃v,V k v a/\d={target:=.fn f #[],args:=#[v]}:=by
 obtain⟨g,i,rfl,b,c⟩:=h;have j:g=#[]:=by have:=b.1;grind
 obtain⟨v,l,e⟩:=Vs.one c;exact⟨v,e,by rw[j,show i=#[v]by grind]⟩
def TX{f fd v g τ todo ds cs}(d:P.funcs[f]?=some fd)(hb:fd.body.isSome=true)(a:(fd.name==  "runtime.NumGoroutine")=false){b}  w :
 stepG P b (G ⟨g,τ,todo,{target:=.fn (.func f) #[],args:=#[v]}::ds,.returning,.deferred,none⟩ cs) w=.go (G (Frame.enter P f #[v] .deferred) (⟨g,τ,todo,ds,.returning,.deferred,none⟩::cs)) w #[]:=by
 have hinv:∀w,(invoke (.fn (.func f) #[]) #[v]).runT P w #[]=(.ok (.enter f #[v]) w,#[]):=λw=>by
  show Sem.runT P (callFunc f _) w #[]=_;unfold callFunc;have c:fd.body.isNone=false:=aq
  rw[od,d];simp only[a,c,zA];simp
 simp only[G,stepG,unwind,callDeferred,hinv];rfl
theorem akj(hd:A.dir=true){f:FuncId}{fn fd i}(hf:P.funcs[f]?=some fn)(k:P.funcs[A.ng.done]?=some fd)(l:fd.body.isSome=true)(b:(fd.name==  "runtime.NumGoroutine")=false)(n:P.funcs[A.nm.unlock]?=some i)(o:i.body.isSome=true)(c:(i.name==  "runtime.NumGoroutine")=false){kk}:
 CY P (mT P A j) lR f fn.ntmps none .deferred [fy P] (P8 P A j fn) kk where
 leave k' O' τ ξ s todo F hle hs J p:=by
  obtain⟨d,O,⟨Q,e⟩,pl,K,y,q,H,g,a,IS,r,t⟩:=p;obtain⟨ε,σ,D,rc⟩:=s;simp only at e H g IS;subst e H;show T P (mT P A j) lR k' O' (G ⟨f,τ,todo,ξ,.run,.deferred,none⟩ [fy P]);have u:=hs.ds
  match ξ,u with
  | [d1,d2],⟨L,M,_⟩=>
    obtain⟨v1,v,rfl⟩:=R6 L;obtain⟨v2,z,rfl⟩:=R6 M;cases z;obtain rfl:=q _ _ v;obtain⟨x,hx,B⟩:=hs.rel.1 _ _ IS t;have I:=hs.rel.Gx g;refine T.fZ (g':=G ⟨f,τ,todo,[{target:=.fn (.func A.nm.unlock) #[],args:=#[.pointer (some ⟨A.fb,A.fo,none⟩)]},{target:=.fn (.func A.ng.done) #[],args:=#[.pointer (some ⟨A.gb,0,none⟩)]}],.returning,.deferred,none⟩ [fy P]) rfl (λw=>?_) ?_
    . rcases J with⟨rfl,rfl⟩|⟨kk,rfl,rfl⟩|⟨_,_,_,_,rfl⟩
      . simp[G,stepG,stepG.exec]
      . simp[G,stepG,stepG.exec]
      grind
    refine T.fZ rfl (λw=>TX n o c w) (T.sat rfl λ⟨w,hw⟩=>?_);have C:=((Kx I a) w hw).2.le;refine .ghost (Kx I a) ?_;have E:A.mb≠A.fb:=vj A.d5;refine .fY lR rfl (.inr (.inl ⟨.deferred,_,_,Ih K (A.cell j),x,y,ap,rfl,by simp[au.set],by simp only[au.set,E,LK];omega,B.mono C,r,λ_=>by simp[az.sc],?_⟩)) (λ_ _ _ h=>h.elim);rw[show Lt P A lR=T P (rZ P A) lR by simp[Lt,hd]];refine T.fZ (m:=rZ P A) rfl (λw=>TX k l b w) ?_;exact .fY lR rfl ⟨rfl,f,fn,τ,todo,hf,d,rfl⟩ (λ_ _ _ h=>h.elim)
 panic k' O' τ ξ s todo R S hle hs N p:=by obtain⟨_,h|h,_⟩:=p<;>cases h
def aa.YD(hd:A.dir=true){m ο i μ o fo args b f fn fd c body first cap η hold'}(u:ο[i]?=some o)(d:o.op=.go ⟨.value fo,args,b⟩)(v:o.guard=none)(e:Oper.ok n o=true)
 (g:aA s.env fo=.fn (.func f) first cap) (w:P.funcs[f]?=some fn) (hb:fn.body=some body) (j:(fn.name==  "runtime.NumGoroutine")=false) (x:((first++args.toList.map (aA s.env))++cap).length<=fn.ntmps) (l:s.σ A.fb=some .mC) (a:oZ hold' [.code body]=true)
 (y:P.funcs[A.ng.done]?=some fd) (z:fd.body.isSome=true) (r:(fd.name==  "runtime.NumGoroutine")=false) (B:P.funcs[A.nm.unlock]?=some c) (C:c.body.isSome=true) (t:(c.name==  "runtime.NumGoroutine")=false)
 (D:∀p,aa P (mT P A (A.n-(m+1))) f fn.ntmps none hold' [.code body] ⟨fR ((first++args.toList.map (aA s.env))++cap),o0 A.fb,[],.told .deferred [fy P] p⟩ (P8 P A (A.n-(m+1)) fn))
 (h:aa P (vN P A Fin m) φ n ro η (.inRegion ο μ::k) {s with env:=cG s.env o.dst .eT} (λ_ _=>False)):aa P (N8 P A Fin m) φ n ro η (.inRegion ο (i::μ)::k) s K:=λq=>
 Go.OQ u d (cP v) e g w hb j x l (by grind [akj]) (λp=>D p a) (h (by simpa[oZ]using q))
def XR{kk v b off l e hole d}(hlen:e.length=l.length)(k:∀j,j<l.length->j∉d->(j∉hole/\e[j]?=l[j]?)\/∃u,kk.cell b j=some u/\flat u=true/\e[j]?=some (.lit u))(h:V kk v (.kp b l hole off)):V kk v (.kp b e d off):=by
 cases h with
 | kp _ _ N E _ _ c m o p q=>
   have key:∀j,∃u,j<l.length->j∉d->(kk.cell b j=some u/\flat u=true)/\∀a,e[j]?=some a->V kk u a:=λj=>by
    by_cases f:j<l.length/\j∉d
    . rcases k j f.1 f.2 with⟨g,i⟩|⟨u,g,i,n⟩
      . grind
      . exact⟨u,λ_ _=>⟨⟨g,i⟩,λa ha=>by rw[n]at ha;cases ha;exact .lit _⟩⟩
    grind
   refine .kp b off N E e d (λj=>(key j).choose) m ac am am
def Go.TY(f:A.dir=true){m J kd g L ο i μ o args u fn b}(M:ο[i]?=some o)(w:o.op=.call ⟨.value (.func A.ng.wait),args,u⟩)(R:dC ο n s.env o)(y:Oper.ok n o=true)
 (S:P.funcs[A.ng.wait]?=some fn) (hb:fn.body.isSome=true) (z:(fn.name==  "runtime.NumGoroutine")=false) (ha:args.toList.map (aA s.env)=[.ref A.gb 0]) (B:s.σ A.fb=some .mC) (l:s.rc=.told kd g L) (p:yd P m φ n ro J kd g L Fin)
 (T:∀kk,(∀j,j<A.n->kk.cell A.fb (A.cell j)=some (A.val j))->∀t v,V kk v (cG s.env o.dst (.cx []) t)->V kk v (b t))
 (h:∀a,A.GI a->Go P m φ n ro (.inRegion ο μ::k) {s with env:=b,σ:=(s.σ.set A.mb a).set A.fb (.part (dB A.fo)),rc:=.no} J):Go P (vN P A Fin 0) φ n ro (.inRegion ο (i::μ)::k) s K:=by
 intro Q kk O τ ξ ν cs W q X;refine MB M w R y S hb z q λC N=>?_
 rw[ha]at N;obtain⟨v,rfl,D⟩:=Vs.one N;cases D;have c:=q.rc;rw[l]at c;obtain⟨rfl,rfl,E⟩:=c;rw[show vN P A Fin 0=_ from wS f];refine .fY lR rfl ⟨rfl,_,_,rfl,(q.rel.2 _ _ B rfl).2.1,λk' x a d F H I=>?_⟩ (λ_ _ _ h=>h.elim);obtain⟨e,U,r⟩:=q.put       (v:=.tuple #[]) (a:=.cx []) d M (.cx _ _ rfl am) (((q.rel.mono d).set H).set (.part _));show Fin k' _ (G _ _);rw[U,l];exact p _ _ k' _ e ξ (h a I) rfl ⟨r.size,λt ht=>T k' F t _ (r.env t ht),r.rel,r.ds,trivial⟩ (E.trans d)
def aa.TY(c:A.dir=true){m η w kd d x ο i μ o args f fn}  b  (y:ο[i]?=some o) (g:o.op=.call ⟨.value (.func A.ng.wait),args,f⟩) (z:o.guard=none) (l:Oper.ok n o=true)
 (B:P.funcs[A.ng.wait]?=some fn) (hb:fn.body.isSome=true) (p:(fn.name==  "runtime.NumGoroutine")=false) (ha:args.toList.map (aA s.env)=[.ref A.gb 0]) (q:s.σ A.fb=some .mC) (r:s.rc=.told kd d x) (e:yd P m φ n ro w kd d x Fin)
 (C:∀kk,(∀j,j<A.n->kk.cell A.fb (A.cell j)=some (A.val j))->∀t v,V kk v (cG s.env o.dst (.cx []) t)->V kk v (b t))
 (h:∀a,A.GI a->aa P m φ n ro η (.inRegion ο μ::k) {s with env:=b,σ:=(s.σ.set A.mb a).set A.fb (.part (dB A.fo)),rc:=.no} w):aa P (vN P A Fin 0) φ n ro η (.inRegion ο (i::μ)::k) s K:=λu=>
 Go.TY c y g (cP z) l B hb p ha q r e C λa ha=>h a ha (by simpa[oZ]using u)
def aa.acZ{m todo η}(f:m.solo=true)(B:lS)(t:B.dir=true)(C:lH P B.ng)(X:mP P B.ng)(w:kX P B.nm)(x:kY P B.nm)(F:sz P B.nm){a g}
 (z:s.σ B.gb=some (.cells [.lit (.int .u64 0),.lit (.int .u32 0)])) (A:s.σ B.fb=some (.part g)) (k:g B.fo=some (.int .i32 0)) (l:g (B.fo+1)=some (.int .u32 0)) (D:∀j,j<B.n->g (B.fo+2+j)≠none) (E:s.σ B.mb=some a) (o:a.gone=false) (p:B.GI a) (q:s.rc=.no)
 (h:∀  b   hb   Fin   kd   c   i ,yd P m φ n ro K kd c i Fin ->
   aa P (vN P (B.at b hb) Fin B.n) φ n ro η todo {s with σ:=((s.σ.del B.gb).del B.mb).set B.fb .mC,rc:=.told kd c i} (λ_ _=>False)):aa P m φ n ro η todo s K:=λr=>
 Go.Y6 f B C X w x F am z A k l am E o p q (λd y e=>by
  by_cases u:d=B.fb
  . simp_all
  by_cases G:d=B.mb
  . subst G;simp[af.set,af.del,u]at e
  by_cases v:d=B.gb
  . subst v;simp[af.set,af.del,u]at e
  simp  [af.set,af.del,v]at e
  grind) λb hb Fin kd c i H=>h b hb Fin kd c i H r
end
structure Ky(P:Rg)(t ft:Nat):Prop where
 hk:∃f g,P.underlying t=some (.struct #[f,g])/\(f.name≠ "_"/\f.type=ft/\f.offset=0)/\(g.name≠ "_"/\g.type=ft/\g.offset=1)
 hf:P.underlying ft=some (.int .i64)
 hs:P.stoodInHeld t=false
 hg:P.eqGuardType P.depth t=false
def Ky.of{P t ft}(a:(match P.underlying t with|some (.struct fs)=>(match fs.toList with|[f,g]=>f.name !=  "_" && f.type==ft && f.offset==0 && (g.name !=  "_" && g.type==ft && g.offset==1)|_=>false)|_=>false)=true)(b:P.underlying ft=some (.int .i64))(c:P.stoodInHeld t=false)(d:P.eqGuardType P.depth t=false):Ky P t ft:=by
 refine⟨?_,b,c,d⟩;split at a
 . next fs e=>
   split at a
   . next f g h=>
     simp  [bne_iff_ne]at a;refine⟨f,g,?_,⟨a.1.1.1,a.1.1.2,a.1.2⟩,a.2.1.1,a.2.1.2,a.2.2⟩;rw[e];congr 2
     grind
   grind
 grind
section
variable{P:Rg}(L:lz P){k:az}{O:au}{Kp:FU}{t ft:Nat}
theorem uB{K i c n v}(ht:L.tt ft=some i)(ha:i.agg=false)(a:c[n]?=some v)(h:K v k O):jm P (part ft c n) k O K Kp:=by
 refine ag (xe L ht ?_)
 simp_all [an]
variable(M:Ky P t ft){i:TI}(ht:L.tt ft=some i)(ha:i.agg=false)
include M ht ha
theorem Eo{K a b c d}(h:K (a==c && b==d) k O):jm P (Op.equal t (.agg #[.int .i64 a,.int .i64 b]) (.agg #[.int .i64 c,.int .i64 d])) k O K Kp:=by
 obtain⟨f,g,i,⟨j,l,m⟩,n,o,p⟩:=M.hk;show jm P (Op.equalIn (9998+1+1) t (.agg #[.int .i64 a,.int .i64 b]) (.agg #[.int .i64 c,.int .i64 d])) k O K Kp;rw[Op.equalIn];refine ag (dY i ?_);refine ag (cO ?_);rw[M.hs];simp only[zA,LK,La,Kn,LR];rw[wS j,l,m,wS n,o,p];refine ag (ag (ag (uB L ht ha rfl ?_)));refine ag (uB L ht ha rfl ?_);refine ag ?_;rw[Op.equalIn];refine ag (dY M.hf ?_);simp only;refine an ?_;cases e:(a==c)with
 |false=>grind [an]
 | true=>
   rw[e]at h;refine an ?_;simp only[];refine ag (ag (uB L ht ha rfl ?_));refine ag (uB L ht ha rfl ?_);refine ag ?_;refine ag (dY M.hf ?_)
   grind [an]
theorem Kz{c a b}(h:V k c (.agg [.lit (.int .i64 a),.lit (.int .i64 b)])):c=.agg #[.int .i64 a,.int .i64 b]:=by
 cases h with
 | agg c l e d=>
   obtain⟨f⟩:=c
   match f,e,d with
   |[p,q],_,d=>have g:=d 0 p _ rfl rfl;have i:=d 1 q _ rfl rfl;cases g;cases i;rfl
theorem GD{o ε σ K Kp op}{p:Nat}{x y a b c d r}(q:o.op=.binOp op t x y p)(u:aA ε x=.agg [.lit (.int .i64 a),.lit (.int .i64 b)])(v:aA ε y=.agg [.lit (.int .i64 c),.lit (.int .i64 d)])
 (f:(op=.eql/\r=(a==c && b==d))\/(op=.neq/\r=!(a==c && b==d))) (i:K (.lit (.bool r)) σ):bt P o ε σ K Kp:=
 bt.val (s:=λe=>do eqGuard op t x y (e x) (e y);binOp op t (e x) (e y)) (λe=>by simp[execOp,q]) λk O e g j=>by
  have l:=g x aq;have m:=g y aq;rw[u]at l;rw[v]at m;rw[Kz L M ht ha l,Kz L M ht ha m]
  have h:∀{R:Unit->az->au->Prop}{w:FU},R () k O->jm P (eqGuard op t x y (.agg #[.int .i64 a,.int .i64 b]) (.agg #[.int .i64 c,.int .i64 d])) k O R w:=λn=>by
   rcases f with⟨rfl,_⟩|⟨rfl,_⟩
   . refine ag (cO ?_)
     refine ag (cO ?_);rw[M.hg];exact an n
   . refine ag (cO ?_)
     refine ag (cO ?_);rw[M.hg];exact an n
  refine ag (h ?_);rcases f with⟨rfl,rfl⟩|⟨rfl,rfl⟩
  . exact ag  (Eo L M ht ha (an (.here ⟨.refl k,_,σ,.lit _,j,i⟩)))
  . exact ag  (Eo L M ht ha (an (.here ⟨.refl k,_,σ,.lit _,j,i⟩)))
end
structure Y7(P:Rg)(t ft:Nat):Prop where
 hk:P.underlying t=some (.array 4 ft)
 hf:P.underlying ft=some (.int .i64)
 hg:P.eqGuardType P.depth t=false
section
variable{P:Rg}(L:lz P){k:az}{O:au}{Kp:FU}{t ft:Nat}
variable(M:Y7 P t ft){i:TI}(ht:L.tt ft=some i)(ha:i.agg=false)(hz:i.size=1)
include M
theorem XS{K a b}(h:K (a==b) k O):jm P (Op.equalIn 9999 ft (.int .i64 a) (.int .i64 b)) k O K Kp:=by refine ag (dY M.hf ?_);exact an h
include ht ha
theorem CI{β K x y n a b}{f:Bool->Sem β}(c:x[n]?=some (.int .i64 a))(d:y[n]?=some (.int .i64 b))(h:jm P (f (a==b)) k O K Kp):jm P (do let p <-part ft x n;let q <-part ft y n;let r <-Op.equalIn 9999 ft p q;f r) k O K Kp:=(by grind [ag,uB,XS])
include hz
theorem ahC{K a b c d a' b' c' d'}(h:K (a==a' && (b==b' && (c==c' && d==d'))) k O):jm P (Op.equal t (.agg #[.int .i64 a,.int .i64 b,.int .i64 c,.int .i64 d]) (.agg #[.int .i64 a',.int .i64 b',.int .i64 c',.int .i64 d'])) k O K Kp:=by
 refine ag (dY M.hk ?_);refine ag (de L ht ?_);rw[hz];simp only[Std.Legacy.Range.forIn_eq_forIn_range',Std.Legacy.Range.size,List.range',Nat.reduceAdd,Nat.reduceSub,Nat.reduceDiv,Kn,LR];refine ag (ag (CI L M ht ha rfl rfl ?_));cases e:(a==a')with
 |false=>grind [an]
 |true=>
 refine an (ag (CI L M ht ha rfl rfl ?_));cases f:(b==b')with
 |false=>grind [an]
 |true=>
 refine an (ag (CI L M ht ha rfl rfl ?_));cases g:(c==c')with
 |false=>grind [an]
 |true=>
 refine an (ag (CI L M ht ha rfl rfl ?_))
 grind [an]
omit M ht ha hz in
theorem KA{c x y z w}(h:V k c (.agg [.lit (.int .i64 x),.lit (.int .i64 y),.lit (.int .i64 z),.lit (.int .i64 w)])):c=.agg #[.int .i64 x,.int .i64 y,.int .i64 z,.int .i64 w]:=by
 cases h with
 | agg c l b a=>
   obtain⟨d⟩:=c
   match d,b,a with
   |[p,q,r,s],_,a=>have e:=a 0 p _ rfl rfl;have f:=a 1 q _ rfl rfl;have g:=a 2 r _ rfl rfl;have i:=a 3 s _ rfl rfl;cases e;cases f;cases g;cases i;rfl
theorem agi{o ε σ K Kp}{i:Nat}{x y a b c d a' b' c' d'}(j:o.op=.binOp .neq t x y i)(l:aA ε x=.agg [.lit (.int .i64 a),.lit (.int .i64 b),.lit (.int .i64 c),.lit (.int .i64 d)])(m:aA ε y=.agg [.lit (.int .i64 a'),.lit (.int .i64 b'),.lit (.int .i64 c'),.lit (.int .i64 d')])
 (n:K (.lit (.bool (!(a==a' && (b==b' && (c==c' && d==d')))))) σ):bt P o ε σ K Kp:=
 bt.val (s:=λe=>do eqGuard .neq t x y (e x) (e y);binOp .neq t (e x) (e y)) (λe=>by simp[execOp,j]) λk O e f p=>by
  have g:=f x aq;have h:=f y aq;rw[l]at g;rw[m]at h;rw[KA g,KA h];refine ag (?_:jm P _ k O _ _);refine ag (cO (ag ?_));refine cO ?_;rw[M.hg];exact ag  (ahC L M ht ha hz (an (.here ⟨.refl k,_,σ,.lit _,p,n⟩)))
end
section
variable{P:Rg}{m:Mo}{φ n:Nat}{ro:Dm}{η:YA}{s:St}{K:Ci}{k:AJ}
def aa.op{ο i μ o}(f:ο[i]?=some o)(g:dC ο n s.env o)(b:Oper.ok n o=true)(d:∀c,o.op≠.defer c)
 (h:bt P o s.env s.σ (λa σ'=>aa P m φ n ro η (.inRegion ο μ::k) {s with env:=cG s.env o.dst a,σ:=σ'} K) (λa σ'=>K (.panic a) {s with σ:=σ'})):
 aa P m φ n ro η (.inRegion ο (i::μ)::k) s K:=λe=>Go.op f g b d (h.mono λa σ' q=>q (by simpa[oZ]using e))
end

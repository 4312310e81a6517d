import Derived.Test.YtkcceaplmgdnfaaGreatDoorC16
set_option linter.all false
set_option maxHeartbeats 1000000
set_option maxRecDepth 4000
namespace Go.Proofs.YtkcceaplmgdnfaaGreatDoor
open Go.Proofs.Tryz (prog)
section
open Go.cz Go.Conc
variable{m:Mo}{σ:ab}{KF:abW}
def jA(f:Fr)(x:Int):Bool:=decide (lZ f (aA x)=0)
def kB(f:Fr)(l:abR):Prop:=∀n a,Gh l n=some a->a=bool (jA f n)
theorem UJ:J2 prog 255 291 4 5 .u8:=.of (by kernel_rfl) (by kernel_rfl) (by kernel_rfl) (by kernel_rfl)
theorem O5  f   l :lZ f l=0\/lZ f l=1\/lZ f l=2\/lZ f l=3:=by unfold lZ;omega
theorem L4{f l}(h:lZ f l≠0):∃d a,UI (lZ f l)=.lS d a:=by
 rcases O5 f l with e|e|e|e
 . omega
 all_goals rw[e];exact⟨_,_,rfl⟩
theorem Je{f l x n a}(b:kB f l)(h:Gh (l++[(x,bool (jA f x))]) n=some a):a=bool (jA f n):=by
 unfold Gh dg at h;rw[List.find?_append]at h;cases e:l.find? (λp=>n==p.1)with
 |some p=>rw[e]at h;simp only[Option.some_or,ZZ,kn]at h;subst h;exact b n p.2 (by unfold Gh dg;rw[e];rfl)
 |none=>grind
theorem Rc{b mb f x Un Ld}(j:Li prog m nn b 6 mb .u8 (kB f) Un Ld)(E:f.Good)(F:NT f (aA x))(p:(aA x).length<20)(G:Un σ)(h:∀σ',Un σ'->oR b mb σ σ'->KF (.val (bool (jA f x))) σ'):az prog m 188 [lK b mb f 0,xL x] σ KF:=by
 refine fs Ut Tryz.func188 rfl (by kernel_rfl) ?_;simp[Tryz.f188];refine cf Tryz.func93 rfl (j.lock (qy _ _ _ _) G λH l o q r A=>?_);apply rn;simp;refine aa.defer rfl rfl rfl rfl (by simp) rfl ?_;apply rn;simp;refine wI lay (UJ.key lay Xn rfl) rfl Xm rfl rfl (j.map o) ?_;apply pg;simp
 have i:∀(env:Env) (g:ab) s,env 4=bool (jA f x)->Ld g s->kB f s->(∀c,c≠b->c≠mb->g c=σ c)->qL prog m (.func 94) [] [AV.kp b [jm f.aB,rows f.roads,int f.aQ,int f.eP,int f.cM,int f.aW,.lit (.int .i32 0),.lit (.int .u32 0),.map mb] [6,7] 6] .ret g (λt σ'=>Jz lay m [ResultVar.tmp 4] env (nk KF) [] t σ'):=λenv g s I u v J=>by
  refine qL.func Tryz.func94 rfl rfl (j.unlock (qy _ _ _ _) u v λw z K=>?_);refine⟨[env 4],rfl,.done ?_⟩;rw[show oneOf [env 4]=env 4 from rfl,I];refine h w z λc y O L B=>?_
  grind
 cases k:dg l x with
 |some a=>have M:=q x a k;subst M;simp;apply rn;simp;exact i _ _ _ (by simp) o q r
 | none=>
   simp;apply rn;simp;refine cf Tryz.func205 rfl (Lv ?_);apply rn;simp;refine cf Tryz.func144 rfl (Rb E F p ?_);apply rn;simp;have C:decide (lZ f (aA x)=0)=jA f x:=rfl;refine gq lay rfl Uh rfl (isNil:=jA f x) ?_ (.inl ⟨rfl,rfl⟩) ?_
   . by_cases D:lZ f (aA x)=0
     . left
       refine⟨?_,by simp_all⟩;simp[D];rfl
     . right
       obtain⟨d,a,e⟩:=L4 D
       simp_all
   apply rn;simp;refine qO (UJ.key lay Xn rfl) rfl rfl rfl rfl (j.map o) k ?_;apply pg;simp;apply rn;simp;refine i _ _ _ (by simp) (j.put o) (λn a N=>?_) (λc L B=>by rw[ab.ah _ _ B];simp_all);exact Je q (by simpa using N)
def fP(f:Fr)(begun:acm):Nat->acm->Int->acm->abQ
 |0,cW,_,_=>[cW]
 | fuel+1,cW,many,a=>(List.range (min (many+1) f.aW).toNat).flatMap λk:Nat=>
    if cW.length<begun.length/\begun.getD cW.length 0≠(k:Int)then[]
    else if jA f (bS (a.getD k 0) cW.length)=true then fP f begun fuel (cW++[(k:Int)]) (max many ((k:Int)+1)) (a.set k (bS (a.getD k 0) cW.length))else[]
def aH(f:Fr)(begun:acm):abQ:=fP f begun f.aB.length [] 0 [0,0,0,0,0,0]
def Mv(b mb:Nat)(F a:ach)(σ σ':ab):Prop:=∀c x,σ c=some x -> ¬F c->c≠b->(c≠mb\/x.plain=true)->σ' c=some x/\¬a c
theorem Mv.refl  b mb   F   σ :Mv b mb F F σ σ:=λ_ _ h a _ _=>⟨h,a⟩
theorem Mv.trans{b mb F g d σ σ' a}(h:Mv b mb F g σ σ')(k:Mv b mb g d σ' a):Mv b mb F d σ a:=λc x i j e f=>k c x (h c x i j e f).1 (h c x i j e f).2 e f
structure Ss  m   y  (W:abQ) (I:Nat->ach->acp) (E:ach->acp):Prop where
 step:∀  k   F   σ   KF   hk ,I k F σ->(∀F' σ',Gf F F' σ σ'->I (k+1) F' σ'->KF (.val (bool true)) σ')->(∀F' σ',Gf F F' σ σ'->E F' σ'->KF (.val (bool false)) σ')->bY prog m y [ints W[k]] σ KF
 frame:∀  k   F   σ σ' ,(∀c,F c->σ' c=σ c)->I k F σ->I k F σ'
 Rd:∀  F   σ σ' ,(∀c,F c->σ' c=σ c)->E F σ->E F σ'
 NS:∀  k   F   σ   c ,I k F σ->F c->∃x,σ c=some x/\x.plain=true
theorem Dm{b mb F a σ σ'}(h:Gf F a σ σ'):Mv b mb F a σ σ':=λc x d e _ _=>h c x e d
theorem pN{b mb GI Un Ld}(a:Li prog m nn b 6 mb .u8 GI Un Ld){d y}(f:Un σ)(hd:∀x,σ d=some x->x.plain=true):Un (σ.set d y):=a.un (λc _ ⟨x,g,h⟩=>ab.ah _ _ (λe=>by simp_all)) f
theorem xN{b mb GI Un Ld}(e:Li prog m nn b 6 mb .u8 GI Un Ld){F f σ'}(g:Un σ)(h:Gf F f σ σ')(hd:∀c,F c->∃x,σ c=some x/\x.plain=true):Un σ':=
 e.un (λc _ ⟨x,a,i⟩=>by
  have d:¬F c:=λd=>by grind
  rw[(h c x d a).1,a]) g
abbrev xO(a y:AV)(begun:acm)(cp:Nat):AV:=.fn (.func 189) [] [.cp a 0,.cp y 0,.cp (ints begun) 0,.ref cp 0]
abbrev bc(a:AV)(c4 cg:Nat):AV:=.fn (.func 185) [] [.ref c4 0,.cp a 0,.ref cg 0]
structure WS  b mb   f   y   begun   c4 cg cp  (hs:acm) (F:ach) (σ:ab):Prop where
 arr:σ c4=some (.cells (hs.map u8))
 UK:σ cg=some (.cells [xO (lK b mb f 0) y begun cp])
 pt:σ cp=some (.cells [bc (lK b mb f 0) c4 cg])
 out:¬F c4/\¬F cg/\¬F cp
 ne:c4≠cg/\c4≠cp
theorem WS.mv{b mb f y begun c4 cg cp d F g σ σ'}(h:WS b mb f y begun c4 cg cp d F σ)(hb:∃x,σ b=some x/\x.plain=false)(a:Mv b mb F g σ σ'):WS b mb f y begun c4 cg cp d g σ':=by
 obtain⟨x,j,k⟩:=hb;have ne:∀c l,σ c=some (.cells l)->c≠b:=λc l i e=>by subst e;rw[j]at i;cases i;cases k
 obtain⟨m,n⟩:=a c4 _ h.arr h.out.1 (ne _ _ h.arr) (.inr rfl);obtain⟨o,p⟩:=a cg _ h.UK h.out.2.1 (ne _ _ h.UK) (.inr rfl);obtain⟨q,r⟩:=a cp _ h.pt h.out.2.2 (ne _ _ h.pt) (.inr rfl);exact⟨m,o,q,⟨n,p,r⟩,h.ne⟩
structure Hs(f:Fr)(n:Nat)(hs:acm):Prop where
 qH:hs.length=6
 bits:∀x∈hs,∀e∈aA x,e<n
 small:∀x∈hs,0<=x/\x<64
section
variable{b mb:Nat}{f:Fr}{begun:acm}{y:AV}{W:abQ}{I:Nat->ach->acp}{E:ach->acp}{Un:acp}{Ld:ab->abR->Prop}{c4 cg cp:Nat}
def Qe(b mb:Nat)(Un:acp)(I:Nat->ach->acp)(E:ach->acp)(a n:Nat)(F:ach)(σ:ab)(KF:abW):Prop:=(∀d c,Mv b mb F d σ c->Un c->I (a+n) d c->KF (.val (bool true)) c)/\(∀d c,Mv b mb F d σ c->Un c->E d c->KF (.val (bool false)) c)
def L5(m:Mo)(b mb:Nat)(f:Fr)(begun:acm)(y:AV)(W:abQ)(I:Nat->ach->acp)(E:ach->acp)(Un:acp)(c4 cg cp:Nat)(fuel:Nat):Prop:=
 ∀ (cW:acm) (many:Int) (a:acm) (sp:na) (F:ach) (σ:ab) (pre post:abQ) (KF:abW),cW.length+fuel=f.aB.length->0<=many/\many<=6->Hs f cW.length a->WS b mb f y begun c4 cg cp a F σ->Un σ ->
   W=pre++fP f begun fuel cW many a++post->I pre.length F σ->Qe b mb Un I E pre.length (fP f begun fuel cW many a).length F σ KF ->
   az prog m 189 [.sl 1 (cW.map int) sp,int many,.cp (lK b mb f 0) 0,.cp y 0,.cp (ints begun) 0,.ref cp 0] σ KF
theorem O6:∀x:Fin 64,∀n:Fin 6,(0<=bS (x.val:Int) (n.val:Int)/\bS (x.val:Int) (n.val:Int)<64)/\(∀e∈aA (bS (x.val:Int) (n.val:Int)),e=(n.val:Int)\/e∈aA (x.val:Int))/\(n.val:Int)∈aA (bS (x.val:Int) (n.val:Int)):=by decide +kernel
theorem FF{x}{n:Nat}(b:0<=x/\x<64)(a:n<6):(0<=bS x n/\bS x n<64)/\(∀e∈aA (bS x n),e=(n:Int)\/e∈aA x)/\(n:Int)∈aA (bS x n):=by
 have:=O6 ⟨x.toNat,by omega⟩ ⟨n,a⟩
 grind
theorem L6{x e}(h:e∈aA x):0<=e/\e<6:=by
 unfold aA at h
 grind
theorem nG  x :(aA x).length<20:=by
 unfold aA
 grind
theorem Hs.set{n b}(h:Hs f n b)(d:n<6){k}  c :Hs f (n+1) (b.set k (bS b[k] n)):=by
 have g:=FF (h.small _ (zD c)) d;refine⟨by rw[aaM];exact h.qH,λx a e he=>?_,λx a=>?_⟩
 . rcases aaT a with a|rfl
   . have:=h.bits x a e he;omega
   . rcases g.2.1 e he with rfl|he
     . omega
     . have:=h.bits _ (zD c) e he;omega
 . rcases aaT a with a|rfl
   . exact h.small x a
   omega
theorem Hs.uW{n a}(h:Hs f n a)(d:n<f.aB.length)(g:f.aB.length<=6){k}(b:k<a.length):NT f (aA (bS a[k] n)):=by
 have c:=FF (h.small _ (zD b)) (n:=n) (by omega);refine⟨λe he=>⟨(L6 he).1,?_⟩,λq=>?_,by have:=nG (bS a[k] n);omega⟩
 . rcases c.2.1 e he with rfl|he
   . omega
   . have:=h.bits _ (zD b) e he;omega
 simp_all
theorem O7{d k x}{l:acm}(i:k<6)(c:l.length=6)(hd:σ d=some (.cells [u8 x]))(e:σ c4=some (.cells (l.map u8)))(h:KF (.val (.ck [])) (σ.set c4 (.cells ((l.set k x).map u8)))):az prog m 186 [.ref d 0,.ref c4 0,.cp (int k) 0] σ KF:=by
 have a:(k:Int)<6:=by omega
 have b:k<=5:=by omega
 have g:k<l.length:=by omega
 refine fs [] Tryz.func186 rfl (by kernel_rfl) ?_;simp[Tryz.f186,hd,e,a,c,b];rw[Ez (by simp_all),<-List.map_set (f:=u8)];exact .done h
theorem Re(N : Li prog m nn b 6 mb .u8 (kB f) Un Ld)(hf:f.Good)(dj:begun.length<1152921504606846976)(Y:Ss m y W I E){fuel}(hG:L5 m b mb f begun y W I E Un c4 cg cp fuel){cW many k n sp F pre post}(hlen:cW.length+(fuel+1)=f.aB.length)(b3:0<=many/\many<=6)(hk:k<6)
 (hh:Hs f cW.length n) (w:WS b mb f y begun c4 cg cp n F σ) (hu:Un σ){L}(U:L=if jA f (bS (n.getD k 0) cW.length)=true then fP f begun fuel (cW++[(k:Int)]) (max many ((k:Int)+1)) (n.set k (bS (n.getD k 0) cW.length))else[]) (hW:W=pre++L++post)
 (hI:I pre.length F σ) (hR:Qe b mb Un I E pre.length L.length F σ KF):az prog m 185 [.sl 1 (cW.map int) sp,int many,int k,.ref c4 0,.cp (lK b mb f 0) 0,.ref cg 0] σ KF:=by
 have h6:=hf.qH;have V:k<n.length:=by rw[hh.qH];exact hk
 have b4:n.getD k 0=n[k]:=by simp_all
 rw[b4]at U;have X:(k:Int)<6:=by omega
 have s:=w.arr;have av:=hh.qH;have Z:k<=5:=by omega
 have e1:List.take 1 (List.drop k (List.map u8 n))=[u8 n[k]]:=by rw[<-List.map_drop,aah V];rfl
 refine fs Ur Tryz.func185 rfl (by kernel_rfl) ?_
 simp[Tryz.f185,s,X,av,Z,e1];refine bV.intro λd hd=>?_
 have d4:d≠c4:=λe=>by simp_all
 have ax:=zj d4;simp;refine aa.defer rfl rfl rfl rfl (by simp) rfl ?_
 apply rn;simp[X];obtain⟨z,hz⟩:∃z,z=bS n[k] cW.length:=⟨_,rfl⟩;obtain⟨i,O⟩:∃i,i=n.set k z:=⟨_,rfl⟩;have b5:k<i.length:=by simp_all
 have ay:i[k]=z:=by simp_all
 have e2:List.take 1 (List.drop k (List.map u8 i))=[u8 z]:=by rw[<-List.map_drop,aah b5,ay];rfl
 have e3:aJ (List.map u8 n) k [u8 z]=List.map u8 i:=by simp_all
 have P:i.length=6:=by simp_all
 refine cf Tryz.func187 rfl (O0 (by omega) ?_)
 rw[<-hz];apply pg;simp[ax,ab.ah,s,av,Z,e3];apply rn;simp[X,P,Z,e2];have b6:cW.length<6:=by omega
 have b7:cW.length<f.aB.length:=by omega
 have b8:NT f (aA z):=by rw[hz];exact hh.uW b7 h6 V
 obtain⟨xb,b9,bb⟩:=N.So hu;have cb:∀c l,σ c=some (.cells l)->c≠b:=λc l t e=>by subst e;rw[b9]at t;cases t;cases bb
 have db:d≠b:=λe=>by simp_all
 have aC:Un ((σ.set d (.cells [u8 n[k]])).set c4 (.cells (i.map u8))):=pN N (pN N hu (λx A=>by simp_all)) (λx A=>by rw[ab.ah _ _ ax,s]at A;cases A;rfl)
 have aE:((σ.set d (.cells [u8 n[k]])).set c4 (.cells (i.map u8))) c4=some (.cells (i.map u8)):=ab.ai _ _ _;have aL:((σ.set d (.cells [u8 n[k]])).set c4 (.cells (i.map u8))) d=some (.cells [u8 n[k]]):=by rw[ab.ah _ _ d4,ab.ai]
 have H:∀c,c≠d->c≠c4->((σ.set d (.cells [u8 n[k]])).set c4 (.cells (i.map u8))) c=σ c:=λc r D=>by rw[ab.ah _ _ D,ab.ah _ _ r]
 have aO:¬F d:=λhF=>by
  obtain⟨x,A,_⟩:=Y.NS _ _ _ _ hI hF
  simp_all
 have a7:I pre.length F ((σ.set d (.cells [u8 n[k]])).set c4 (.cells (i.map u8))):=Y.frame _ _ _ _ (λc t=>H c (λe=>aO (e ▸ t)) (λe=>w.out.1 (e ▸ t))) hI
 generalize (σ.set d (.cells [u8 n[k]])).set c4 (.cells (i.map u8))=dm at aC aE aL H a7;refine cf Tryz.func188 rfl (Rc N hf b8 (nG _) aC λo b0 p=>?_)
 have B:o c4=some (.cells (i.map u8)):=p _ _ aE (cb _ _ s) (.inr rfl);have a8:o d=some (.cells [u8 n[k]]):=p _ _ aL db (.inr rfl);have gd:cg≠d:=λe=>by have:=w.UK;simp_all
 have J:o cg=some (.cells [xO (lK b mb f 0) y begun cp]):=p _ _ (by rw[H cg gd (zj w.ne.1)];exact w.UK) (cb _ _ w.UK) (.inr rfl)
 have bm:i.set k n[k]=n:=by simp_all
 have Q:∀(env:Env) (j:ab) (v:Bool),env 9=bool v->j d=some (.cells [u8 n[k]])->j c4=some (.cells (i.map u8))->KF (.val (bool v)) (j.set c4 (.cells (n.map u8)))->qL prog m (.func 186) [.ref d 0,.ref c4 0,.cp (int k) 0] [] .ret j (λbw g=>Jz lay m [ResultVar.tmp 9] env (nk KF) [] bw g):=λenv j v he bA bB hK=>by
  refine qL.func Tryz.func186 rfl rfl (O7 hk P bA bB ?_);refine⟨[env 9],rfl,.done ?_⟩
  simp_all
 have b1:Mv b mb F F σ (o.set c4 (.cells (n.map u8))):=λc x r D K h4=>by
  refine⟨?_,D⟩
  by_cases e:c=c4
  . simp_all
  . have e':c≠d:=λe'=>by simp_all
    rw[ab.ah _ _ e];exact p c x (by simp_all) K h4
 have a9:I pre.length F o:=Y.frame _ _ _ _ (λc t=>by
  obtain⟨x,r,D⟩:=Y.NS _ _ _ _ a7 t
  have c5:c≠b:=λe=>by grind
  rw[r];exact p c x r c5 (.inr D)) a7
 rw[<-hz,<-O]at U;cases R:jA f z with
 | false=>
   rw[R]at U;simp only[KD,LK]at U;subst U;apply pg;simp
   repeat' apply And.intro
   all_goals
    apply rn;simp;refine Q _ o true (by simp) a8 B (hR.1 F _ b1 (pN N b0 (λx A=>by rw[B]at A;cases A;rfl)) ?_)
    exact Y.frame _ _ _ _ (λc t=>ab.ah _ _ (λe=>w.out.1 (e ▸ t))) a9
 | true=>
   rw[R,ZG rfl]at U
   have ad:∀(j:ab) (C:na) (M:abW),o.Le j->(∀(v:Bool) g,g d=some (.cells [u8 n[k]])->g c4=some (.cells (i.map u8))->KF (.val (bool v)) (g.set c4 (.cells (n.map u8)))->M (.val (bool v)) g) ->
    az prog m 189 [.sl 1 ((cW++[(k:Int)]).map int) C,int (max many ((k:Int)+1)),.cp (lK b mb f 0) 0,.cp y 0,.cp (ints begun) 0,.ref cp 0] j M:=λj C M q hK=>by
    have c6:o cp=some (.cells [bc (lK b mb f 0) c4 cg]):=by
     have pd:cp≠d:=λe=>by have:=w.pt;simp_all
     exact p _ _ (by rw[H cp pd (zj w.ne.2)];exact w.pt) (cb _ _ w.pt) (.inr rfl)
    have c7:Un j:=N.un (λc _ ⟨x,r,_⟩=>by rw[r];exact q _ _ r) b0
    have c9:WS b mb f y begun c4 cg cp i F j:=⟨q _ _ B,q _ _ J,q _ _ c6,w.out,w.ne⟩
    have ca:I pre.length F j:=Y.frame _ _ _ _ (λc t=>by obtain⟨x,r,_⟩:=Y.NS _ _ _ _ a9 t;rw[r];exact q _ _ r) a9
    have S:∀(u:ach) (g:ab),Mv b mb F u j g->Mv b mb F u σ (g.set c4 (.cells (n.map u8))):=λu g hm c x r D K h4=>by
     by_cases e:c=c4
     . subst e
       obtain⟨q1,T⟩:=hm c _ (q _ _ B) D K (.inr rfl)
       simp_all
     . have e':c≠d:=λe'=>by simp_all
       rw[ab.ah _ _ e];exact hm c x (q _ _ (p c x (by simp_all) K h4)) D K h4
    have Ek:∀(u:ach) (g:ab),Mv b mb F u j g->g d=some (.cells [u8 n[k]])/\(g c4=some (.cells (i.map u8))/\¬u c4):=λu g hm=>⟨(hm d _ (q _ _ a8) aO db (.inr rfl)).1,hm c4 _ (q _ _ B) w.out.1 (cb _ _ s) (.inr rfl)⟩
    subst U;refine hG _ _ _ _ F j pre post M (by simp;omega) (by omega) (by rw[ZN,O,hz];exact hh.set b6 V) c9 c7 hW ca ⟨λu g r D K=>?_,λu g r D K=>?_⟩
    . obtain⟨q1,T,q3⟩:=Ek u g r
      exact hK true g q1 T (hR.1 u _ (S u g r) (pN N D (λx A=>by rw[T]at A;cases A;rfl)) (Y.frame _ _ _ _ (λc t=>ab.ah _ _ (λe=>q3 (e ▸ t))) K))
    . obtain⟨q1,T,q3⟩:=Ek u g r
      exact hK false g q1 T (hR.2 u _ (S u g r) (pN N D (λx A=>by rw[T]at A;cases A;rfl)) (Y.Rd _ _ _ (λc t=>ab.ah _ _ (λe=>q3 (e ▸ t))) K))
   have k1:-9223372036854775808<=(k:Int)+1/\(k:Int)+1<=9223372036854775807:=by omega
   have G:(if many<(k:Int)+1 then(k:Int)+1 else many)=max many ((k:Int)+1):=by omega
   apply pg;simp[J,k1.1,k1.2,G]
   repeat' (first
             |apply And.intro
             | (refine uM lay rfl dM rfl rS (es:=cW.map int) (sp:=sp) (l:=0) (h:=cW.length) (by simp) (λcap b2=>⟨⟨⟨.i64,by simp⟩,by simpa using b2⟩,⟨⟨.i64,by simp⟩,ZI _⟩,rfl⟩) (by simp) λa ha=>?_
                have cm:Tok o o a 1 (cW.map int):=by
                 rcases ha with rfl|⟨e,rfl⟩
                 . have:List.take (cW.length-0) (List.drop 0 (cW.map int))=cW.map int:=by rw[List.drop_zero,aan (by simp)]
                   rw[this];exact .exact _ _ _
                 . rw[e];exact .nil _ _
                clear ha;apply pg;simp[B,a8,J,k1.1,k1.2,G])
             | (refine aK lay rfl rfl rfl dM rfl dM rfl rS (by decide) (by simp;omega) (σ0:=o) (es:=cW.map int) (xs:=[int k]) (by simpa using cm) (.inr ⟨_,by simp;rfl⟩) λa' j al=>?_
                obtain⟨C,rfl⟩:∃C,a'=.sl 1 (cW.map int++[int k]) C:=by
                 rcases al.2 with⟨_,e⟩|e|⟨_,_,_,e,_⟩
                 . simp at e
                 . exact⟨_,e⟩
                 . exact⟨_,e⟩
                have cv:=al.1 _ _ J;apply pg;simp[cv,k1.1,k1.2,G])
             | (refine dY Tryz.func189 rfl rfl (by simp) (ad j C _ al.1 λv g q1 T q3=>?_)
                apply pg;simp;apply rn;simp;exact Q _ _ v (by simp) q1 T q3))
end
section
variable{b mb:Nat}{f:Fr}{begun:acm}{y:AV}{W:abQ}{I:Nat->ach->acp}{E:ach->acp}{Un:acp}{Ld:ab->abR->Prop}{c4 cg cp:Nat}
def oU(f:Fr)(begun:acm)(fuel:Nat)(cW:acm)(many:Int)(a:acm)(k:Nat):abQ:=
 if cW.length<begun.length/\begun.getD cW.length 0≠(k:Int)then[]
 else if jA f (bS (a.getD k 0) cW.length)=true then fP f begun fuel (cW++[(k:Int)]) (max many ((k:Int)+1)) (a.set k (bS (a.getD k 0) cW.length))else[]
theorem rJ  f   begun   fuel   cW   many   a :fP f begun (fuel+1) cW many a=(List.range (min (many+1) f.aW).toNat).flatMap (oU f begun fuel cW many a):=rfl
theorem Dp(K:Nat->abQ){k cnt}(h:k<cnt):∃rest,(List.range cnt).flatMap K=(List.range k).flatMap K++(K k++rest):=by
 obtain⟨n,rfl⟩:∃n,cnt=k+1+n:=⟨cnt-(k+1),by omega⟩;induction n with
 |zero=>exact⟨[],by rw[Nat.add_zero,ZQ,aaU];simp⟩
 | succ n a=>
   obtain⟨rest,b⟩:=a (by omega);refine⟨rest++K (k+1+n),?_⟩;rw[show k+1+(n+1)=(k+1+n)+1 by omega,ZQ,aaU,b];simp
theorem O8(P:Li prog m nn b 6 mb .u8 (kB f) Un Ld)(R:f.Good)(S:begun.length<1152921504606846976)(Y:Ss m y W I E)(T:y.cells=[y]):∀fuel ,L5 m b mb f begun y W I E Un c4 cg cp fuel:=by
 have h6:=R.qH;have ad:=R.aW;intro fuel
 induction fuel with
 | zero=>
   intro cW many h sp F σ pre post KF hlen l hh U G H J u;have V:(cW.length:Int)=f.aB.length:=by omega
   refine fs [] Tryz.func189 rfl (by kernel_rfl) ?_
   simp[Tryz.f189,V,T];have hk:pre.length<W.length:=by rw[H];simp[fP]
   have X:W[pre.length]=cW:=by subst H;simp[fP]
   refine bY.weaken (args':=[ints cW]) ?_ ⟨iq 1 _ sp,trivial⟩;rw[<-X];refine Y.step pre.length F σ _ hk J (λq d n x=>?_) (λq d n x=>?_)
   . apply rn
     simp;exact .done (u.1 q d (Dm n) (xN P G n (λc Z=>Y.NS _ _ _ c J Z)) x)
   . apply rn
     simp;exact .done (u.2 q d (Dm n) (xN P G n (λc Z=>Y.NS _ _ _ c J Z)) x)
 | succ fuel a7=>
   intro cW many h sp F σ pre post KF hlen l hh U G H J u;have V:((cW.length:Int)==f.aB.length)=false:=by grind
   have al:=U.pt;rw[rJ]at H u;obtain⟨cnt,K⟩:∃cnt:Nat,cnt=(min (many+1) f.aW).toNat:=⟨_,rfl⟩;rw[<-K]at H u;have L:(if f.aW<many+1 then f.aW else many+1)=(cnt:Int):=by omega
   have av:cnt<=6:=by omega
   have m1:-9223372036854775808<=many+1/\many+1<=9223372036854775807:=by omega
   refine fs [] Tryz.func189 rfl (by kernel_rfl) ?_
   simp[Tryz.f189,V,m1.1,m1.2,L];refine aa.loop cnt (λk s=>∃env d q,s=⟨env,d,[],.no⟩/\env 0=.sl 1 (cW.map int) sp/\env 1=int many/\env 2=.cp (lK b mb f 0) 0/\env 4=.cp (ints begun) 0/\env 5=.ref cp 0/\env 29=int cnt/\env 30=int k/\Mv b mb F q σ d/\Un d/\I (pre.length+((List.range k).flatMap (oU f begun fuel cW many h)).length) q d) ⟨_,_,F,rfl,by simp,by simp,by simp,by simp,by simp,by simp,by simp,Mv.refl b mb F σ,G,J⟩ ?_
   rintro c0 k _ hk ⟨env,d,q,rfl,B,n,x,C,M,g,i,o,z,a8⟩ ih
   rcases aag k cnt with g1|g1
   . have N:=U.mv (P.So G) o
     have w:=N.pt;obtain⟨rest,Q⟩:=Dp (oU f begun fuel cW many h) g1
     have a9:((List.range (k+1)).flatMap (oU f begun fuel cW many h)).length=((List.range k).flatMap (oU f begun fuel cW many h)).length+(oU f begun fuel cW many h k).length:=by rw[ZQ,aaU,ZN];simp
     by_cases g2:cW.length<begun.length/\begun.getD cW.length 0≠(k:Int)
     . have hK:oU f begun fuel cW many h k=[]:=ZG g2
       have e1:begun.getD cW.length 0=begun[cW.length]:=by grind
       have e2:(begun[cW.length] !=(k:Int))=true:=by grind
       apply rn;simp[B,C,g,i,g1,g2.1,e2];refine⟨by omega,ih _ g1 ⟨_,_,q,rfl,by simp[B],by simp[n],by simp[x],by simp[C],by simp[M],by simp[g],by simp,o,z,?_⟩⟩
       grind
     . have hK:oU f begun fuel cW many h k=if jA f (bS (h.getD k 0) cW.length)=true then fP f begun fuel (cW++[(k:Int)]) (max many ((k:Int)+1)) (h.set k (bS (h.getD k 0) cW.length))else[]:=ZB g2
       have p:∀A:abW,(∀(v:Bool) a j,Mv b mb F j σ a->Un a->(v=true->I (pre.length+((List.range (k+1)).flatMap (oU f begun fuel cW many h)).length) j a)->(v=false->E j a)->A (.val (bool v)) a)->az prog m 185 [.sl 1 (cW.map int) sp,int many,int k,.ref c4 0,.cp (lK b mb f 0) 0,.ref cg 0] d A:=λA O=>by
        refine Re P R S Y a7 (pre:=pre++(List.range k).flatMap (oU f begun fuel cW many h)) (post:=rest++post) hlen l (by omega) hh N z hK (by grind) (by grind) ⟨λj a r t D=>?_,λj a r t D=>?_⟩
        . refine O true a j (o.trans r) t (λ_=>?_) (λe=>by cases e)
          grind
        . exact O false a j (o.trans r) t (λe=>by cases e) (λ_=>D)
       by_cases g3:cW.length<begun.length
       . have e1:begun.getD cW.length 0=begun[cW.length]:=by grind
         have e2:(begun[cW.length] !=(k:Int))=false:=by grind
         apply rn;simp[B,n,C,M,g,i,g1,g3,e2,w];refine dY Tryz.func185 rfl rfl (by simp) (p _ λv a j r t D q4=>?_)
         cases v
         . apply rn
           simp;exact .done (u.2 j a r t (q4 rfl))
         . apply rn
           simp[i];refine⟨by omega,ih _ g1 ⟨_,_,j,rfl,?_,?_,?_,?_,?_,?_,?_,r,t,D rfl⟩⟩<;>simp[B,n,x,C,M,g]
       . apply rn
         simp[B,n,C,M,g,i,g1,g3,w];refine dY Tryz.func185 rfl rfl (by simp) (p _ λv a j r t D q4=>?_)
         cases v
         . apply rn
           simp;exact .done (u.2 j a r t (q4 rfl))
         . apply rn
           simp[i];refine⟨by omega,ih _ g1 ⟨_,_,j,rfl,?_,?_,?_,?_,?_,?_,?_,r,t,D rfl⟩⟩<;>simp[B,n,x,C,M,g]
   . have:k=cnt:=by omega
     subst this;apply rn;simp[g,i];exact .done (u.1 q d o z a8)
end
section
variable{b mb:Nat}{f:Fr}{begun:acm}{y:AV}{I:Nat->ach->acp}{E:ach->acp}{Un:acp}{Ld:ab->abR->Prop}
theorem BC{sp}(h:KF (.val (.fn (.func 184) [] [.cp (lK b mb f 0) 0,.cp (.sl 1 (begun.map int) sp) 0])) σ):az prog m 159 [lK b mb f 0,.sl 1 (begun.map int) sp] σ KF:=by
 refine fs [] Tryz.func159 rfl (by kernel_rfl) ?_;simp[Tryz.f159];exact .done h
theorem Yy  f :Hs f 0 [0,0,0,0,0,0]:=by
 refine⟨rfl,λx a e b=>?_,λx a=>?_⟩
 . have hb:aA 0=[]:=by decide +kernel
   simp_all
 simp_all
theorem Mv.le{F d σ0 σ'}(h:Mv b mb F d σ σ')(a:σ0.Le σ):Mv b mb F d σ0 σ':=λc x e f g i=>h c x (a c x e) f g i
theorem xP(r:Li prog m nn b 6 mb .u8 (kB f) Un Ld)(w:f.Good)(j:begun.length<1152921504606846976)(Y:Ss m y (aH f begun) I E)(d:y.cells=[y]/\y.flat=true){F}(z:Un σ)(k:I 0 F σ)
 (h:∀e σ',Mv b mb F e σ σ'->Un σ'->(I (aH f begun).length e σ'\/E e σ')->KF (.val (.ck [])) σ'):az prog m 184 [y,.cp (lK b mb f 0) 0,.cp (ints begun) 0] σ KF:=by
 refine fs [] Tryz.func184 rfl (by kernel_rfl) ?_;simp[Tryz.f184,d.1,d.2];refine bV.intro λc4 A=>?_
 simp;refine bV.intro λcg l=>?_
 obtain⟨J,s,l⟩:=ab.aP l;simp;refine bV.intro λcp i=>?_
 obtain⟨B,C,i⟩:=ab.aP i;obtain⟨K,t,i⟩:=ab.aP i;simp[C,ab.ah];have a:σ.Le ((((σ.set c4 (.cells [u8 0,u8 0,u8 0,u8 0,u8 0,u8 0])).set cg (.cells [.lit .nilFunc])).set cp (.cells [bc (lK b mb f 0) c4 cg])).set cg (.cells [xO (lK b mb f 0) y begun cp])):=(by repeat (first|exact ab.le_refl _|assumption|refine ab.fa ?_ (by assumption)|refine ab.lq ?_ (by assumption)));have D:((((σ.set c4 (.cells [u8 0,u8 0,u8 0,u8 0,u8 0,u8 0])).set cg (.cells [.lit .nilFunc])).set cp (.cells [bc (lK b mb f 0) c4 cg])).set cg (.cells [xO (lK b mb f 0) y begun cp])) c4=some (.cells (([0,0,0,0,0,0]:acm).map u8)):=by simp[s,t,ab.ah]
 have G:((((σ.set c4 (.cells [u8 0,u8 0,u8 0,u8 0,u8 0,u8 0])).set cg (.cells [.lit .nilFunc])).set cp (.cells [bc (lK b mb f 0) c4 cg])).set cg (.cells [xO (lK b mb f 0) y begun cp])) cg=some (.cells [xO (lK b mb f 0) y begun cp]):=by simp
 have sp:((((σ.set c4 (.cells [u8 0,u8 0,u8 0,u8 0,u8 0,u8 0])).set cg (.cells [.lit .nilFunc])).set cp (.cells [bc (lK b mb f 0) c4 cg])).set cg (.cells [xO (lK b mb f 0) y begun cp])) cp=some (.cells [bc (lK b mb f 0) c4 cg]):=by simp[B,ab.ah]
 have g:∀c,σ c=none -> ¬F c:=λc u H=>by
  obtain⟨x,n,_⟩:=Y.NS _ _ _ _ k H
  simp_all
 refine bY.weaken (args':=[.sl 1 (([]:acm).map int) .any,int 0]) ?_ ⟨fq 1,.refl _,trivial⟩;refine dY Tryz.func189 rfl rfl rfl (O8 (y:=y) r w j Y d.1 f.aB.length [] 0 [0,0,0,0,0,0] .any F _ [] [] _ (by simp) (by omega) (Yy f) ⟨D,G,sp,⟨g _ A,g _ l,g _ i⟩,⟨s,t⟩⟩ (r.un (λc _ ⟨x,v,_⟩=>by rw[v];exact a _ _ v) z) (by simp[aH]) (Y.frame _ _ _ _ (λc u=>by obtain⟨x,n,_⟩:=Y.NS _ _ _ _ k u;rw[n];exact a _ _ n) k) ⟨λe σ' o p q=>?_,λe σ' o p q=>?_⟩)
 . apply rn
   simp;refine .done (h e σ' (o.le a) p (.inl ?_));simpa[aH]using q
 . apply rn
   simp;exact .done (h e σ' (o.le a) p (.inr q))
end
section
variable{b mb:Nat}{f:Fr}{Un:acp}{Ld:ab->abR->Prop}
theorem O9(E:Li prog m nn b 6 mb .u8 (kB f) Un Ld)(U:f.Good)(R:Un σ)(h:∀σ',Un σ'->oR b mb σ σ'->KF (.val (bool (decide (aH f []≠[])))) σ'):az prog m 201 [lK b mb f 0] σ KF:=by
 refine fs [] Tryz.func201 rfl (by kernel_rfl) ?_
 simp[Tryz.f201];refine bV.intro λd h3=>?_
 simp;have V:Wl [lK b mb f 0,AV.lit (.slice none 0 0)] [lK b mb f 0,ints []]:=.cons (.refl _) (.cons (fq 1) .nil);refine cd Tryz.func159 rfl rfl V (BC (begun:=[]) ?_);apply rn;simp;refine aa.rangeFunc rfl λI r l J S o=>?_
 obtain⟨r1,W,J⟩:=ab.aP J;obtain⟨X,z,S⟩:=ab.aP S;generalize p:vU.mk _ _ _ _ _ _ _ _ _=G
 have Y:Ss m (.fn (.yield l) [] []) (aH f []) (λk F σ'=>k=0/\(∀c,F c↔c=l\/c=d)/\σ' l=some (.loop G)/\σ' d=some (.cells [bool false])) (λF σ'=>aH f []≠[]/\(∀c,F c↔c=l\/c=d)/\σ' l=some (.loop {G with state:=.done,pending:=some (.exit 0)})/\σ' d=some (.cells [bool true])):=by
  refine⟨λk F σ' Z hk A hT hF=>?_,λk F K a he A=>?_,λF K a he A=>?_,λk F σ' c A v=>?_⟩
  . obtain⟨rfl,i,H,L⟩:=A
    have e3:∀x,(σ'.set l x) d=some (.cells [bool false]):=λx=>by rw[ab.ah _ _ z];exact L
    subst p;refine bY.wG (hold:=[]) I Tryz.func201 H rfl ?_;apply rn;simp[mP];refine aa.beginRound H rfl ?_;apply rn;simp[e3];have M:aH f []≠[]:=λe=>by simp_all
    refine⟨rfl,rfl,_,((ab.ah _ _ X).trans (ab.ai _ _ _)),?_⟩;refine hF F _ (λc x v hx=>⟨?_,v⟩) ⟨M,i,ab.ai _ _ _,(ab.ah _ _ z).trans (ab.ai _ _ _)⟩
    have w:c≠l:=λe=>v ((i c).2 (.inl e))
    have B:c≠d:=λe=>v ((i c).2 (.inr e))
    exact(ab.ah _ _ w).trans ((ab.ah _ _ B).trans ((ab.ah _ _ w).trans hx))
  . simp_all
  . simp_all
  . obtain⟨rfl,i,H,L⟩:=A
    rcases(i c).1 v with rfl|rfl
    . exact⟨_,H,rfl⟩
    . exact⟨_,L,rfl⟩
 obtain⟨xb,a7,a8⟩:=E.So R;have nb:∀c,σ c=none->c≠b:=λc v e=>by simp_all
 have C:σ.Le (((σ.set d (.cells [bool false])).set r (.raw (.deferred (some [])))).set l (.loop G)):=(by repeat (first|exact ab.le_refl _|assumption|refine ab.fa ?_ (by assumption)|refine ab.lq ?_ (by assumption)))
 have sr:(((σ.set d (.cells [bool false])).set r (.raw (.deferred (some [])))).set l (.loop G)) r=some (.raw (.deferred (some []))):=by rw[ab.ah _ _ o,ab.ai]
 refine dY Tryz.func184 rfl rfl rfl (xP (F:=λc=>c=l\/c=d) E U (by simp) Y ⟨rfl,rfl⟩ (E.un (λc _ ⟨x,j,_⟩=>(C _ _ j).trans j.symm) R) ⟨rfl,λc=>ZS,ab.ai _ _ _,(ab.ah _ _ z).trans ((ab.ah _ _ W).trans (ab.ai _ _ _))⟩ λF' σ' D N n=>?_)
 have q:=(D r _ sr (λe=>by omega) (nb r J) (.inr rfl)).1
 have s:oR b mb σ σ':=λc x j y t=>(D c x (C c x j) (λe=>by grind) y t).1
 have O:∀a,a=(σ'.del l).set r (.raw (.deferred none))->Un a/\oR b mb σ a:=λa e=>by
  subst e;refine⟨E.un (σ:=σ') (λc _ ⟨x,j,y⟩=>?_) N,λc x j y t=>?_⟩
  . have w:c≠r:=λe=>by subst e;rw[q]at j;cases j;cases y
    have B:c≠l:=λe=>by
     subst e
     rcases n with⟨_,_,g,_⟩|⟨_,_,g,_⟩<;>rw[g]at j<;>cases j<;>cases y
    rw[ab.ah _ _ w];simp[ab.del,B]
  . have w:c≠r:=λe=>by simp_all
    have B:c≠l:=λe=>by simp_all
    rw[ab.ah _ _ w];simp only[ab.del,B,LK];exact s c x j y t
 rcases n with⟨T,_,P,q2⟩|⟨T,_,P,q2⟩
 . have Q:decide (aH f []≠[])=false:=by simp_all
   rw[Q]at h;subst p;refine⟨_,P,by simp,rfl,?_⟩
   have u:(σ'.del l) d=some (.cells [bool false]):=by simp only[ab.del,z,LK];omega
   apply rn;simp[u];refine⟨by simp only[ab.del,o,LK];exact q,.done ?_⟩
   simp_all
 . have Q:decide (aH f []≠[])=true:=by simp[T]
   rw[Q]at h;subst p;refine⟨_,P,by simp,rfl,?_⟩
   have u:(σ'.del l) d=some (.cells [bool true]):=by simp only[ab.del,z,LK];omega
   apply rn;simp[u];refine⟨by simp only[ab.del,o,LK];exact q,.done ?_⟩
   simp_all
end
end
section
open Go Go.cz
set_option maxRecDepth 100000
abbrev ng:Om:=⟨89,91,95,119,120,133,118,126,136,121,162,163,164,169,137,130,208,210,215⟩
theorem L7:∀(b:Nat) (kind:acr),aZ (A0 prog ng b kind).1=some (ng.je,[])/\(A0 prog ng b kind).1.env.all plain=true/\(A0 prog ng b kind).2=[]/\(A0 prog ng b kind).1.kind=kind:=by intro b kind;exact⟨by kernel_rfl,by kernel_rfl,by kernel_rfl,by kernel_rfl⟩
theorem L8:∀(b:Nat) (kind:acr),aZ (A1 prog ng b kind).1=some (ng.On,[])/\(A1 prog ng b kind).1.env.all plain=true/\(A1 prog ng b kind).2=[]/\(A1 prog ng b kind).1.kind=kind:=by intro b kind;exact⟨by kernel_rfl,by kernel_rfl,by kernel_rfl,by kernel_rfl⟩
theorem L9:∀(b:Nat) (kind:acr),aZ (A2 prog ng b kind).1=some (ng.sD,[pt b 0,u64 4294967296])/\vF (A2 prog ng b kind)=true/\(A2 prog ng b kind).1.env.all plain=true/\(A2 prog ng b kind).2.all (·.env.all plain)=true:=by intro b kind;exact⟨by kernel_rfl,by kernel_rfl,by kernel_rfl,by kernel_rfl⟩
theorem Ma:∀(b:Nat) (kind:acr) (a:Fl),j9 (A3 prog ng b kind (f1 a true)).1=some (ng.tS,ng.tU,pt b 1):=by intro b kind a;kernel_rfl
theorem Mb:∀(b:Nat) (kind:acr) (a:Fl),aZ (A4 prog ng b kind (f1 a true)).1=some (ng.rd,[pt b 1])/\(A4 prog ng b kind (f1 a true)).1.kind=kind:=by intro b kind a;exact⟨by kernel_rfl,by kernel_rfl⟩
theorem Mc:∀(b:Nat) (kind:acr) (a:Fl),rC (A5 prog ng b kind (f0 (f1 a true) false)).1=some ng.en/\(A5 prog ng b kind (f0 (f1 a true) false)).2=[]/\(A5 prog ng b kind (f0 (f1 a true) false)).1.kind=kind/\(A5 prog ng b kind (f0 (f1 a true) false)).1.fn=ng.add:=by intro b kind a;exact⟨by kernel_rfl,by kernel_rfl,by kernel_rfl,by kernel_rfl⟩
theorem Me:∀(b:Nat) (kind:acr) (a:Fl),rC (A3 prog ng b kind (f0 (f1 a false) false)).1=some ng.en/\(A3 prog ng b kind (f0 (f1 a false) false)).2=[]/\(A3 prog ng b kind (f0 (f1 a false) false)).1.kind=kind/\(A3 prog ng b kind (f0 (f1 a false) false)).1.fn=ng.add:=by intro b kind a;exact⟨by kernel_rfl,by kernel_rfl,by kernel_rfl,by kernel_rfl⟩
theorem Mf:∀(b:Nat),j9 (D0 prog ng b).1=some (ng.tG,ng.tU,pt b 0)/\(D0 prog ng b).1.env.all plain=true/\(D0 prog ng b).2.all (·.env.all plain)=true:=by intro b;exact⟨by kernel_rfl,by kernel_rfl,by kernel_rfl⟩
theorem Mg:∀(b:Nat),aZ (D1 prog ng b).1=some (ng.rel,[pt b 0])/\vF (D1 prog ng b)=true/\(D1 prog ng b).1.env.all plain=true/\(D1 prog ng b).2.all (·.env.all plain)=true:=by intro b;exact⟨by kernel_rfl,by kernel_rfl,by kernel_rfl,by kernel_rfl⟩
theorem Mh:∀(b:Nat),aZ (D2 prog ng b).1=some (ng.je,[])/\vF (D2 prog ng b)=true/\(D2 prog ng b).1.env.all plain=true/\(D2 prog ng b).2.all (·.env.all plain)=true:=by intro b;exact⟨by kernel_rfl,by kernel_rfl,by kernel_rfl,by kernel_rfl⟩
theorem Mi:∀(b:Nat),aZ (D3 prog ng b).1=some (ng.On,[])/\vF (D3 prog ng b)=true/\(D3 prog ng b).1.env.all plain=true/\(D3 prog ng b).2.all (·.env.all plain)=true:=by intro b;exact⟨by kernel_rfl,by kernel_rfl,by kernel_rfl,by kernel_rfl⟩
theorem Mj:∀(b:Nat),aZ (D4 prog ng b).1=some (ng.sD,[pt b 0,u64 18446744069414584320])/\vF (D4 prog ng b)=true/\(D4 prog ng b).1.env.all plain=true/\(D4 prog ng b).2.all (·.env.all plain)=true:=by intro b;exact⟨by kernel_rfl,by kernel_rfl,by kernel_rfl,by kernel_rfl⟩
theorem Mk:∀(b:Nat) (a:Fl) (x:Bool),rC (DE prog ng b (f0 a x) 0).1=some ng.en:=by intro b a x;cases x<;>kernel_rfl
theorem Jf:∀(b:Nat) (a:Fl) (x:Bool),jQ (lV prog (f0 a x) (DE prog ng b (f0 a x) 0)).1 ng.done=true/\(lV prog (f0 a x) (DE prog ng b (f0 a x) 0)).2=[]/\(lV prog (f0 a x) (DE prog ng b (f0 a x) 0)).1.kind=.deferred:=by intro b a x;cases x<;>exact⟨by kernel_rfl,by kernel_rfl,by kernel_rfl⟩
theorem Ml:∀(b:Nat) (a:Fl),rC (DE prog ng b (f0 a false) 1).1=some ng.en:=by intro b a;kernel_rfl
theorem Jg:∀(b:Nat) (a:Fl),jQ (lV prog (f0 a false) (DE prog ng b (f0 a false) 1)).1 ng.done=true/\(lV prog (f0 a false) (DE prog ng b (f0 a false) 1)).2=[]/\(lV prog (f0 a false) (DE prog ng b (f0 a false) 1)).1.kind=.deferred:=by intro b a;exact⟨by kernel_rfl,by kernel_rfl,by kernel_rfl⟩
theorem Mm:∀(b:Nat) (a:Fl),aZ (DE prog ng b (f0 a true) 1).1=some (ng.vt,[pt b 0])/\vF (DE prog ng b (f0 a true) 1)=true:=by intro b a;exact⟨by kernel_rfl,by kernel_rfl⟩
theorem Mn:∀(b:Nat) (a:Fl),aZ (D6 prog ng b (f0 a true)).1=some (ng.HP,[pt b 0,u64 0])/\vF (D6 prog ng b (f0 a true))=true:=by intro b a;exact⟨by kernel_rfl,by kernel_rfl⟩
theorem Mp:∀(b:Nat) (a:Fl),aZ (D7 prog ng b (f0 a true)).1=some (ng.n8,[pt b 1,ff,i64 0])/\vF (D7 prog ng b (f0 a true))=true:=by intro b a;exact⟨by kernel_rfl,by kernel_rfl⟩
theorem Mq:∀(b:Nat) (a:Fl),rC (D8 prog ng b (f0 a true)).1=some ng.en:=by intro b a;kernel_rfl
theorem Mr:∀(b:Nat) (a:Fl),jQ (lV prog (f0 a true) (D8 prog ng b (f0 a true))).1 ng.done=true/\(lV prog (f0 a true) (D8 prog ng b (f0 a true))).2=[]/\(lV prog (f0 a true) (D8 prog ng b (f0 a true))).1.kind=.deferred:=by intro b a;exact⟨by kernel_rfl,by kernel_rfl,by kernel_rfl⟩
theorem Ms:∀(b:Nat) (kind:acr),aZ (W0 prog ng b kind).1=some (ng.je,[])/\(W0 prog ng b kind).1.env.all plain=true/\(W0 prog ng b kind).2=[]/\(W0 prog ng b kind).1.kind=kind:=by intro b kind;exact⟨by kernel_rfl,by kernel_rfl,by kernel_rfl,by kernel_rfl⟩
theorem Mt:∀(b:Nat) (kind:acr),aZ (W1 prog ng b kind).1=some (ng.vt,[pt b 0])/\vF (W1 prog ng b kind)=true/\(W1 prog ng b kind).1.env.all plain=true/\(W1 prog ng b kind).2.all (·.env.all plain)=true:=by intro b kind;exact⟨by kernel_rfl,by kernel_rfl,by kernel_rfl,by kernel_rfl⟩
theorem Mw:∀(b:Nat) (kind:acr) (a:Fl),aZ (WE prog ng b kind (f0 a true)).1=some (ng.en,[])/\(WE prog ng b kind (f0 a true)).1.kind=kind:=by intro b kind a;exact⟨by kernel_rfl,by kernel_rfl⟩
theorem Mx:∀(b:Nat) (kind:acr) (a:Fl),j9 (WC prog ng b kind (f0 a true)).1=some (ng.tG,ng.tU,pt b 0):=by intro b kind a;kernel_rfl
theorem My:∀(b:Nat) (kind:acr) (a:Fl),aZ (WA prog ng b kind (f0 a true)).1=some (ng.acq,[pt b 0])/\(WA prog ng b kind (f0 a true)).1.kind=kind:=by intro b kind a;exact⟨by kernel_rfl,by kernel_rfl⟩
theorem Mz:∀(b:Nat) (kind:acr) (a:Fl),jQ (WB prog ng b kind (f0 a true)).1 ng.wait=true/\(WB prog ng b kind (f0 a true)).2=[]/\(WB prog ng b kind (f0 a true)).1.kind=kind:=by intro b kind a;exact⟨by kernel_rfl,by kernel_rfl,by kernel_rfl⟩
theorem MA:∀(b:Nat) (kind:acr) (a:Fl),aZ (WE prog ng b kind (f0 a false)).1=some (ng.wV,[pt b 0,.er 0,.er 1])/\vF (WE prog ng b kind (f0 a false))=true:=by intro b kind a;exact⟨by kernel_rfl,by kernel_rfl⟩
theorem MB:∀(b:Nat) (kind:acr) (a:Fl),GA [5] [[0]] (next prog (f0 a false) (WE prog ng b kind (f0 a false)) ff)=W1 prog ng b kind:=by intro b kind a;kernel_rfl
theorem MC:∀(b:Nat) (kind:acr) (a:Fl),j9 (W3 prog ng b kind (f0 a false)).1=some (ng.tS,ng.tU,pt b 1):=by intro b kind a;kernel_rfl
theorem MD:∀(b:Nat) (kind:acr) (a:Fl),aZ (Si prog ng b kind (f0 a false)).1=some (ng.wr,[pt b 1])/\(Si prog ng b kind (f0 a false)).1.kind=kind:=by intro b kind a;exact⟨by kernel_rfl,by kernel_rfl⟩
theorem ME:∀(b:Nat) (kind:acr) (a:Fl),aZ (W4 prog ng b kind (f0 a false)).1=some (ng.EG,[pt b 1,ff])/\(W4 prog ng b kind (f0 a false)).1.kind=kind:=by intro b kind a;exact⟨by kernel_rfl,by kernel_rfl⟩
theorem MF:∀(b:Nat) (kind:acr) (a:Fl),aZ (W5 prog ng b kind (f0 a false)).1=some (ng.vt,[pt b 0])/\vF (W5 prog ng b kind (f0 a false))=true:=by intro b kind a;exact⟨by kernel_rfl,by kernel_rfl⟩
theorem MG:∀(b:Nat) (kind:acr) (a:Fl),aZ (Sj prog ng b kind (f0 a false)).1=some (ng.en,[])/\(Sj prog ng b kind (f0 a false)).1.kind=kind:=by intro b kind a;exact⟨by kernel_rfl,by kernel_rfl⟩
theorem MH:∀(b:Nat) (kind:acr) (a:Fl),j9 (TA prog ng b kind (f0 a false)).1=some (ng.tG,ng.tU,pt b 0):=by intro b kind a;kernel_rfl
theorem MI:∀(b:Nat) (kind:acr) (a:Fl),aZ (Sk prog ng b kind (f0 a false)).1=some (ng.acq,[pt b 0])/\(Sk prog ng b kind (f0 a false)).1.kind=kind:=by intro b kind a;exact⟨by kernel_rfl,by kernel_rfl⟩
theorem MJ:∀(b:Nat) (kind:acr) (a:Fl),jQ (PV prog ng b kind (f0 a false)).1 ng.wait=true/\(PV prog ng b kind (f0 a false)).2=[]/\(PV prog ng b kind (f0 a false)).1.kind=kind:=by intro b kind a;exact⟨by kernel_rfl,by kernel_rfl,by kernel_rfl⟩
theorem Qf:gz prog ng where
 a0:=L7
 a1:=L8
 a2:=L9
 a3:=Ma
 a4:=Mb
 a5:=Mc
 a6:=Me
 d0:=Mf
 d1:=Mg
 d2:=Mh
 d3:=Mi
 d4:=Mj
 d5:=Mk
 Xb:=Jf
 d6:=Ml
 Xc:=Jg
 d7:=Mm
 d8:=Mn
 d9:=Mp
 da:=Mq
 db:=Mr
 w0:=Ms
 w1:=Mt
 w2:=Mw
 w3:=Mx
 w4:=My
 w5:=Mz
 w6:=MA
 w7:=MB
 w8:=MC
 w9:=MD
 wa:=ME
 wb:=MF
 wc:=MG
 wd:=MH
 we:=MI
 wf:=MJ
theorem Qg:iw prog ng where
 je:=⟨_,rfl,rfl,rfl,rfl,rfl⟩
 en:=⟨_,rfl,rfl,rfl,rfl,rfl⟩
 acq:=⟨_,rfl,rfl,rfl,rfl,rfl⟩
 rel:=⟨_,rfl,rfl,rfl,rfl,rfl⟩
 rd:=⟨_,rfl,rfl,rfl,rfl,rfl⟩
 wr:=⟨_,rfl,rfl,rfl,rfl,rfl⟩
 On:=⟨_,rfl,rfl,rfl,rfl,rfl⟩
 sD:=⟨_,rfl,rfl,rfl,rfl,rfl⟩
 vt:=⟨_,rfl,rfl,rfl,rfl,rfl⟩
 HP:=⟨_,rfl,rfl,rfl,rfl,rfl⟩
 wV:=⟨_,rfl,rfl,rfl,rfl,rfl⟩
 EG:=⟨_,rfl,rfl,rfl,rfl,rfl⟩
 n8:=⟨_,rfl,rfl,rfl,rfl,rfl⟩
 Xd:=⟨_,rfl,rfl,rfl⟩
 Xe:=⟨_,rfl,rfl,rfl⟩
 QP:=⟨_,_,rfl,rfl,rfl,rfl⟩
 Kw:=⟨_,_,rfl,rfl,rfl,rfl⟩
 Kx:=⟨_,_,rfl,rfl,rfl,rfl⟩
end
open Go.cz Go.Conc
variable{m:Mo}{σ:ab}{KF:abW}
theorem Rf:lY prog nn:=⟨⟨_,_,Tryz.func93,rfl,rfl,rfl⟩,⟨_,_,Tryz.func94,rfl,rfl,rfl⟩⟩
section
variable{b mb:Nat}{f:Fr}{A:bL}{j:Nat}{begun:acm}
theorem FG{b}(a:A.ng=ng){body}(hb:Tryz.f160.body=some body):aa prog (wZ prog A) 160 4 none [] [.code body] ⟨di [.ref A.gb 0,.cp (.chan A.cF) 0],jz A.fb,[],.told .deferred [cD prog] b⟩ (λ_ _=>False):=by
 simp only[Tryz.f160,kn]at hb;subst hb;refine aa.runN lay [] 2 ?_;simp;refine aa.Lh rfl (by rw[a];rfl) rfl (by simp) (by rw[a];exact Tryz.func95) rfl rfl rfl ?_;apply rn;simp;exact aa.E7 rfl rfl (by simp) rfl rfl rfl rfl rfl Tryz.func160 rfl rfl
theorem xQ{T}(U:A.fb=b/\A.mb=mb/\A.fo=6/\A.nm=nn/\A.ng=ng/\A.dir=false)(V:∀x,A.GI x↔∃l,x=mapA .u8 l/\kB f l)(W:f.Good)(N:A.res j=int (aH f begun).length)(t:begun.length<1152921504606846976)(hlen:(aH f begun).length<1152921504606846976){body}(hb:Tryz.f158.body=some body):
 aa prog (ib prog A j) 158 13 none [] [.code body] ⟨di [.ref A.gb 0,.cp (lK b mb f 0) 0,.cp (ints begun) 0,.cp (.chan A.cF) 0],jz A.fb,[],.told .deferred [cD prog] T⟩ (λ_ _=>False):=by
 obtain⟨rfl,rfl,u,v,m,g⟩:=U;simp only[Tryz.f158,kn]at hb;subst hb;have O:=Lj (P:=prog) (A:=A) g (j:=j) (kd:=.u8) V;rw[u,v]at O;apply rn;simp;refine aa.defer rfl rfl rfl rfl (by simp) rfl ?_
 apply rn;simp;refine bV.intro λcn X=>?_
 simp;refine cf Tryz.func159 rfl (BC (begun:=begun) (sp:=.any) ?_);apply rn;simp;refine aa.rangeFunc rfl λw r l y Q n=>?_
 obtain⟨r1,Y,y⟩:=ab.aP y;obtain⟨Z,q,Q⟩:=ab.aP Q;generalize o:vU.mk _ _ _ _ _ _ _ _ _=z
 have hY:Ss (ib prog A j) (.fn (.yield l) [] []) (aH f begun) (λk F a=>(∀c,F c↔c=l\/c=cn)/\a l=some (.loop z)/\a cn=some (.cells [int k])) (λF a=>False):=by
  refine⟨λk F a a7 hk i hT hF=>?_,λk F B C he i=>?_,λF B C he i=>i.elim,λk F a c i h=>?_⟩
  . obtain⟨d,s,D⟩:=i
    have e3:∀x,(a.set l x) cn=some (.cells [int k]):=λx=>(ab.ah _ _ q).trans D
    have f1:-9223372036854775808<=(k:Int)+1/\(k:Int)+1<=9223372036854775807:=by omega
    subst o;refine bY.wG (hold:=[]) w Tryz.func158 s rfl ?_;apply rn;simp[mP];refine aa.beginRound s rfl ?_;apply rn;simp[e3,f1.1,f1.2];refine⟨rfl,rfl,_,((ab.ah _ _ Z).trans (ab.ai _ _ _)),?_⟩;refine hT F _ (λc x h hx=>⟨?_,h⟩) ⟨d,ab.ai _ _ _,(ab.ah _ _ q).trans (ab.ai _ _ _)⟩
    have R:c≠l:=λe=>h ((d c).2 (.inl e))
    have c2:c≠cn:=λe=>h ((d c).2 (.inr e))
    exact(ab.ah _ _ R).trans ((ab.ah _ _ c2).trans ((ab.ah _ _ R).trans hx))
  . simp_all
  . obtain⟨d,s,D⟩:=i
    rcases(d c).1 h with rfl|rfl
    . exact⟨_,s,rfl⟩
    . exact⟨_,D,rfl⟩
 have hu:Xl A.fb (((jz A.fb).set cn (.cells [int 0])).set r (.raw (.deferred (some [])))|>.set l (.loop z)):=by
  have h0:(jz A.fb) A.fb=some .gL:=by simp[jz]
  have E:A.fb≠cn:=λe=>by simp_all
  have S:A.fb≠r:=λe=>by simp_all
  have G:A.fb≠l:=λe=>by simp_all
  show _=_;rw[ab.ah _ _ G,ab.ah _ _ S,ab.ah _ _ E];exact h0
 have nb:∀c,(jz A.fb) c=none->c≠A.fb:=λc h e=>by subst e;simp[jz]at h
 have sr:(((jz A.fb).set cn (.cells [int 0])).set r (.raw (.deferred (some [])))|>.set l (.loop z)) r=some (.raw (.deferred (some []))):=(ab.ah _ _ n).trans (ab.ai _ _ _)
 refine dY Tryz.func184 rfl rfl rfl (xP (F:=λc=>c=l\/c=cn) O W t hY ⟨rfl,rfl⟩ hu ⟨λc=>ZS,ab.ai _ _ _,(ab.ah _ _ q).trans ((ab.ah _ _ Y).trans (ab.ai _ _ _))⟩ λF' a H I p=>?_)
 have J:=(H r _ sr (λe=>by omega) (nb r y) (.inr rfl)).1
 rcases p with⟨_,E,S⟩|hE
 . subst o
   refine⟨_,E,by simp,rfl,?_⟩
   have K:(a.del l) cn=some (.cells [int (aH f begun).length]):=by simp only[ab.del,q,LK];omega
   have L:(a.del l) A.fb=some .gL:=by
    have G:A.fb≠l:=λe=>by grind
    simp only[ab.del,G,LK];exact I
   have M:(a.del l) r=some (.raw (.deferred (some []))):=by simp only[ab.del,n,LK];exact J
   apply rn;simp[K];refine aa.Lg g rfl rfl (by simp) rfl rfl (by simp_all) L rfl rfl Tryz.func158 rfl (by rw[m];exact Tryz.func91) rfl rfl ?_
   apply rn;simp;refine⟨rfl,.inl rfl,⟨_,rfl⟩,r,by rw[m],M⟩
 simp_all
end
def jq(j:Nat):acm:=if j=0 then[0,0]else[0,1]
def gV(f:Fr):Int:=if f.aB.length<2 then 1 else(aH f [0,0]).length+(aH f [0,1]).length
theorem Qh{v d}(l:v.cells=[v])(m:d.cells=[d])(h:v.W d):(AV.cp v 0).W (.cp d 0):=λk x n=>by
 cases n with
 | cp b base off N E v c o p f g=>
   rw[l]at p f g;refine .cp b base 0 N E d c o (by simp_all) (λj i=>f j (by simp_all)) (λj a e=>?_);rw[m]at e;have i:j=0:=by grind
   subst i;simp at e;subst e;exact h k _ (g 0 v rfl)
section
variable{b mb:Nat}{f:Fr}
theorem MK(U:m.solo=true)(A:f.Good)(hlen:(aH f [0,0]).length<1000000000/\(aH f [0,1]).length<1000000000)(q:b≠mb)(L:Sp b 6 mb .u8 (kB f) σ)(h:∀σ',Sp b 6 mb .u8 (kB f) σ'->oR b mb σ σ'->KF (.val (int (gV f))) σ'):az prog m 114 [lK b mb f 0] σ KF:=by
 have h6:=A.qH;unfold gV at h;refine fs [] Tryz.func114 rfl (by kernel_rfl) ?_
 simp[Tryz.f114]
 by_cases M:f.aB.length<2
 . have k:(f.aB.length:Int)<2:=by omega
   rw[ZG M]at h;simp[k];exact .done (h σ L (oR.refl b mb σ))
 have k:¬(f.aB.length:Int)<2:=by omega
 rw[ZB M]at h;obtain⟨V,lm,N,W⟩:=L;simp[k];refine C5 lay rfl GZ rfl rS rfl (by decide) λcF X=>?_
 apply rn;simp;refine bV.intro λy r=>?_
 obtain⟨n1,Y,r⟩:=ab.aP r;simp;refine bV.intro λgb g=>?_
 obtain⟨Z,n4,g⟩:=ab.aP g;obtain⟨n5,O,g⟩:=ab.aP g;simp;have P:cF≠b:=λe=>by simp_all
 have Q:cF≠mb:=λe=>by simp_all
 have b3:y≠b:=λe=>by simp_all
 have m3:y≠mb:=λe=>by simp_all
 have s:gb≠b:=λe=>by simp_all
 have gm:gb≠mb:=λe=>by simp_all
 refine aa.bD 3 (b:=y) (.chan cF) (by simp[n4,ab.ah]) (by simp) rfl ?_
 refine aa.bX U ⟨2,false,cF,b,6,gb,mb,λx=>∃l,x=mapA .u8 l/\kB f l,λj=>int (aH f (jq j)).length,λ_=>.tuple #[],nn,ng,by omega,P,O,Q,zj s,q,gm⟩ rfl Qf Qg zX zY Rf (tm:=false) (a:=mapA .u8 lm) (by simp[ab.del,ab.ah,Y,O]) (by simp[ab.del,Z]) (by simp[ab.del,ab.set,zj b3,zj s,zj P,V]) (by simp[ab.del,ab.set,zj m3,zj gm,zj Q,N]) (by simp[mapA,mQ]) ⟨lm,rfl,W⟩ rfl λpb a7 Fin kd a8 k0 t=>?_
 refine aa.uj ?_;refine aa.runN lay [] 18 ?_;simp;refine bV.intro λB C=>?_
 have d:B≠b:=λe=>by simp_all
 simp
 change aa _ _ _ _ _ _ _ _ _
 refine aa.bD 6 (b:=B) (.sl 1 [int 0,int 0] .exact) (ab.ai _ _ _) (by simp) rfl ?_
 refine aa.Ii 6 (a':=.cp (ints [0,0]) 0) (by simp;exact Qh rfl rfl (iq 1 [int 0,int 0] .exact)) ?_
 refine aa.Lf rfl rfl rfl (by simp) Tryz.func89 rfl rfl rfl ?_
 apply rn;simp;refine aa.tJ (hold':=[]) rfl rfl rfl (by simp) rfl Tryz.func158 rfl rfl (by simp_all) (by simp[gF.at,ab.del,ab.set,zj d]) (by kernel_rfl) (λR=>xQ (b:=b) (mb:=mb) (f:=f) (begun:=[0,0]) ⟨rfl,rfl,rfl,rfl,rfl,gF.xp _ _ _⟩ (λx=>ZS) A rfl (by simp) (by omega) rfl) ?_
 apply rn;simp;refine aa.again (by kernel_rfl) ?_
 refine aa.runN lay [] 18 ?_;simp;refine bV.intro λD u=>?_
 have n:D≠b:=λe=>by subst e;simp[ab.del,ab.set,zj d]at u
 simp
 change aa _ _ _ _ _ _ _ _ _
 refine aa.bD 6 (b:=D) (.sl 1 [int 0,int 1] .exact) (ab.ai _ _ _) (by simp) rfl ?_
 refine aa.Ii 6 (a':=.cp (ints [0,1]) 0) (by simp;exact Qh rfl rfl (iq 1 [int 0,int 1] .exact)) ?_
 refine aa.Lf rfl rfl rfl (by simp) Tryz.func89 rfl rfl rfl ?_
 apply rn;simp;refine aa.tJ (hold':=[]) rfl rfl rfl (by simp) rfl Tryz.func158 rfl rfl (by simp_all) (by simp[gF.at,ab.del,ab.set,zj n,zj d]) (by kernel_rfl) (λR=>xQ (b:=b) (mb:=mb) (f:=f) (begun:=[0,1]) ⟨rfl,rfl,rfl,rfl,rfl,gF.xp _ _ _⟩ (λx=>ZS) A rfl (by simp) (by omega) rfl) ?_
 apply rn;simp;refine aa.again (by kernel_rfl) ?_
 apply rn;simp;refine aa.V3 (by exact gF.xp _ _ _) (hold':=[]) rfl rfl rfl (by simp) rfl Tryz.func160 rfl rfl (by simp_all) (by simp[gF.at,ab.del,ab.set,zj n,zj d]) (by kernel_rfl) (λR=>FG rfl rfl) ?_
 apply rn;simp;refine aa.uj ?_;apply rn;simp;refine aa.GW lay rfl rfl GZ rfl rS (by simp) rfl rfl λi E=>?_
 have a9:∀j,(aH f (jq j)).length<1000000000:=λj=>by unfold jq;grind
 have f1:-9223372036854775808<=((aH f (jq i)).length:Int)/\((aH f (jq i)).length:Int)<=9223372036854775807:=by grind
 apply rn;simp[gF.at,f1.1,f1.2];refine aa.again (by kernel_rfl) ?_
 apply rn;simp;refine aa.GW lay rfl rfl GZ rfl rS (by simp) rfl rfl λo F=>?_
 have S:-9223372036854775808<=((aH f (jq i)).length:Int)+((aH f (jq o)).length:Int)/\((aH f (jq i)).length:Int)+((aH f (jq o)).length:Int)<=9223372036854775807:=by grind
 apply rn;simp[S.1,S.2];refine aa.again (by kernel_rfl) ?_
 apply rn;simp;refine aa.Bs lay rfl rfl GZ rfl rS (by simp) rfl rfl (by simp[ab.del,ab.set,zj n,zj d]) rfl t λa ha=>?_
 apply rn;simp
 have v:((aH f (jq i)).length:Int)+((aH f (jq o)).length:Int)=((aH f [0,0]).length:Int)+((aH f [0,1]).length:Int):=by
  have p:i∈List.range 2:=E;have z:o∈(List.range 2).erase i:=F;have:i=0\/i=1:=by simp_all
  rcases this with rfl|rfl
  . have:o=1:=by simp_all
    subst this;rfl
  . have:o=0:=by simp_all
    subst this;exact Int.add_comm _ _
 rw[v];obtain⟨la,rfl,G⟩:=ha;refine .done (h _ ⟨ab.ai _ _ _,la,(ab.ah _ _ (zj q)).trans (ab.ai _ _ _),G⟩ λc x p z w=>?_)
 have H:c≠mb:=λe=>by
  subst e;rw[N]at p;cases p
  rcases w with w|w
  . exact w rfl
  . cases w
 have I:c≠cF:=λe=>by simp_all
 have J:c≠y:=λe=>by simp_all
 have K:c≠gb:=λe=>by simp_all
 have T:c≠B:=λe=>by subst e;simp[ab.del,ab.set,H,I,J,K,z,p]at C
 have e6:c≠D:=λe=>by subst e;simp[ab.del,ab.set,H,I,J,K,T,z,p]at u
 simp[ab.del,ab.set,H,I,J,K,T,e6,z,p]
end
section
variable{b mb:Nat}{f:Fr}{Un:acp}{Ld:ab->abR->Prop}
theorem FH(Q:Li prog m nn b 6 mb .u8 (kB f) Un Ld)(hf:f.Good){G p}(z:G.cells=[G]/\G.flat=true)(U:∀w∈aH f [],∀  σ   KF ,KF (.val (bool (p w))) σ->bY prog m G [ints w] σ KF)(hlen:(aH f []).length<1152921504606846976)(hu:Un σ)
 (h:∀σ',Un σ'->oR b mb σ σ'->KF (.val (.ck [int (((aH f []).filter p).length),int (aH f []).length])) σ'):az prog m 203 [lK b mb f 0,G] σ KF:=by
 refine fs Qc Tryz.func203 rfl (by kernel_rfl) ?_
 simp[Tryz.f203,z.1,z.2];refine bV.intro λj h6=>?_
 simp;refine bV.intro λd h7=>?_
 obtain⟨R,z2,h7⟩:=ab.aP h7;simp[R,z2,ab.ah];have hW:Wl [lK b mb f 0,AV.lit (.slice none 0 0)] [lK b mb f 0,ints []]:=.cons (.refl _) (.cons (fq 1) .nil);refine cd Tryz.func159 rfl rfl hW (BC (begun:=[]) ?_);apply rn;simp;refine aa.rangeFunc rfl λV r l t u H=>?_
 obtain⟨a1,_,t⟩:=ab.aP t;obtain⟨a2,_,t⟩:=ab.aP t;obtain⟨_,_,t⟩:=ab.aP t;obtain⟨_,_,t⟩:=ab.aP t;obtain⟨a3,_,u⟩:=ab.aP u;obtain⟨a4,_,u⟩:=ab.aP u;obtain⟨_,_,u⟩:=ab.aP u;obtain⟨_,_,u⟩:=ab.aP u;have I:σ r=none/\r≠j/\r≠d:=⟨t,a2,a1⟩;have a:σ l=none/\l≠j/\l≠d:=⟨u,a4,a3⟩;generalize J:vU.mk _ _ _ _ _ _ _ _ _=K
 have hY:Ss m (.fn (.yield l) [] []) (aH f []) (λk F σ'=>(∀c,F c↔c=l\/c=j\/c=d)/\σ' l=some (.loop K)/\σ' j=some (.cells [int ((((aH f []).take k).filter p).length)])/\σ' d=some (.cells [int k])) (λF σ'=>False):=by
  refine⟨λk F σ' av hk D hT hF=>?_,λk F W n he D=>?_,λF W n he D=>D.elim,λk F σ' c D o=>?_⟩
  . obtain⟨i,S,X,Y⟩:=D
    have e7:∀x,(σ'.set l x) d=some (.cells [int k]):=λx=>(ab.ah _ _ (zj a.2.2)).trans Y
    have f1:-9223372036854775808<=(k:Int)+1/\(k:Int)+1<=9223372036854775807:=by omega
    have ax:(((aH f []).take k).filter p).length<=k:=ZH (aaH _ _) (by grind)
    have f2:-9223372036854775808<=((((aH f []).take k).filter p).length:Int)+1/\((((aH f []).take k).filter p).length:Int)+1<=9223372036854775807:=by omega
    have Z:(((aH f []).take (k+1)).filter p).length=(((aH f []).take k).filter p).length+if p (aH f [])[k]then 1 else 0:=by
     rw[zA hk,aaF,ZN]
     grind
    have L:(aH f [])[k]∈aH f []:=zD hk;subst J;refine bY.wG (hold:=Qc) V Tryz.func203 S rfl ?_;apply rn;simp[mP];refine aa.beginRound S rfl ?_;apply rn;simp[e7,f1.1,f1.2,z.1];refine U _ L _ _ ?_;have e6:∀x y,((σ'.set l x).set d y) j=some (.cells [int ((((aH f []).take k).filter p).length)]):=λx y=>(ab.ah _ _ (zj R)).trans ((ab.ah _ _ (zj a.2.1)).trans X)
    cases hp:p (aH f [])[k]
    . apply rn
      simp;refine⟨rfl,rfl,_,((ab.ah _ _ a.2.2).trans (ab.ai _ _ _)),?_⟩;refine hT F _ (λc x o hx=>⟨?_,o⟩) ⟨i,ab.ai _ _ _,?_,(ab.ah _ _ (zj a.2.2)).trans (ab.ai _ _ _)⟩
      . have A:c≠l:=λe=>o ((i c).2 (.inl e))
        have M:c≠d:=λe=>o ((i c).2 (.inr (.inr e)))
        exact(ab.ah _ _ A).trans ((ab.ah _ _ M).trans ((ab.ah _ _ A).trans hx))
      . refine(ab.ah _ _ (zj a.2.1)).trans ((e6 _ _).trans ?_)
        simp_all
    . apply rn
      simp[e6,f2.1,f2.2];refine⟨rfl,rfl,_,((ab.ah _ _ a.2.1).trans ((ab.ah _ _ a.2.2).trans (ab.ai _ _ _))),?_⟩;refine hT F _ (λc x o hx=>⟨?_,o⟩) ⟨i,ab.ai _ _ _,?_,(ab.ah _ _ (zj a.2.2)).trans ((ab.ah _ _ R).trans (ab.ai _ _ _))⟩
      . have A:c≠l:=λe=>o ((i c).2 (.inl e))
        have T:c≠j:=λe=>o ((i c).2 (.inr (.inl e)))
        have M:c≠d:=λe=>o ((i c).2 (.inr (.inr e)))
        exact(ab.ah _ _ A).trans ((ab.ah _ _ T).trans ((ab.ah _ _ M).trans ((ab.ah _ _ A).trans hx)))
      . refine(ab.ah _ _ (zj a.2.1)).trans ((ab.ai _ _ _).trans ?_)
        simp_all
  . simp_all
  . obtain⟨i,S,X,Y⟩:=D
    rcases(i c).1 o with rfl|rfl|rfl
    . exact⟨_,S,rfl⟩
    . exact⟨_,X,rfl⟩
    . exact⟨_,Y,rfl⟩
 obtain⟨xb,ay,aC⟩:=Q.So hu;have nb:∀c,σ c=none->c≠b:=λc o e=>by simp_all
 have N:σ.Le ((((((σ.set j (.cells [int 0])).set d (.cells [int 0])).set j (.cells [int 0])).set d (.cells [int 0])).set r (.raw (.deferred (some [])))).set l (.loop K)):=(by repeat (first|exact ab.le_refl _|assumption|refine ab.fa ?_ (by assumption)|refine ab.lq ?_ (by assumption)))
 have sr:((((((σ.set j (.cells [int 0])).set d (.cells [int 0])).set j (.cells [int 0])).set d (.cells [int 0])).set r (.raw (.deferred (some [])))).set l (.loop K)) r=some (.raw (.deferred (some []))):=(ab.ah _ _ H).trans (ab.ai _ _ _);have s7:((((((σ.set j (.cells [int 0])).set d (.cells [int 0])).set j (.cells [int 0])).set d (.cells [int 0])).set r (.raw (.deferred (some [])))).set l (.loop K)) d=some (.cells [int 0]):=(ab.ah _ _ (zj a.2.2)).trans ((ab.ah _ _ (zj I.2.2)).trans (ab.ai _ _ _))
 have s6:((((((σ.set j (.cells [int 0])).set d (.cells [int 0])).set j (.cells [int 0])).set d (.cells [int 0])).set r (.raw (.deferred (some [])))).set l (.loop K)) j=some (.cells [int 0]):=(ab.ah _ _ (zj a.2.1)).trans ((ab.ah _ _ (zj I.2.1)).trans ((ab.ah _ _ (zj R)).trans (ab.ai _ _ _)));refine dY Tryz.func184 rfl rfl rfl (xP (F:=λc=>c=l\/c=j\/c=d) Q hf (by simp) hY ⟨rfl,rfl⟩ (Q.un (λc _ ⟨x,s,_⟩=>(N _ _ s).trans s.symm) hu) ⟨λc=>ZS,ab.ai _ _ _,by simp_all,by omega⟩ λF' σ' O a7 v=>?_)
 have P:=(O r _ sr (λe=>by omega) (nb r t) (.inr rfl)).1
 have B:oR b mb σ σ':=λc x s E C=>(O c x (N c x s) (λe=>by grind) E C).1
 have a8:∀n,n=(σ'.del l).set r (.raw (.deferred none))->Un n/\oR b mb σ n:=λn e=>by
  subst e;refine⟨Q.un (σ:=σ') (λc _ ⟨x,s,E⟩=>?_) a7,λc x s E C=>?_⟩
  . have c1:c≠r:=λe=>by subst e;rw[P]at s;cases s;cases E
    have c2:c≠l:=λe=>by
     subst e
     rcases v with⟨_,g,_⟩|g
     . rw[g]at s;cases s;cases E
     omega
    rw[ab.ah _ _ c1];simp[ab.del,c2]
  . have c1:c≠r:=λe=>by simp_all
    have c2:c≠l:=λe=>by simp_all
    rw[ab.ah _ _ c1];simp only[ab.del,c2,LK];exact B c x s E C
 rcases v with⟨_,A,T,M⟩|q
 . rw[ZL]at T
   subst J;refine⟨_,A,by simp,rfl,?_⟩
   have a9:(σ'.del l) j=some (.cells [int ((aH f []).filter p).length]):=by simp only[ab.del,zj a.2.1,LK];exact T
   have ad:(σ'.del l) d=some (.cells [int (aH f []).length]):=by simp only[ab.del,zj a.2.2,LK];exact M
   apply rn;simp[a9,ad];apply rn;simp;refine⟨by simp only[ab.del,H,LK];exact P,.done ?_⟩
   simp_all
 simp_all
end
theorem zZ  f   begun :∀  fuel   cW   many   c ,∀w∈fP f begun fuel cW many c,w.length=cW.length+fuel
 |0,cW,many,c,w,b=>by simp[fP]at b;grind
 | fuel+1,cW,many,c,w,b=>by
   rw[rJ,aaQ]at b;obtain⟨k,_,a⟩:=b;unfold oU at a;split at a
   . cases a
   split at a
   . have:=zZ f begun fuel _ _ _ w a
     grind
   . cases a
section
variable{b mb:Nat}{f:Fr}{Un:acp}{Ld:ab->abR->Prop}
def lM(x y:Int)(w:acm):Bool:=decide (w.getD x.toNat 0=w.getD y.toNat 0)
theorem ML{w x y}(a:0<=x/\x.toNat<w.length)(b:0<=y/\y.toNat<w.length)(h:KF (.val (bool (lM x y w))) σ):az prog m 204 [ints w,.cp (int x) 0,.cp (int y) 0] σ KF:=by
 have c:w.getD x.toNat 0=w[x.toNat]:=by simp_all
 have d:w.getD y.toNat 0=w[y.toNat]:=by simp_all
 unfold lM at h;rw[c,d]at h;refine fs Uv Tryz.func204 rfl (by kernel_rfl) ?_;simp[Tryz.f204,a.1,a.2,b.1,b.2];apply rn;simp;refine .done ?_;omega
theorem Pa(c:Li prog m nn b 6 mb .u8 (kB f) Un Ld)(d:f.Good){x y}(e:0<=x/\x.toNat<f.aB.length)(g:0<=y/\y.toNat<f.aB.length)(hlen:(aH f []).length<1152921504606846976)(i:Un σ)
 (h:∀σ',Un σ'->oR b mb σ σ'->KF (.val (int (kW (((aH f []).filter (lM x y)).length:Int) (aH f []).length))) σ'):az prog m 181 [lK b mb f 0,int x,int y] σ KF:=by
 have a:∀w∈aH f [],w.length=f.aB.length:=λw a=>by have:=zZ f [] _ _ _ _ w a;simp_all
 refine fs [] Tryz.func181 rfl (by kernel_rfl) ?_
 simp[Tryz.f181];refine cf Tryz.func203 rfl (FH c d (p:=lM x y) ⟨rfl,rfl⟩ (λw j σ KF k=>dY Tryz.func204 rfl rfl rfl (ML ⟨e.1,by simp_all⟩ ⟨g.1,by simp_all⟩ k)) hlen i λσ' l n=>?_)
 apply rn;simp;refine cf Tryz.func202 rfl (Fp ?_);apply rn;simp;exact .done (h σ' l n)
end
theorem Jh(r:m.solo=true){f}{l:acm}{sp}(o:f.Fits)(p:check f=0)(s:∀n∈l,0<=n/\n<f.aB.length)(j:l.length<1152921504606846976)(g:aH f []≠[])(h:∀b mb σ',b≠mb->Sp b 6 mb .u8 (kB f) σ'->σ b=none/\σ mb=none->σ.Le σ'->KF (.val (.ck [lK b mb f 0,int 0])) σ'):az prog m 180 [dz f,.sl 1 (l.map int) sp] σ KF:=by
 have t:=Fr.qI o p;have u:=Fo p s;refine fs [] Tryz.func180 rfl (by kernel_rfl) ?_
 simp[Tryz.f180];have v:Wl [AV.agg (G1 f),.sl 1 (l.map int) sp] [dz f,ints l]:=.cons (.refl _) (.cons (iq 1 _ sp) .nil);refine cd Tryz.func113 rfl rfl v (G3 o j (λq=>absurd u q) λ_ b mb σ' d=>?_)
 have w:Sp b 6 mb .u8 (kB f) σ':=by rw[d.eq];exact⟨ab.ai _ _ _,[],(ab.ah _ _ (zj d.ne)).trans (ab.ai _ _ _),λn a h=>by simp[dg]at h⟩
 apply rn;simp;refine cf Tryz.func201 rfl (O9 (C' zX zY Rf r d.ne) t w λk y z=>?_)
 apply rn;simp[g];refine .done (h b mb k d.ne y ⟨d.hb,d.BV⟩ λc x i=>?_)
 have A:c≠b:=λe=>by subst e;rw[d.hb]at i;cases i
 have B:c≠mb:=λe=>by subst e;rw[d.BV]at i;cases i
 exact z c x (d.le c x i) A (.inl B)
theorem Pb(j:m.solo=true){f}{x y:Int}(k:f.Fits)(o:check f=0)(d:0<=x/\x<f.aB.length)(p:0<=y/\y<f.aB.length)(a:aH f []≠[])(hlen:(aH f []).length<1152921504606846976)(h:KF (.val (.ck [int (kW (((aH f []).filter (lM x y)).length:Int) (aH f []).length),int 0])) σ):az prog m 148 [dz f,int x,int y] σ KF:=by
 have q:=Fr.qI k o;refine fs [] Tryz.func148 rfl (by kernel_rfl) ?_;simp[Tryz.f148];refine cf Tryz.func180 rfl (Jh (l:=[x,y]) (sp:=.exact) j k o (λn A=>by grind) (by simp) a λb mb r g s t i=>?_);apply rn;simp;refine cf Tryz.func181 rfl (Pa (C' zX zY Rf j g) q ⟨d.1,by omega⟩ ⟨p.1,by omega⟩ hlen s λu B v=>?_);apply rn;simp;refine .less (λc x d=>?_) (.done h);have w:c≠b:=λe=>by simp_all
 have z:c≠mb:=λe=>by simp_all
 exact v c x (i c x d) w (.inl z)
theorem MM(l:m.solo=true){f}(j:f.Fits)(k:check f=0)(hlen:(aH f [0,0]).length<1000000000/\(aH f [0,1]).length<1000000000)(h:KF (.val (.ck [int (gV f),int 0])) σ):az prog m 74 [dz f] σ KF:=by
 have o:=Fr.qI j k;have p:=Di k;refine fs [] Tryz.func74 rfl (by kernel_rfl) ?_
 simp[Tryz.f74];have r:Wl [AV.agg (G1 f),AV.lit (.slice none 0 0)] [dz f,ints []]:=.cons (.refl _) (.cons (fq 1) .nil);refine cd Tryz.func113 rfl rfl r (G3 j (by simp) (λq=>absurd p q) λ_ b mb i d=>?_)
 have s:Sp b 6 mb .u8 (kB f) i:=by rw[d.eq];exact⟨ab.ai _ _ _,[],(ab.ah _ _ (zj d.ne)).trans (ab.ai _ _ _),λn a h=>by simp[dg]at h⟩
 apply rn;simp;refine cf Tryz.func114 rfl (MK l o hlen d.ne s λt y u=>?_)
 apply rn;simp;refine .less (λc x g=>?_) (.done h)
 have v:c≠b:=λe=>by subst e;rw[d.hb]at g;cases g
 have w:c≠mb:=λe=>by subst e;rw[d.BV]at g;cases g
 exact u c x (d.le c x g) v (.inl w)
def bE(w:acm):Int:=w.foldl (λn k=>max n (k+1)) 0
theorem MN{l b}(m:l.length=b.length)(f:∀(i:Nat) a a',l[i]?=some a->b[i]?=some a'->a.W a'):(AV.ck l).W (.ck b):=λk x g=>by
 cases g with
 | ck c _ n h=>
   refine .ck c b (by omega) λi v a' j d=>?_
   have e:i<l.length:=by grind
   exact f i l[i] a' (by simp[e]) d k v (h i v _ j (by simp[e]))
theorem G5:∀{es},(∀a∈es,a.cells=[a])->flatten es=es
 |[],_=>rfl
 |a::es,h=>by rw[flatten_cons,h a (abw ..),G5 λx b=>h x (aaC _ b)];rfl
theorem UL{es d sp}(n:es.length=d.length)(o:∀a∈es,a.cells=[a])(f:∀a∈d,a.cells=[a])(p:∀(i:Nat) a a',es[i]?=some a->d[i]?=some a'->a.W a'):(AV.sl 1 es sp).W (.sl 1 d .any):=λk x q=>by
 cases q with
 | sl b off cap v N E _ _ c h r s w t l y=>
   rw[G5 o]at t l;rw[n]at h ⊢;refine .sl b off cap 1 N E d .any c h r s (λe z=>by simp_all) (λj g=>?_) (λj a m=>?_) trivial
   . rw[G5 f]at g
     simp_all
   . rw[G5 f]at m
     have g:j<es.length:=by grind
     exact p j es[j] a (by simp[g]) m k _ (l j _ (by simp[g]))
 | slnil u=>
   have:d=[]:=by grind
   subst this;exact .slnil u 1 .any (.inl rfl)
theorem pP{l b}(m:l.length=b.length)(f:∀(i:Nat) a a',l[i]?=some a->b[i]?=some a'->a.W a'):(AV.agg l).W (.agg b):=λk x g=>by
 cases g with
 | agg c _ n h=>
   refine .agg c b (by omega) λi v a' j d=>?_
   have e:i<l.length:=by grind
   exact f i l[i] a' (by simp[e]) d k v (h i v _ j (by simp[e]))
def bj(c:Nat)(nums:acm)(k:Nat)(σ:ab):Prop:=∃(n:Nat) (s:Int),n<=k/\σ c=some (.cells [ints nums,int n,.lit (.int .u64 s)])
theorem Ji{nums}(h:∀c σ',σ c=none->bj c nums 0 σ'->(∀x,x≠c->σ' x=σ x)->KF (.val (.ref c 0)) σ'):az prog m 10 [ints nums] σ KF:=by
 refine az.start lay [5] [] 1 Tryz.func10 rfl rfl (by rfl) (by kernel_rfl) ?_;simp[Tryz.f10];refine bV.intro λc a=>?_
 simp;exact .done (h c _ a ⟨0,_,ZI _,ab.ai _ _ _⟩ λx b=>ab.ah _ _ b)
theorem Pd  a b :0<=IntKind.u64.wrap (((BitVec.ofInt 64 a ^^^ BitVec.ofInt 64 b).toNat:Nat):Int)/\IntKind.u64.wrap (((BitVec.ofInt 64 a ^^^ BitVec.ofInt 64 b).toNat:Nat):Int)<18446744073709551616:=by generalize (((BitVec.ofInt 64 a ^^^ BitVec.ofInt 64 b).toNat:Nat):Int)=x;simp only[IntKind.wrap,IntKind.signed,IntKind.bits];simp;omega
theorem MO{x:Int}(h:0<=x/\x<18446744073709551616):0<=x.fdiv (2 ^ min 11 IntKind.u64.bits)/\x.fdiv (2 ^ min 11 IntKind.u64.bits)<9007199254740992:=by
 have e:(2:Int) ^ min 11 IntKind.u64.bits=2048:=by decide
 grind
theorem Pe{c k nums}(B:k<1000000)(C:nums.length<1152921504606846976)(hb:bj c nums k σ)(h:∀  x  σ',0<=x/\x<9007199254740992->bj c nums (k+1) σ'->(∀y,y≠c->σ' y=σ y)->KF (.val (.lit (.int .u64 x))) σ'):az prog m 53 [.ref c 0] σ KF:=by
 obtain⟨n,s,w,l⟩:=hb;have t:-9223372036854775808<=(n:Int)+1/\(n:Int)+1<=9223372036854775807:=by omega
 obtain⟨fm,d⟩:∃f:Int->Int->Int,∀a b,oV .mul .u64 a b=some (.int .u64 (f a b)):=⟨_,λ_ _=>rfl⟩;obtain⟨D,g,r⟩:∃f:Int->Int->Int,(∀a b,oV .xor .u64 a b=some (.int .u64 (f a b)))/\∀a b,0<=f a b/\f a b<18446744073709551616:=⟨_,λ_ _=>rfl,Pd⟩;refine az.E8 lay [] Wa 27 1 Tryz.func53 rfl rfl (by rfl) (by kernel_rfl) ?_;simp[Tryz.f53,l,t.1,t.2,aJ,d];refine aa.iC (λe i=>e 0=.ref c 0/\(∃z,e 3=.lit (.int .u64 z))/\i c=some (.cells [ints nums,int ((n:Int)+1),.lit (.int .u64 s)])/\∀y,y≠c->i y=σ y) (by simp;intro y p;exact ab.ah _ _ p) ?_;clear l;rintro env i ⟨o,⟨z,q⟩,l,j⟩;refine aa.runN lay [] 2 ?_;simp[o,l];refine aa.runN lay [] 2 ?_;simp;refine aG.intro (λu=>?_) (λu=>?_)<;>simp[-Int.not_lt,-Int.not_le,-Nat.not_lt,-Nat.not_le]at u
 . have E:(n:Int)<nums.length:=by omega
   have A:n<nums.length:=by omega
   have v:-9223372036854775808<=(n:Int)/\(n:Int)<=9223372036854775807:=by omega
   simp[o,q,l,A,v.1,v.2,d,g];refine aa.iC (λe i=>e 0=.ref c 0/\(∃z,e 3=.lit (.int .u64 z))/\i c=some (.cells [ints nums,int ((n:Int)+1),.lit (.int .u64 s)])/\∀y,y≠c->i y=σ y) (by simp_all) ?_;clear o q l j;rintro env i ⟨o,⟨z,q⟩,l,j⟩;apply rn;simp[o,q,l,d,g,aJ];refine aa.iC (λe i=>e 0=.ref c 0/\(∃s,i c=some (.cells [ints nums,int ((n:Int)+1),.lit (.int .u64 s)]))/\∀y,y≠c->i y=σ y) (by refine⟨by simp[o],⟨_,by simp;rfl⟩,λy p=>?_⟩;simp[ab.ah,p,j y p]) ?_;clear o q l j;rintro env i ⟨o,⟨z,l⟩,j⟩;apply rn;simp[o,l,d,g];refine .done (h _ i (MO (r _ _)) ⟨n+1,z,by omega,by simp_all⟩ j)
 . simp
   apply rn;simp[o,q,l,d,g,aJ];refine aa.iC (λe i=>e 0=.ref c 0/\(∃s,i c=some (.cells [ints nums,int ((n:Int)+1),.lit (.int .u64 s)]))/\∀y,y≠c->i y=σ y) (by refine⟨by simp[o],⟨_,by simp;rfl⟩,λy p=>?_⟩;simp[ab.ah,p,j y p]) ?_;clear o q l j;rintro env i ⟨o,⟨z,l⟩,j⟩;apply rn;simp[o,l,d,g];refine .done (h _ i (MO (r _ _)) ⟨n+1,z,by omega,by simp_all⟩ j)
def oZ(c:Nat)(nums:acm)(k:Nat)(σ σ':ab):Prop:=bj c nums k σ'/\∀y,y≠c->σ' y=σ y
theorem oZ.trans{c nums k k' σ σ' a}(h:oZ c nums k σ σ')(b:oZ c nums k' σ' a):oZ c nums k' σ a:=⟨b.1,λy d=>(b.2 y d).trans (h.2 y d)⟩
theorem bj.mono{c nums k k'}(h:bj c nums k σ)(b:k<=k'):bj c nums k' σ:=by obtain⟨n,s,d,a⟩:=h;exact⟨n,s,by omega,a⟩
theorem MP{n}(h:0<=n/\n<18446744073709551616):IntKind.u64.wrap n=n:=by simp only[IntKind.wrap,IntKind.signed,IntKind.bits];simp;omega
theorem Rg{n}(h:-9223372036854775808<=n/\n<=9223372036854775807):IntKind.i64.wrap n=n:=by simp[IntKind.wrap,IntKind.signed,IntKind.bits];omega
section
variable{c k:Nat}{nums:acm}
theorem eV{n}(f:k<1000000)(g:nums.length<1152921504606846976)(i:-4611686018427387904<=n/\n<4611686018427387904)(hb:bj c nums k σ)(h:∀  x  σ',0<=x/\(x<=n\/x=0)->oZ c nums (k+1) σ σ'->KF (.val (int x)) σ'):az prog m 18 [.ref c 0,int n] σ KF:=by
 refine fs [] Tryz.func18 rfl (by kernel_rfl) ?_;simp[Tryz.f18];refine cf Tryz.func53 rfl (Pe f g hb λx σ' j a b=>?_);apply rn;simp;refine aG.intro (λd=>?_) (λd=>?_)<;>simp[-Int.not_lt,-Int.not_le]at d
 . simp
   exact .done (h 0 σ' ⟨by omega,.inr rfl⟩ ⟨a,b⟩)
 . have l:IntKind.u64.wrap n=n:=MP (by omega)
   have o:oV .add .u64 n 1=some (.int .u64 (n+1)):=by show some (Value.int .u64 (IntKind.u64.wrap (n+1)))=_;rw[MP (by omega)]
   obtain⟨r,e,p⟩:∃r:Int,(0<=r/\r<=n)/\oV .rem .u64 x (n+1)=some (.int .u64 r):=by
    refine⟨x.tmod (n+1),⟨Int.tmod_nonneg _ j.1,?_⟩,by simp[oV];omega⟩;have:=Int.tmod_lt_of_pos x (show 0<n+1 by omega);omega
   have q:IntKind.i64.wrap r=r:=Rg (by omega);simp[l,o,p,q];exact .done (h r σ' ⟨e.1,.inl e.2⟩ ⟨a,b⟩)
theorem eF{lo hi}(d:k<1000000)(e:nums.length<1152921504606846976)(f:-1000000000<=lo/\lo<=1000000000)(g:-1000000000<=hi/\hi<=1000000000)(hb:bj c nums k σ)(h:∀  x  σ',lo<=x/\(x<=hi\/x=lo)->oZ c nums (k+1) σ σ'->KF (.val (int x)) σ'):az prog m 19 [.ref c 0,int lo,int hi] σ KF:=by
 have a:-9223372036854775808<=hi-lo/\hi-lo<=9223372036854775807:=by omega
 refine fs [] Tryz.func19 rfl (by kernel_rfl) ?_;simp[Tryz.f19,a.1,a.2];refine cf Tryz.func18 rfl (eV d e ⟨by omega,by omega⟩ hb λx σ' i hd=>?_);have b:-9223372036854775808<=lo+x/\lo+x<=9223372036854775807:=by omega
 apply rn;simp[b.1,b.2];exact .done (h _ σ' ⟨by omega,by omega⟩ hd)
theorem mJ{l:acm}{sp}(d:k<1000000)(f:nums.length<1152921504606846976)(i:0<l.length/\l.length<1000000)(hb:bj c nums k σ)(h:∀  x  σ',x∈l->oZ c nums (k+1) σ σ'->KF (.val (int x)) σ'):az prog m 54 [.ref c 0,.sl 1 (l.map int) sp] σ KF:=by
 have a:-9223372036854775808<=(l.length:Int)-1/\(l.length:Int)-1<=9223372036854775807:=by omega
 refine fs [] Tryz.func54 rfl (by kernel_rfl) ?_;simp[Tryz.f54,a.1,a.2];refine cf Tryz.func18 rfl (eV d f ⟨by omega,by omega⟩ hb λx σ' g hd=>?_);have b:x.toNat<l.length:=by omega
 have j:x<l.length:=by omega
 have e:(x.toNat:Int)=x:=by omega
 apply rn;simp[g.1,b];exact .done (h _ σ' (zD b) hd)
theorem vM{n}(b:k<1000000)(d:nums.length<1152921504606846976)(e:0<=n/\n<1000000000)(hb:bj c nums k σ)(h:∀  x  σ',oZ c nums (k+1) σ σ'->KF (.val (bool x)) σ'):az prog m 20 [.ref c 0,int n] σ KF:=by
 have a:-9223372036854775808<=n-1/\n-1<=9223372036854775807:=by omega
 refine fs [] Tryz.func20 rfl (by kernel_rfl) ?_;simp[Tryz.f20,a.1,a.2];refine cf Tryz.func18 rfl (eV b d ⟨by omega,by omega⟩ hb λx σ' f hd=>?_);apply rn;simp;exact .done (h _ σ' hd)
end
structure xR  dR  (e:xH):Prop where
 hour:0<=e.hour/\e.hour<=40
 place:0<=e.place/\e.place<dR
 cR:0<=e.cR/\e.cR<=1
 marks:e.marks.Sublist [0,1,2]
 bt:14<=e.bt/\e.bt<=16
 jw:0<=e.jw/\e.jw<=2
theorem kY{l}(h:l.Sublist [0,1,2]):sW none l=0/\l.length<=3:=by cases h<;>(rename_i h;cases h<;>(rename_i h;cases h<;>(rename_i h;cases h;decide)))
theorem xR.check{dR e}(h:xR dR e):cJ dR e=0:=by
 obtain⟨b,c,d,a,f,g⟩:=h;have a:=(kY a).1;unfold cJ bI
 grind
theorem qA{σ0 σ σ2 a kk es c}(h:Tok σ0 σ a kk es)(g:σ0 c=none)(i:∃l,σ c=some (.cells l))(d:∀y,y≠c->σ2 y=σ y):Tok σ0 σ2 a kk es:=by
 refine⟨λy x f=>?_,?_⟩
 . have:y≠c:=λe=>by simp_all
   rw[d y this];exact h.1 y x f
 rcases h.2 with q|q|⟨b,e,j,k,m⟩
 . exact .inl q
 . simp_all
 grind
section
variable{c k:Nat}{nums:acm}
theorem Dq{dR}(hk:k+11<1000000)(t:nums.length<1152921504606846976)(b4:0<=dR/\dR<=1000)(hb:bj c nums k σ)(h:∀  e  σ',xR (max dR 1) e->oZ c nums (k+11) σ σ'->KF (.val (bu e)) σ'):az prog m 84 [.ref c 0,int dR] σ KF:=by
 have r1:-9223372036854775808<=dR-1/\dR-1<=9223372036854775807:=by omega
 obtain⟨n0,s0,_,a8⟩:=id hb;refine fs [] Tryz.func84 rfl (by kernel_rfl) ?_
 simp[Tryz.f84];refine bV.intro λc4 h4=>?_
 have n4:c≠c4:=λe=>by simp_all
 have u:∀x,bj c nums k (σ.set c4 x):=λx=>⟨n0,s0,by assumption,by rw[ab.ah _ _ n4];exact a8⟩
 simp;refine cf Tryz.func18 rfl (eV (by omega) t ⟨by omega,by omega⟩ (u _) λd b5 b6 I=>?_)
 apply rn;simp;refine cf Tryz.func18 rfl (eV (by omega) t ⟨by omega,by omega⟩ I.1 λg f b7 J=>?_)
 apply rn;simp;refine cf Tryz.func18 rfl (eV (by omega) t ⟨by omega,by omega⟩ J.1 λx3 w b8 K=>?_)
 apply rn;simp;refine cf Tryz.func54 rfl (mJ (l:=[d,g,x3]) (by omega) t (by simp) K.1 λF b9 a9 L=>?_)
 apply rn;simp[r1.1,r1.2];refine cf Tryz.func18 rfl (eV (by omega) t ⟨by omega,by omega⟩ L.1 λpl bb bm M=>?_)
 apply rn;simp;refine cf Tryz.func54 rfl (mJ (l:=[0,0,0,1]) (by omega) t (by simp) M.1 λco bw ad N=>?_)
 apply rn;simp;refine cf Tryz.func54 rfl (mJ (l:=[14,14,15,15,16]) (by omega) t (by simp) N.1 λG bA al O=>?_)
 apply rn;simp;refine cf Tryz.func54 rfl (mJ (l:=[0,0,1,2]) (by omega) t (by simp) O.1 λsh P av Q=>?_)
 apply rn;simp;refine bV.intro λv h5=>?_
 simp;have o:oZ c nums (k+8) (σ.set c4 (.cells [int 0,int 0,int 0,.lit (.slice none 0 0),int 0,int 0])) P:=I.trans (J.trans (K.trans (L.trans (M.trans (N.trans (O.trans Q))))));have R:c4≠c:=zj n4;have ax:P c4=some (.cells [int 0,int 0,int 0,.lit (.slice none 0 0),int 0,int 0]):=by rw[o.2 c4 R,ab.ai]
 have S:v≠c:=λe=>by subst e;obtain⟨_,_,_,q⟩:=Q.1;simp_all
 have A:v≠c4:=λe=>by simp_all
 have ay:σ v=none:=by rw[o.2 v S,ab.ah _ _ A]at h5;exact h5
 have aC:0<=F/\F<=40:=by simp at a9;omega
 have aE:0<=co/\co<=1:=by simp at ad;omega
 have aL:14<=G/\G<=16:=by simp at al;omega
 have aO:0<=sh/\sh<=2:=by simp at av;omega
 have b0:0<=pl/\pl<max dR 1:=by omega
 refine aa.loop 3 (λj s=>∃env σ' a mk,s=⟨env,σ',[],.no⟩/\env 0=.ref c 0/\env 4=.ref c4 0/\env 5=.ref v 0/\env 6=int j/\bj c nums (k+8+j) σ'/\σ' c4=some (.cells [int 0,int 0,int 0,.lit (.slice none 0 0),int 0,int 0])/\σ' v=some (.cells [int F,int pl,int co,a,int G,int sh])/\Tok (σ.del c) σ' a 1 (mk.map int)/\mk.Sublist ((List.range j).map λi:Nat=>(i:Int))) ⟨_,_,.lit (.slice none 0 0),[],rfl,by simp,by simp,by simp,by simp,?_,?_,?_,?_,by simp⟩ ?_
 . obtain⟨n,z,h1,h2⟩:=o.1
   exact⟨n,z,by omega,by rw[ab.ah _ _ (zj S)];exact h2⟩
 . rw[ab.ah _ _ (zj A)];exact ax
 . simp
 . refine⟨λy x r=>?_,.inl ⟨rfl,rfl⟩⟩
   have H:y≠c:=λe=>by subst e;simp[ab.del]at r
   have y0:σ y=some x:=by simpa[ab.del,H]using r
   have y5:y≠v:=λe=>by simp_all
   have y4:y≠c4:=λe=>by simp_all
   rw[ab.ah _ _ y5,o.2 y H,ab.ah _ _ y4];exact y0
 rintro c0 j _ hj ⟨env,σ',a,mk,rfl,e0,e4,T,U,B,q4,q5,p,C⟩ ih
 have bB:mk.length<=j:=by grind
 rcases aag j 3 with g1|g1
 . have b1:(j:Int)<3:=by omega
   apply rn;simp[e0,U,b1];refine cf Tryz.func20 rfl (vM (by omega) t ⟨by omega,by omega⟩ B λx f hd=>?_)
   have b2:∃l,σ' c=some (.cells l):=by obtain⟨_,_,_,q⟩:=B;grind
   have b:Tok (σ.del c) f a 1 (mk.map int):=qA p (by simp[ab.del]) b2 hd.2
   have V:=b.cells;have s4:f c4=some (.cells [int 0,int 0,int 0,.lit (.slice none 0 0),int 0,int 0]):=by rw[hd.2 c4 R];exact q4
   have s5:f v=some (.cells [int F,int pl,int co,a,int G,int sh]):=by rw[hd.2 v S];exact q5
   have X:(List.range (j+1)).map (λi:Nat=>(i:Int))=(List.range j).map (λi:Nat=>(i:Int))++[(j:Int)]:=by rw[ZQ,ZO];rfl
   have f1:-9223372036854775808<=(j:Int)+1/\(j:Int)+1<=9223372036854775807:=by omega
   apply rn;simp;cases x with
   | false=>
     simp[U,f1.1,f1.2];refine ih _ g1 ⟨_,_,a,mk,rfl,by simp[e0],by simp[e4],by simp[T],by simp,hd.1,s4,s5,b,?_⟩
     rw[X];exact C.trans (List.sublist_append_left _ _)
   | true=>
     simp[T,U,s5];refine aK lay rfl rfl rfl dM rfl dM rfl rS (by decide) (by simp;omega) (σ0:=f.off a) (es:=mk.map int) (xs:=[int j]) (by simpa using b.here.1) (.inr ⟨_,rfl⟩) λa' w D=>?_
     have Y:=D.cells;have b3:∀y l,f y=some (.cells l)->br a≠some y:=λy l r e=>by obtain⟨_,_,q⟩:=b.aV e;grind
     have k3:∀y l,f y=some (.cells l)->w y=some (.cells l):=λy l r=>D.1 _ _ (by rw[ab.dL (b3 y l r)];exact r)
     have t5:=k3 _ _ s5;have t4:=k3 _ _ s4;apply rn;simp[T,U,f1.1,f1.2,t5,Y.1,Y.2,aJ];obtain⟨nb,zb,u,E⟩:=hd.1;have tc:=k3 _ _ E
     have Z:Tok (σ.del c) w a' 1 ((mk++[(j:Int)]).map int):=by have:=D.base b.here.2;simpa using this
     refine ih _ g1 ⟨_,_,a',mk++[(j:Int)],rfl,by simp[e0],by simp[e4],by simp[T],by simp,⟨nb,zb,u,by rw[ab.ah _ _ (zj S)];exact tc⟩,by rw[ab.ah _ _ (zj A)];exact t4,ab.ai _ _ _,Z.beside (by simp[ab.del,S,ay]) (λe=>by obtain⟨_,_,q⟩:=Z.aV e;grind),?_⟩
     rw[X];exact C.append (List.Sublist.refl _)
 . have:j=3:=by omega
   subst this;have V:=p.cells;apply rn;simp[e4,T,U,q4,q5,V.2,aJ];obtain⟨nb,zb,u,E⟩:=B;have a7:mk.Sublist [0,1,2]:=C;refine .oW (a':=bu ⟨F,pl,co,mk,G,sh⟩) (pP rfl λi x y d g=>?_) (.less (σ':=σ.set c (.cells [ints nums,int nb,.lit (.int .u64 zb)])) (λy x r=>?_) (.done (h ⟨F,pl,co,mk,G,sh⟩ _ ⟨aC,b0,aE,a7,aL,aO⟩ ⟨⟨nb,zb,by omega,ab.ai _ _ _⟩,λy r=>ab.ah _ _ r⟩)))
   . match i with
     |0=>simp at d g;subst d;subst g;exact .refl _
     |1=>simp at d g;subst d;subst g;exact .refl _
     |2=>simp at d g;subst d;subst g;exact .refl _
     |3=>simp at d g;subst d;subst g;exact p.W
     |4=>simp at d g;subst d;subst g;exact .refl _
     |5=>simp at d g;subst d;subst g;exact .refl _
     |i+6=>simp at d
   . by_cases H:y=c
     . subst H
       rw[ab.ai]at r;rw[ab.ah _ _ n4,E];exact r
     . rw[ab.ah _ _ H]at r
       have y4:y≠c4:=λe=>by grind
       rw[ab.ah _ _ y4];exact p.1 y x (by simpa[ab.del,H]using r)
theorem oA{dR}(b:k+11<1000000)(d:nums.length<1152921504606846976)(a:1<=dR/\dR<=1000)(hb:bj c nums k σ)(h:∀  e  σ',xR dR e->oZ c nums (k+11) σ σ'->KF (.val (bu e)) σ'):az prog m 84 [.ref c 0,int dR] σ KF:=Dq b d ⟨by omega,a.2⟩ hb λe σ' f hd=>h e σ' (by grind) hd
end
structure vN  n   lo  (r:abQ):Prop where
 len:r.length=n
 row:∀l∈r,l.length=n
 diag:∀i,i<n->rd r i i=0
 sym:∀i j,i<n->j<n->rd r i j=rd r j i
 off:∀i j,i<n->j<n->i≠j->lo<=rd r i j/\rd r i j<=2*lo
structure uq  cnt  (f:Fr):Prop where
 cM:1<=f.cM/\f.cM<=4
 aW:f.aW=1\/f.aW=2\/f.aW=3\/f.aW=6
 dR:1<=f.roads.length/\f.roads.length<=3
 JB:∃lo ,(0<=lo/\lo<=4)/\vN f.roads.length lo f.roads
 fr:0<=f.aQ/\f.aQ<=2
 to:f.aQ<=f.eP/\f.eP<=2
 len:(f.aB.length:Int)<=cnt
 tz:∀e∈f.aB,xR f.roads.length e
theorem vN.err{n lo r}(h:vN n lo r)(v:1<=n/\n<=3)(s:0<=lo/\lo<=4):fN r=0:=by
 have t:=h.len
 have hb:∀i j,i<n->j<n->0<=rd r i j/\rd r i j<=9:=λi j a b=>by
  by_cases e:i=j
  . subst e;rw[h.diag i a];omega
  . have:=h.off i j a b e;omega
 have f:∀l∈r,lL n l=0:=λl g=>by
  have w:=h.row l g
  have y:l.all (bI · 0 9)=true:=by
   rw[ZF];intro x m;obtain⟨i,a,rfl⟩:=aab.1 g;obtain⟨j,b,rfl⟩:=aab.1 m;have:=hb i j (by omega) (by omega);have e:rd r i j=r[i][j]:=by simp[rd,zH,a,b]
   rw[e]at this;simp[bI,this.1,this.2]
  unfold lL
  simp_all
 have d:∀l:abQ,(∀x∈l,x∈r)->gS n l=0:=λl=>by
  induction l with
  |nil=>intro _;rfl
  | cons x l z=>
    intro m;unfold gS
    simp_all
 have u:((List.range n).any λi=>(List.range n).any λj=>dN r i j)=false:=by
  rw[aaO];intro i a;rw[Bool.not_eq_true,aaO];intro j b;have a:=ZE.1 a;have b:=ZE.1 b;unfold dN;rw[h.diag i a,h.sym i j a b,t]
  have A : ((List.range n).any λk=>decide (rd r j i>rd r i k+rd r k j))=false:=by
   rw[aaO];intro k c;have c:=ZE.1 c;have B:=hb i k a c;have C:=hb k j c b;simp only[zU,Int.not_lt,gt_iff_lt];by_cases o:i=j
   . subst o;rw[h.diag i a];omega
   . by_cases p:i=k
     . subst p;rw[h.diag i a,h.sym i j a b];omega
     . by_cases q:k=j
       . subst q;rw[h.diag k c,h.sym i k a c];omega
       . have D:=h.off j i b a (zj o)
         have E:=h.off i k a c p;have F:=h.off k j c b q;omega
  simp_all
 unfold fN
 grind
theorem MQ{M i k n}(hi:i<M.length)(a:k<(M.getD i []).length)  x y :rd (M.set i ((M.getD i []).set k n)) x y=if x=i/\y=k then n else rd M x y:=by
 unfold rd
 grind
def yS(M:abQ)(i k:Nat)(n:Int):abQ:=(M.set i ((M.getD i []).set k n)).set k ((M.getD k []).set i n)
structure G6  n   lo   i k  (M:abQ):Prop where
 len:M.length=n
 row:∀j,j<n->(M.getD j []).length=n
 diag:∀x,x<n->rd M x x=0
 sym:∀x y,x<n->y<n->rd M x y=rd M y x
 off:∀x y,y<x->x<n->(x<i\/(x=i/\y<k))->lo<=rd M x y/\rd M x y<=2*lo
theorem z5{M i k v}(hi:i<M.length)(b:k<M.length)(a:k≠i)  j :(yS M i k v).getD j []=if j=k then(M.getD k []).set i v else if j=i then(M.getD i []).set k v else M.getD j []:=by
 unfold yS
 grind
theorem Pf{n lo i k a b M v}(h:G6 n lo a b M)(hi:i<n)(c:k<n)(d:k≠i)  x y :rd (yS M i k v) x y=if(x=i/\y=k)\/(x=k/\y=i)then v else rd M x y:=by
 have f:=h.len
 have e:rd (yS M i k v) x y=if x=k/\y=i then v else rd (M.set i ((M.getD i []).set k v)) x y:=by
  have q:M.getD k []=(M.set i ((M.getD i []).set k v)).getD k []:=by grind
  unfold yS;rw[q];exact MQ (by grind) (by rw[<-q];rw[h.row k c];exact hi) x y
 rw[e,MQ (by omega) (by rw[h.row i hi];exact c)];omega
theorem G6.next{n lo i k M v}(h:G6 n lo i k M)(hi:i<n)(l:k<i)(m:lo<=v/\v<=2*lo):G6 n lo i (k+1) (yS M i k v):=by
 have e:=h.len;have a:=Pf (v:=v) h hi (show k<n by omega) (by omega);refine⟨by simp[yS,e],λj f=>?_,λx b=>?_,λx y b g=>?_,λx y d b hd=>?_⟩
 . rw[z5 (by omega) (by omega) (by omega)]
   split
   . rw[aaM];exact h.row k (by omega)
   . split
     . rw[aaM];exact h.row i hi
     . exact h.row j f
 . rw[a,ZB (by omega)];exact h.diag x b
 . rw[a,a]
   by_cases c:(x=i/\y=k)\/(x=k/\y=i)
   . grind
   . rw[ZB c,ZB (λq=>c (q.elim (λq=>.inr ⟨q.2,q.1⟩) (λq=>.inl ⟨q.2,q.1⟩)))]
     exact h.sym x y b g
 . rw[a]
   by_cases c:(x=i/\y=k)\/(x=k/\y=i)
   . omega
   . rw[ZB c]
     refine h.off x y d b ?_;omega
theorem G6.line{n lo i M}(h:G6 n lo i i M):G6 n lo (i+1) 0 M:=⟨h.len,h.row,h.diag,h.sym,λx y a b hd=>h.off x y a b (by omega)⟩
theorem G6.fin{n lo M}(h:G6 n lo n 0 M):vN n lo M:=by
 have e:=h.len;refine⟨h.len,λl c=>?_,h.diag,h.sym,λi j a b d=>?_⟩
 . obtain⟨i,a,rfl⟩:=aab.1 c
   have:=h.row i (by omega)
   grind
 . rcases aag j i with q|q
   . exact h.off i j q a (.inl a)
   . rw[h.sym i j a b]
     exact h.off j i (by omega) b (.inl b)
theorem G6.start  n   lo :G6 n lo 0 0 (List.replicate n (List.replicate n 0)):=by
 have a:∀x y,rd (List.replicate n (List.replicate n 0)) x y=0:=λx y=>by
  unfold rd
  grind
 refine⟨by simp,λj b=>by simp_all,λx _=>a x x,λx y _ _=>by rw[a,a],λx y _ _ h=>by omega⟩
theorem oB{g}:∀{l},(∀e∈l,g e=0)->fM g l=0
 |[],_=>rfl
 | a::l,h=>by
   unfold fM;rw[ZG (h a (by simp))];exact oB λe b=>h e (by simp[b])
theorem uq.check{aW:Int}{f:Fr}(h:uq aW f)(j:aW<=6):check f=0:=by
 obtain⟨lo,a,b⟩:=h.JB;have c:=b.err h.dR a;have k:=h.fr;have l:=h.to;have m:=h.cM;have n:=h.aW;have o:=h.len
 have d:(bI f.aQ 0 3 && bI f.eP 0 3)=true:=by simp[bI];omega
 have g:(bI f.cM 1 6 && bI f.aW 1 6)=true:=by simp[bI];omega
 unfold Go.Proofs.YtkcceaplmgdnfaaGreatDoor.check;rw[c,ZB (by simp),d,ZB (by simp),ZB (by omega),g,ZB (by simp),ZB (by omega)]
 exact oB λe i=>(h.tz e i).check
theorem uq.fits{aW f}(h:uq aW f)(g:aW<=1000):f.Fits:=by
 obtain⟨lo,a,b⟩:=h.JB;have:=h.len;have i:=h.dR;refine⟨by omega,by omega,λl c=>?_,λe d=>?_⟩
 . have:=b.row l c;omega
 . have:=(kY (h.tz e d).marks).2;omega

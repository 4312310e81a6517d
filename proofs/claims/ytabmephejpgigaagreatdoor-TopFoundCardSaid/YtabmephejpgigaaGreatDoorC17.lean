import Derived.Test.YtabmephejpgigaaGreatDoorC16
set_option linter.all false
set_option maxHeartbeats 1000000
set_option maxRecDepth 4000
namespace Go.Proofs.YtabmephejpgigaaGreatDoor
open Go.Proofs.Tryz (prog)
section
open Go.cr Go.Conc
variable{m:Mo}{σ:ab}{KF:aaQ}
def jw(f:Fr)(x:Int):Bool:=decide (jU f (az x)=0)
def ku(f:Fr)(l:aaL):Prop:=∀n a,Fx l n=some a->a=bool (jw f n)
theorem TK:Jc prog 160 199 4 5 .u8:=.of (by kernel_rfl) (by kernel_rfl) (by kernel_rfl) (by kernel_rfl)
theorem Gg  f   l :jU f l=0\/jU f l=1\/jU f l=2\/jU f l=3:=by unfold jU;omega
theorem K9{f l}(h:jU f l≠0):∃d a,TJ (jU f l)=.kz d a:=by
 rcases Gg f l with e|e|e|e
 . omega
 all_goals rw[e];exact⟨_,_,rfl⟩
theorem Ik{f l x n a}(b:ku f l)(h:Fx (l++[(x,bool (jw f x))]) n=some a):a=bool (jw f n):=by
 unfold Fx dc at h;rw[List.find?_append]at h;cases e:l.find? (λp=>n==p.1)with
 |some p=>rw[e]at h;simp only[Option.some_or,YW,kn]at h;subst h;exact b n p.2 (by unfold Fx dc;rw[e];rfl)
 |none=>grind
theorem Qj{b mb f x Un Ld}(j:Km prog m nn b 6 mb .u8 (ku f) Un Ld)(E:f.Good)(F:M0 f (az x))(p:(az x).length<20)(G:Un σ)(h:∀σ',Un σ'->ou b mb σ σ'->KF (.val (bool (jw f x))) σ'):aB prog m 107 [kH b mb f 0,xk x] σ KF:=by
 refine fs Tw Tryz.func107 rfl (by kernel_rfl) ?_;simp[Tryz.f107];refine cf Tryz.func56 rfl (j.lock (p9 _ _ _ _) G λH l o q r A=>?_);apply rn;simp;refine aa.defer rfl rfl rfl rfl (by simp) rfl ?_;apply rn;simp;refine vY lay (TK.key lay Wh rfl) rfl XC rfl rfl (j.map o) ?_;apply pg;simp
 have i:∀(env:Env) (g:ab) s,env 4=bool (jw f x)->Ld g s->ku f s->(∀c,c≠b->c≠mb->g c=σ c)->rA prog m (.func 57) [] [AV.kp b [iv f.aA,rows f.roads,int f.aS,int f.ew,int f.cK,int f.aV,.lit (.int .i32 0),.lit (.int .u32 0),.map mb] [6,7] 6] .ret g (λt σ'=>MN lay m [ResultVar.tmp 4] env (mO KF) [] t σ'):=λenv g s I u v J=>by
  refine rA.func Tryz.func57 rfl rfl (j.unlock (p9 _ _ _ _) u v λw z K=>?_);refine⟨[env 4],rfl,.done ?_⟩;rw[show oneOf [env 4]=env 4 from rfl,I];refine h w z λc y O L B=>?_
  grind
 cases k:dc l x with
 |some a=>have M:=q x a k;subst M;simp;apply rn;simp;exact i _ _ _ (by simp) o q r
 | none=>
   simp;apply rn;simp;refine cf Tryz.func129 rfl (Kz ?_);apply rn;simp;refine cf Tryz.func44 rfl (KC E F p ?_);apply rn;simp;have C:decide (jU f (az x)=0)=jw f x:=rfl;refine fX lay rfl Tl rfl (isNil:=jw f x) ?_ (.inl ⟨rfl,rfl⟩) ?_
   . by_cases D:jU f (az x)=0
     . left
       refine⟨?_,by simp_all⟩;simp[D];rfl
     . right
       obtain⟨d,a,e⟩:=K9 D
       simp_all
   apply rn;simp;refine qw (TK.key lay Wh rfl) rfl rfl rfl rfl (j.map o) k ?_;apply pg;simp;apply rn;simp;refine i _ _ _ (by simp) (j.put o) (λn a N=>?_) (λc L B=>by rw[ab.ah _ _ B];simp_all);exact Ik q (by simpa using N)
def fD(f:Fr)(begun:abe):Nat->abe->Int->abe->aaK
 |0,cT,_,_=>[cT]
 | fuel+1,cT,many,a=>(List.range (min (many+1) f.aV).toNat).flatMap λk:Nat=>
    if cT.length<begun.length/\begun.getD cT.length 0≠(k:Int)then[]
    else if jw f (bR (a.getD k 0) cT.length)=true then fD f begun fuel (cT++[(k:Int)]) (max many ((k:Int)+1)) (a.set k (bR (a.getD k 0) cT.length))else[]
def aG(f:Fr)(begun:abe):aaK:=fD f begun f.aA.length [] 0 [0,0,0,0,0,0]
def Mv(b mb:Nat)(F a:aba)(σ σ':ab):Prop:=∀c x,σ c=some x -> ¬F c->c≠b->(c≠mb\/x.plain=true)->σ' c=some x/\¬a c
theorem Mv.refl  b mb   F   σ :Mv b mb F F σ σ:=λ_ _ h a _ _=>⟨h,a⟩
theorem Mv.trans{b mb F g d σ σ' a}(h:Mv b mb F g σ σ')(k:Mv b mb g d σ' a):Mv b mb F d σ a:=λc x i j e f=>k c x (h c x i j e f).1 (h c x i j e f).2 e f
structure Ru  m   y  (W:aaK) (I:Nat->aba->abh) (E:aba->abh):Prop where
 step:∀  k   F   σ   KF   hk ,I k F σ->(∀F' σ',Fv F F' σ σ'->I (k+1) F' σ'->KF (.val (bool true)) σ')->(∀F' σ',Fv F F' σ σ'->E F' σ'->KF (.val (bool false)) σ')->cX prog m y [ints W[k]] σ KF
 frame:∀  k   F   σ σ' ,(∀c,F c->σ' c=σ c)->I k F σ->I k F σ'
 Qk:∀  F   σ σ' ,(∀c,F c->σ' c=σ c)->E F σ->E F σ'
 MY:∀  k   F   σ   c ,I k F σ->F c->∃x,σ c=some x/\x.plain=true
theorem CR{b mb F a σ σ'}(h:Fv F a σ σ'):Mv b mb F a σ σ':=λc x d e _ _=>h c x e d
theorem pr{b mb GI Un Ld}(a:Km prog m nn b 6 mb .u8 GI Un Ld){d y}(f:Un σ)(hd:∀x,σ d=some x->x.plain=true):Un (σ.set d y):=a.un (λc _ ⟨x,g,h⟩=>ab.ah _ _ (λe=>by simp_all)) f
theorem xl{b mb GI Un Ld}(e:Km prog m nn b 6 mb .u8 GI Un Ld){F f σ'}(g:Un σ)(h:Fv F f σ σ')(hd:∀c,F c->∃x,σ c=some x/\x.plain=true):Un σ':=
 e.un (λc _ ⟨x,a,i⟩=>by
  have d:¬F c:=λd=>by grind
  rw[(h c x d a).1,a]) g
abbrev xm(a y:AV)(begun:abe)(cp:Nat):AV:=.fn (.func 108) [] [.cp a 0,.cp y 0,.cp (ints begun) 0,.ref cp 0]
abbrev bd(a:AV)(c4 cg:Nat):AV:=.fn (.func 104) [] [.ref c4 0,.cp a 0,.ref cg 0]
structure WS  b mb   f   y   begun   c4 cg cp  (hs:abe) (F:aba) (σ:ab):Prop where
 arr:σ c4=some (.cells (hs.map u8))
 TL:σ cg=some (.cells [xm (kH b mb f 0) y begun cp])
 pt:σ cp=some (.cells [bd (kH b mb f 0) c4 cg])
 out:¬F c4/\¬F cg/\¬F cp
 ne:c4≠cg/\c4≠cp
theorem WS.mv{b mb f y begun c4 cg cp d F g σ σ'}(h:WS b mb f y begun c4 cg cp d F σ)(hb:∃x,σ b=some x/\x.plain=false)(a:Mv b mb F g σ σ'):WS b mb f y begun c4 cg cp d g σ':=by
 obtain⟨x,j,k⟩:=hb;have ne:∀c l,σ c=some (.cells l)->c≠b:=λc l i e=>by subst e;rw[j]at i;cases i;cases k
 obtain⟨m,n⟩:=a c4 _ h.arr h.out.1 (ne _ _ h.arr) (.inr rfl);obtain⟨o,p⟩:=a cg _ h.TL h.out.2.1 (ne _ _ h.TL) (.inr rfl);obtain⟨q,r⟩:=a cp _ h.pt h.out.2.2 (ne _ _ h.pt) (.inr rfl);exact⟨m,o,q,⟨n,p,r⟩,h.ne⟩
structure Hs(f:Fr)(n:Nat)(hs:abe):Prop where
 qo:hs.length=6
 bits:∀x∈hs,∀e∈az x,e<n
 small:∀x∈hs,0<=x/\x<64
section
variable{b mb:Nat}{f:Fr}{begun:abe}{y:AV}{W:aaK}{I:Nat->aba->abh}{E:aba->abh}{Un:abh}{Ld:ab->aaL->Prop}{c4 cg cp:Nat}
def Pl(b mb:Nat)(Un:abh)(I:Nat->aba->abh)(E:aba->abh)(a n:Nat)(F:aba)(σ:ab)(KF:aaQ):Prop:=(∀d c,Mv b mb F d σ c->Un c->I (a+n) d c->KF (.val (bool true)) c)/\(∀d c,Mv b mb F d σ c->Un c->E d c->KF (.val (bool false)) c)
def La(m:Mo)(b mb:Nat)(f:Fr)(begun:abe)(y:AV)(W:aaK)(I:Nat->aba->abh)(E:aba->abh)(Un:abh)(c4 cg cp:Nat)(fuel:Nat):Prop:=
 ∀ (cT:abe) (many:Int) (a:abe) (sp:kW) (F:aba) (σ:ab) (pre post:aaK) (KF:aaQ),cT.length+fuel=f.aA.length->0<=many/\many<=6->Hs f cT.length a->WS b mb f y begun c4 cg cp a F σ->Un σ ->
   W=pre++fD f begun fuel cT many a++post->I pre.length F σ->Pl b mb Un I E pre.length (fD f begun fuel cT many a).length F σ KF ->
   aB prog m 108 [.sl 1 (cT.map int) sp,int many,.cp (kH b mb f 0) 0,.cp y 0,.cp (ints begun) 0,.ref cp 0] σ KF
theorem N7:∀x:Fin 64,∀n:Fin 6,(0<=bR (x.val:Int) (n.val:Int)/\bR (x.val:Int) (n.val:Int)<64)/\(∀e∈az (bR (x.val:Int) (n.val:Int)),e=(n.val:Int)\/e∈az (x.val:Int))/\(n.val:Int)∈az (bR (x.val:Int) (n.val:Int)):=by decide +kernel
theorem EY{x}{n:Nat}(b:0<=x/\x<64)(a:n<6):(0<=bR x n/\bR x n<64)/\(∀e∈az (bR x n),e=(n:Int)\/e∈az x)/\(n:Int)∈az (bR x n):=by
 have:=N7 ⟨x.toNat,by omega⟩ ⟨n,a⟩
 grind
theorem Lb{x e}(h:e∈az x):0<=e/\e<6:=by
 unfold az at h
 grind
theorem m8  x :(az x).length<20:=by
 unfold az
 grind
theorem Hs.set{n b}(h:Hs f n b)(d:n<6){k}  c :Hs f (n+1) (b.set k (bR b[k] n)):=by
 have g:=EY (h.small _ (zD c)) d;refine⟨by rw[ZT];exact h.qo,λx a e he=>?_,λx a=>?_⟩
 . rcases ZR a with a|rfl
   . have:=h.bits x a e he;omega
   . rcases g.2.1 e he with rfl|he
     . omega
     . have:=h.bits _ (zD c) e he;omega
 . rcases ZR a with a|rfl
   . exact h.small x a
   omega
theorem Hs.uA{n a}(h:Hs f n a)(d:n<f.aA.length)(g:f.aA.length<=6){k}(b:k<a.length):M0 f (az (bR a[k] n)):=by
 have c:=EY (h.small _ (zD b)) (n:=n) (by omega);refine⟨λe he=>⟨(Lb he).1,?_⟩,λq=>?_,by have:=m8 (bR a[k] n);omega⟩
 . rcases c.2.1 e he with rfl|he
   . omega
   . have:=h.bits _ (zD b) e he;omega
 simp_all
theorem N8{d k x}{l:abe}(i:k<6)(c:l.length=6)(hd:σ d=some (.cells [u8 x]))(e:σ c4=some (.cells (l.map u8)))(h:KF (.val (.cH [])) (σ.set c4 (.cells ((l.set k x).map u8)))):aB prog m 105 [.ref d 0,.ref c4 0,.cp (int k) 0] σ KF:=by
 have a:(k:Int)<6:=by omega
 have b:k<=5:=by omega
 have g:k<l.length:=by omega
 refine fs [] Tryz.func105 rfl (by kernel_rfl) ?_;simp[Tryz.f105,hd,e,a,c,b];rw[DQ (by simp_all),<-List.map_set (f:=u8)];exact .done h
theorem Ql(N : Km prog m nn b 6 mb .u8 (ku f) Un Ld)(hf:f.Good)(dj:begun.length<1152921504606846976)(Y:Ru m y W I E){fuel}(hG:La m b mb f begun y W I E Un c4 cg cp fuel){cT many k n sp F pre post}(hlen:cT.length+(fuel+1)=f.aA.length)(b3:0<=many/\many<=6)(hk:k<6)
 (hh:Hs f cT.length n) (w:WS b mb f y begun c4 cg cp n F σ) (hu:Un σ){L}(U:L=if jw f (bR (n.getD k 0) cT.length)=true then fD f begun fuel (cT++[(k:Int)]) (max many ((k:Int)+1)) (n.set k (bR (n.getD k 0) cT.length))else[]) (hW:W=pre++L++post)
 (hI:I pre.length F σ) (hR:Pl b mb Un I E pre.length L.length F σ KF):aB prog m 104 [.sl 1 (cT.map int) sp,int many,int k,.ref c4 0,.cp (kH b mb f 0) 0,.ref cg 0] σ KF:=by
 have h6:=hf.qo;have V:k<n.length:=by rw[hh.qo];exact hk
 have b4:n.getD k 0=n[k]:=by simp_all
 rw[b4]at U;have X:(k:Int)<6:=by omega
 have s:=w.arr;have av:=hh.qo;have Z:k<=5:=by omega
 have e1:List.take 1 (List.drop k (List.map u8 n))=[u8 n[k]]:=by rw[<-List.map_drop,Zg V];rfl
 refine fs Tu Tryz.func104 rfl (by kernel_rfl) ?_
 simp[Tryz.f104,s,X,av,Z,e1];refine cz.intro λd hd=>?_
 have d4:d≠c4:=λe=>by simp_all
 have ax:=zj d4;simp;refine aa.defer rfl rfl rfl rfl (by simp) rfl ?_
 apply rn;simp[X];obtain⟨z,hz⟩:∃z,z=bR n[k] cT.length:=⟨_,rfl⟩;obtain⟨i,O⟩:∃i,i=n.set k z:=⟨_,rfl⟩;have b5:k<i.length:=by simp_all
 have ay:i[k]=z:=by simp_all
 have e2:List.take 1 (List.drop k (List.map u8 i))=[u8 z]:=by rw[<-List.map_drop,Zg b5,ay];rfl
 have e3:aH (List.map u8 n) k [u8 z]=List.map u8 i:=by simp_all
 have P:i.length=6:=by simp_all
 refine cf Tryz.func106 rfl (N4 (by omega) ?_)
 rw[<-hz];apply pg;simp[ax,ab.ah,s,av,Z,e3];apply rn;simp[X,P,Z,e2];have b6:cT.length<6:=by omega
 have b7:cT.length<f.aA.length:=by omega
 have b8:M0 f (az z):=by rw[hz];exact hh.uA b7 h6 V
 obtain⟨xb,b9,bm⟩:=N.Rq hu;have cb:∀c l,σ c=some (.cells l)->c≠b:=λc l t e=>by subst e;rw[b9]at t;cases t;cases bm
 have db:d≠b:=λe=>by simp_all
 have aC:Un ((σ.set d (.cells [u8 n[k]])).set c4 (.cells (i.map u8))):=pr N (pr N hu (λx A=>by simp_all)) (λx A=>by rw[ab.ah _ _ ax,s]at A;cases A;rfl)
 have aE:((σ.set d (.cells [u8 n[k]])).set c4 (.cells (i.map u8))) c4=some (.cells (i.map u8)):=ab.aj _ _ _;have aL:((σ.set d (.cells [u8 n[k]])).set c4 (.cells (i.map u8))) d=some (.cells [u8 n[k]]):=by rw[ab.ah _ _ d4,ab.aj]
 have H:∀c,c≠d->c≠c4->((σ.set d (.cells [u8 n[k]])).set c4 (.cells (i.map u8))) c=σ c:=λc r D=>by rw[ab.ah _ _ D,ab.ah _ _ r]
 have aO:¬F d:=λhF=>by
  obtain⟨x,A,_⟩:=Y.MY _ _ _ _ hI hF
  simp_all
 have a7:I pre.length F ((σ.set d (.cells [u8 n[k]])).set c4 (.cells (i.map u8))):=Y.frame _ _ _ _ (λc t=>H c (λe=>aO (e ▸ t)) (λe=>w.out.1 (e ▸ t))) hI
 generalize (σ.set d (.cells [u8 n[k]])).set c4 (.cells (i.map u8))=dm at aC aE aL H a7;refine cf Tryz.func107 rfl (Qj N hf b8 (m8 _) aC λo b0 p=>?_)
 have B:o c4=some (.cells (i.map u8)):=p _ _ aE (cb _ _ s) (.inr rfl);have a8:o d=some (.cells [u8 n[k]]):=p _ _ aL db (.inr rfl);have gd:cg≠d:=λe=>by have:=w.TL;simp_all
 have J:o cg=some (.cells [xm (kH b mb f 0) y begun cp]):=p _ _ (by rw[H cg gd (zj w.ne.1)];exact w.TL) (cb _ _ w.TL) (.inr rfl)
 have bw:i.set k n[k]=n:=by simp_all
 have Q:∀(env:Env) (j:ab) (v:Bool),env 9=bool v->j d=some (.cells [u8 n[k]])->j c4=some (.cells (i.map u8))->KF (.val (bool v)) (j.set c4 (.cells (n.map u8)))->rA prog m (.func 105) [.ref d 0,.ref c4 0,.cp (int k) 0] [] .ret j (λbx g=>MN lay m [ResultVar.tmp 9] env (mO KF) [] bx g):=λenv j v he bA bB hK=>by
  refine rA.func Tryz.func105 rfl rfl (N8 hk P bA bB ?_);refine⟨[env 9],rfl,.done ?_⟩
  simp_all
 have b1:Mv b mb F F σ (o.set c4 (.cells (n.map u8))):=λc x r D K h4=>by
  refine⟨?_,D⟩
  by_cases e:c=c4
  . simp_all
  . have e':c≠d:=λe'=>by simp_all
    rw[ab.ah _ _ e];exact p c x (by simp_all) K h4
 have a9:I pre.length F o:=Y.frame _ _ _ _ (λc t=>by
  obtain⟨x,r,D⟩:=Y.MY _ _ _ _ a7 t
  have c5:c≠b:=λe=>by grind
  rw[r];exact p c x r c5 (.inr D)) a7
 rw[<-hz,<-O]at U;cases R:jw f z with
 | false=>
   rw[R]at U;simp only[LK,Rp]at U;subst U;apply pg;simp
   repeat' apply And.intro
   all_goals
    apply rn;simp;refine Q _ o true (by simp) a8 B (hR.1 F _ b1 (pr N b0 (λx A=>by rw[B]at A;cases A;rfl)) ?_)
    exact Y.frame _ _ _ _ (λc t=>ab.ah _ _ (λe=>w.out.1 (e ▸ t))) a9
 | true=>
   rw[R,YG rfl]at U
   have ad:∀(j:ab) (C:kW) (M:aaQ),o.Le j->(∀(v:Bool) g,g d=some (.cells [u8 n[k]])->g c4=some (.cells (i.map u8))->KF (.val (bool v)) (g.set c4 (.cells (n.map u8)))->M (.val (bool v)) g) ->
    aB prog m 108 [.sl 1 ((cT++[(k:Int)]).map int) C,int (max many ((k:Int)+1)),.cp (kH b mb f 0) 0,.cp y 0,.cp (ints begun) 0,.ref cp 0] j M:=λj C M q hK=>by
    have c6:o cp=some (.cells [bd (kH b mb f 0) c4 cg]):=by
     have pd:cp≠d:=λe=>by have:=w.pt;simp_all
     exact p _ _ (by rw[H cp pd (zj w.ne.2)];exact w.pt) (cb _ _ w.pt) (.inr rfl)
    have c7:Un j:=N.un (λc _ ⟨x,r,_⟩=>by rw[r];exact q _ _ r) b0
    have c9:WS b mb f y begun c4 cg cp i F j:=⟨q _ _ B,q _ _ J,q _ _ c6,w.out,w.ne⟩
    have ca:I pre.length F j:=Y.frame _ _ _ _ (λc t=>by obtain⟨x,r,_⟩:=Y.MY _ _ _ _ a9 t;rw[r];exact q _ _ r) a9
    have S:∀(u:aba) (g:ab),Mv b mb F u j g->Mv b mb F u σ (g.set c4 (.cells (n.map u8))):=λu g hm c x r D K h4=>by
     by_cases e:c=c4
     . subst e
       obtain⟨q1,T⟩:=hm c _ (q _ _ B) D K (.inr rfl)
       simp_all
     . have e':c≠d:=λe'=>by simp_all
       rw[ab.ah _ _ e];exact hm c x (q _ _ (p c x (by simp_all) K h4)) D K h4
    have Dw:∀(u:aba) (g:ab),Mv b mb F u j g->g d=some (.cells [u8 n[k]])/\(g c4=some (.cells (i.map u8))/\¬u c4):=λu g hm=>⟨(hm d _ (q _ _ a8) aO db (.inr rfl)).1,hm c4 _ (q _ _ B) w.out.1 (cb _ _ s) (.inr rfl)⟩
    subst U;refine hG _ _ _ _ F j pre post M (by simp;omega) (by omega) (by rw[YL,O,hz];exact hh.set b6 V) c9 c7 hW ca ⟨λu g r D K=>?_,λu g r D K=>?_⟩
    . obtain⟨q1,T,q3⟩:=Dw u g r
      exact hK true g q1 T (hR.1 u _ (S u g r) (pr N D (λx A=>by rw[T]at A;cases A;rfl)) (Y.frame _ _ _ _ (λc t=>ab.ah _ _ (λe=>q3 (e ▸ t))) K))
    . obtain⟨q1,T,q3⟩:=Dw u g r
      exact hK false g q1 T (hR.2 u _ (S u g r) (pr N D (λx A=>by rw[T]at A;cases A;rfl)) (Y.Qk _ _ _ (λc t=>ab.ah _ _ (λe=>q3 (e ▸ t))) K))
   have k1:-9223372036854775808<=(k:Int)+1/\(k:Int)+1<=9223372036854775807:=by omega
   have G:(if many<(k:Int)+1 then(k:Int)+1 else many)=max many ((k:Int)+1):=by omega
   apply pg;simp[J,k1.1,k1.2,G]
   repeat' (first
             |apply And.intro
             | (refine BJ lay rfl eC rfl uI (es:=cT.map int) (sp:=sp) (l:=0) (h:=cT.length) (by simp) (λcap b2=>⟨⟨⟨.i64,by simp⟩,by simpa using b2⟩,⟨⟨.i64,by simp⟩,YF _⟩,rfl⟩) (by simp) λa ha=>?_
                have cm:Tok o o a 1 (cT.map int):=by
                 rcases ha with rfl|⟨e,rfl⟩
                 . have:List.take (cT.length-0) (List.drop 0 (cT.map int))=cT.map int:=by rw[List.drop_zero,ZB (by simp)]
                   rw[this];exact .exact _ _ _
                 . rw[e];exact .nil _ _
                clear ha;apply pg;simp[B,a8,J,k1.1,k1.2,G])
             | (refine aQ lay rfl rfl rfl eC rfl eC rfl uI (by decide) (by simp;omega) (σ0:=o) (es:=cT.map int) (xs:=[int k]) (by simpa using cm) (.inr ⟨_,by simp;rfl⟩) λa' j al=>?_
                obtain⟨C,rfl⟩:∃C,a'=.sl 1 (cT.map int++[int k]) C:=by
                 rcases al.2 with⟨_,e⟩|e|⟨_,_,_,e,_⟩
                 . simp at e
                 . exact⟨_,e⟩
                 . exact⟨_,e⟩
                have cv:=al.1 _ _ J;apply pg;simp[cv,k1.1,k1.2,G])
             | (refine gy Tryz.func108 rfl rfl (by simp) (ad j C _ al.1 λv g q1 T q3=>?_)
                apply pg;simp;apply rn;simp;exact Q _ _ v (by simp) q1 T q3))
end
section
variable{b mb:Nat}{f:Fr}{begun:abe}{y:AV}{W:aaK}{I:Nat->aba->abh}{E:aba->abh}{Un:abh}{Ld:ab->aaL->Prop}{c4 cg cp:Nat}
def oy(f:Fr)(begun:abe)(fuel:Nat)(cT:abe)(many:Int)(a:abe)(k:Nat):aaK:=
 if cT.length<begun.length/\begun.getD cT.length 0≠(k:Int)then[]
 else if jw f (bR (a.getD k 0) cT.length)=true then fD f begun fuel (cT++[(k:Int)]) (max many ((k:Int)+1)) (a.set k (bR (a.getD k 0) cT.length))else[]
theorem q8  f   begun   fuel   cT   many   a :fD f begun (fuel+1) cT many a=(List.range (min (many+1) f.aV).toNat).flatMap (oy f begun fuel cT many a):=rfl
theorem CS(K:Nat->aaK){k cnt}(h:k<cnt):∃rest,(List.range cnt).flatMap K=(List.range k).flatMap K++(K k++rest):=by
 obtain⟨n,rfl⟩:∃n,cnt=k+1+n:=⟨cnt-(k+1),by omega⟩;induction n with
 |zero=>exact⟨[],by rw[Nat.add_zero,YT,aaj];simp⟩
 | succ n a=>
   obtain⟨rest,b⟩:=a (by omega);refine⟨rest++K (k+1+n),?_⟩;rw[show k+1+(n+1)=(k+1+n)+1 by omega,YT,aaj,b];simp
theorem N9(P:Km prog m nn b 6 mb .u8 (ku f) Un Ld)(R:f.Good)(S:begun.length<1152921504606846976)(Y:Ru m y W I E)(T:y.cells=[y]):∀fuel ,La m b mb f begun y W I E Un c4 cg cp fuel:=by
 have h6:=R.qo;have ad:=R.aV;intro fuel
 induction fuel with
 | zero=>
   intro cT many h sp F σ pre post KF hlen l hh U G H J u;have V:(cT.length:Int)=f.aA.length:=by omega
   refine fs [] Tryz.func108 rfl (by kernel_rfl) ?_
   simp[Tryz.f108,V,T];have hk:pre.length<W.length:=by rw[H];simp[fD]
   have X:W[pre.length]=cT:=by subst H;simp[fD]
   refine cX.weaken (args':=[ints cT]) ?_ ⟨jH 1 _ sp,trivial⟩;rw[<-X];refine Y.step pre.length F σ _ hk J (λq d n x=>?_) (λq d n x=>?_)
   . apply rn
     simp;exact .done (u.1 q d (CR n) (xl P G n (λc Z=>Y.MY _ _ _ c J Z)) x)
   . apply rn
     simp;exact .done (u.2 q d (CR n) (xl P G n (λc Z=>Y.MY _ _ _ c J Z)) x)
 | succ fuel a7=>
   intro cT many h sp F σ pre post KF hlen l hh U G H J u;have V:((cT.length:Int)==f.aA.length)=false:=by grind
   have al:=U.pt;rw[q8]at H u;obtain⟨cnt,K⟩:∃cnt:Nat,cnt=(min (many+1) f.aV).toNat:=⟨_,rfl⟩;rw[<-K]at H u;have L:(if f.aV<many+1 then f.aV else many+1)=(cnt:Int):=by omega
   have av:cnt<=6:=by omega
   have m1:-9223372036854775808<=many+1/\many+1<=9223372036854775807:=by omega
   refine fs [] Tryz.func108 rfl (by kernel_rfl) ?_
   simp[Tryz.f108,V,m1.1,m1.2,L];refine aa.loop cnt (λk s=>∃env d q,s=⟨env,d,[],.no⟩/\env 0=.sl 1 (cT.map int) sp/\env 1=int many/\env 2=.cp (kH b mb f 0) 0/\env 4=.cp (ints begun) 0/\env 5=.ref cp 0/\env 29=int cnt/\env 30=int k/\Mv b mb F q σ d/\Un d/\I (pre.length+((List.range k).flatMap (oy f begun fuel cT many h)).length) q d) ⟨_,_,F,rfl,by simp,by simp,by simp,by simp,by simp,by simp,by simp,Mv.refl b mb F σ,G,J⟩ ?_
   rintro c0 k _ hk ⟨env,d,q,rfl,B,n,x,C,M,g,i,o,z,a8⟩ ih
   rcases Zb k cnt with g1|g1
   . have N:=U.mv (P.Rq G) o
     have w:=N.pt;obtain⟨rest,Q⟩:=CS (oy f begun fuel cT many h) g1
     have a9:((List.range (k+1)).flatMap (oy f begun fuel cT many h)).length=((List.range k).flatMap (oy f begun fuel cT many h)).length+(oy f begun fuel cT many h k).length:=by rw[YT,aaj,YL];simp
     by_cases g2:cT.length<begun.length/\begun.getD cT.length 0≠(k:Int)
     . have hK:oy f begun fuel cT many h k=[]:=YG g2
       have e1:begun.getD cT.length 0=begun[cT.length]:=by grind
       have e2:(begun[cT.length] !=(k:Int))=true:=by grind
       apply rn;simp[B,C,g,i,g1,g2.1,e2];refine⟨by omega,ih _ g1 ⟨_,_,q,rfl,by simp[B],by simp[n],by simp[x],by simp[C],by simp[M],by simp[g],by simp,o,z,?_⟩⟩
       grind
     . have hK:oy f begun fuel cT many h k=if jw f (bR (h.getD k 0) cT.length)=true then fD f begun fuel (cT++[(k:Int)]) (max many ((k:Int)+1)) (h.set k (bR (h.getD k 0) cT.length))else[]:=YA g2
       have p:∀A:aaQ,(∀(v:Bool) a j,Mv b mb F j σ a->Un a->(v=true->I (pre.length+((List.range (k+1)).flatMap (oy f begun fuel cT many h)).length) j a)->(v=false->E j a)->A (.val (bool v)) a)->aB prog m 104 [.sl 1 (cT.map int) sp,int many,int k,.ref c4 0,.cp (kH b mb f 0) 0,.ref cg 0] d A:=λA O=>by
        refine Ql P R S Y a7 (pre:=pre++(List.range k).flatMap (oy f begun fuel cT many h)) (post:=rest++post) hlen l (by omega) hh N z hK (by grind) (by grind) ⟨λj a r t D=>?_,λj a r t D=>?_⟩
        . refine O true a j (o.trans r) t (λ_=>?_) (λe=>by cases e)
          grind
        . exact O false a j (o.trans r) t (λe=>by cases e) (λ_=>D)
       by_cases g3:cT.length<begun.length
       . have e1:begun.getD cT.length 0=begun[cT.length]:=by grind
         have e2:(begun[cT.length] !=(k:Int))=false:=by grind
         apply rn;simp[B,n,C,M,g,i,g1,g3,e2,w];refine gy Tryz.func104 rfl rfl (by simp) (p _ λv a j r t D q4=>?_)
         cases v
         . apply rn
           simp;exact .done (u.2 j a r t (q4 rfl))
         . apply rn
           simp[i];refine⟨by omega,ih _ g1 ⟨_,_,j,rfl,?_,?_,?_,?_,?_,?_,?_,r,t,D rfl⟩⟩<;>simp[B,n,x,C,M,g]
       . apply rn
         simp[B,n,C,M,g,i,g1,g3,w];refine gy Tryz.func104 rfl rfl (by simp) (p _ λv a j r t D q4=>?_)
         cases v
         . apply rn
           simp;exact .done (u.2 j a r t (q4 rfl))
         . apply rn
           simp[i];refine⟨by omega,ih _ g1 ⟨_,_,j,rfl,?_,?_,?_,?_,?_,?_,?_,r,t,D rfl⟩⟩<;>simp[B,n,x,C,M,g]
   . have:k=cnt:=by omega
     subst this;apply rn;simp[g,i];exact .done (u.1 q d o z a8)
end
section
variable{b mb:Nat}{f:Fr}{begun:abe}{y:AV}{I:Nat->aba->abh}{E:aba->abh}{Un:abh}{Ld:ab->aaL->Prop}
theorem Bb{sp}(h:KF (.val (.fn (.func 103) [] [.cp (kH b mb f 0) 0,.cp (.sl 1 (begun.map int) sp) 0])) σ):aB prog m 69 [kH b mb f 0,.sl 1 (begun.map int) sp] σ KF:=by
 refine fs [] Tryz.func69 rfl (by kernel_rfl) ?_;simp[Tryz.f69];exact .done h
theorem Yn  f :Hs f 0 [0,0,0,0,0,0]:=by
 refine⟨rfl,λx a e b=>?_,λx a=>?_⟩
 . have hb:az 0=[]:=by decide +kernel
   simp_all
 simp_all
theorem Mv.le{F d σ0 σ'}(h:Mv b mb F d σ σ')(a:σ0.Le σ):Mv b mb F d σ0 σ':=λc x e f g i=>h c x (a c x e) f g i
theorem xn(r:Km prog m nn b 6 mb .u8 (ku f) Un Ld)(w:f.Good)(j:begun.length<1152921504606846976)(Y:Ru m y (aG f begun) I E)(d:y.cells=[y]/\y.flat=true){F}(z:Un σ)(k:I 0 F σ)
 (h:∀e σ',Mv b mb F e σ σ'->Un σ'->(I (aG f begun).length e σ'\/E e σ')->KF (.val (.cH [])) σ'):aB prog m 103 [y,.cp (kH b mb f 0) 0,.cp (ints begun) 0] σ KF:=by
 refine fs [] Tryz.func103 rfl (by kernel_rfl) ?_;simp[Tryz.f103,d.1,d.2];refine cz.intro λc4 A=>?_
 simp;refine cz.intro λcg l=>?_
 obtain⟨H,s,l⟩:=ab.aP l;simp;refine cz.intro λcp i=>?_
 obtain⟨B,n4,i⟩:=ab.aP i;obtain⟨J,t,i⟩:=ab.aP i;simp[n4,ab.ah];have a:σ.Le ((((σ.set c4 (.cells [u8 0,u8 0,u8 0,u8 0,u8 0,u8 0])).set cg (.cells [.lit .nilFunc])).set cp (.cells [bd (kH b mb f 0) c4 cg])).set cg (.cells [xm (kH b mb f 0) y begun cp])):=(by repeat (first|exact ab.le_refl _|assumption|refine ab.fW ?_ (by assumption)|refine ab.nB ?_ (by assumption)));have C:((((σ.set c4 (.cells [u8 0,u8 0,u8 0,u8 0,u8 0,u8 0])).set cg (.cells [.lit .nilFunc])).set cp (.cells [bd (kH b mb f 0) c4 cg])).set cg (.cells [xm (kH b mb f 0) y begun cp])) c4=some (.cells (([0,0,0,0,0,0]:abe).map u8)):=by simp[s,t,ab.ah]
 have D:((((σ.set c4 (.cells [u8 0,u8 0,u8 0,u8 0,u8 0,u8 0])).set cg (.cells [.lit .nilFunc])).set cp (.cells [bd (kH b mb f 0) c4 cg])).set cg (.cells [xm (kH b mb f 0) y begun cp])) cg=some (.cells [xm (kH b mb f 0) y begun cp]):=by simp
 have sp:((((σ.set c4 (.cells [u8 0,u8 0,u8 0,u8 0,u8 0,u8 0])).set cg (.cells [.lit .nilFunc])).set cp (.cells [bd (kH b mb f 0) c4 cg])).set cg (.cells [xm (kH b mb f 0) y begun cp])) cp=some (.cells [bd (kH b mb f 0) c4 cg]):=by simp[B,ab.ah]
 have g:∀c,σ c=none -> ¬F c:=λc u G=>by
  obtain⟨x,n,_⟩:=Y.MY _ _ _ _ k G
  simp_all
 refine cX.weaken (args':=[.sl 1 (([]:abe).map int) .any,int 0]) ?_ ⟨lR 1,.refl _,trivial⟩;refine gy Tryz.func108 rfl rfl rfl (N9 (y:=y) r w j Y d.1 f.aA.length [] 0 [0,0,0,0,0,0] .any F _ [] [] _ (by simp) (by omega) (Yn f) ⟨C,D,sp,⟨g _ A,g _ l,g _ i⟩,⟨s,t⟩⟩ (r.un (λc _ ⟨x,v,_⟩=>by rw[v];exact a _ _ v) z) (by simp[aG]) (Y.frame _ _ _ _ (λc u=>by obtain⟨x,n,_⟩:=Y.MY _ _ _ _ k u;rw[n];exact a _ _ n) k) ⟨λe σ' o p q=>?_,λe σ' o p q=>?_⟩)
 . apply rn
   simp;refine .done (h e σ' (o.le a) p (.inl ?_));simpa[aG]using q
 . apply rn
   simp;exact .done (h e σ' (o.le a) p (.inr q))
end
section
variable{b mb:Nat}{f:Fr}{Un:abh}{Ld:ab->aaL->Prop}
theorem Oa(E:Km prog m nn b 6 mb .u8 (ku f) Un Ld)(U:f.Good)(R:Un σ)(h:∀σ',Un σ'->ou b mb σ σ'->KF (.val (bool (decide (aG f []≠[])))) σ'):aB prog m 36 [kH b mb f 0] σ KF:=by
 refine fs [] Tryz.func36 rfl (by kernel_rfl) ?_
 simp[Tryz.f36];refine cz.intro λd h3=>?_
 simp;have V:Wl [kH b mb f 0,AV.lit (.slice none 0 0)] [kH b mb f 0,ints []]:=.cons (.refl _) (.cons (lR 1) .nil);refine dQ Tryz.func69 rfl rfl V (Bb (begun:=[]) ?_);apply rn;simp;refine aa.rangeFunc rfl λI r l J S o=>?_
 obtain⟨r1,W,J⟩:=ab.aP J;obtain⟨X,z,S⟩:=ab.aP S;generalize p:Bs.mk _ _ _ _ _ _ _ _ _=G
 have Y:Ru m (.fn (.yield l) [] []) (aG f []) (λk F σ'=>k=0/\(∀c,F c↔c=l\/c=d)/\σ' l=some (.loop G)/\σ' d=some (.cells [bool false])) (λF σ'=>aG f []≠[]/\(∀c,F c↔c=l\/c=d)/\σ' l=some (.loop {G with state:=.done,pending:=some (.exit 0)})/\σ' d=some (.cells [bool true])):=by
  refine⟨λk F σ' Z hk A hT hF=>?_,λk F K a he A=>?_,λF K a he A=>?_,λk F σ' c A v=>?_⟩
  . obtain⟨rfl,i,H,L⟩:=A
    have e3:∀x,(σ'.set l x) d=some (.cells [bool false]):=λx=>by rw[ab.ah _ _ z];exact L
    subst p;refine cX.DO (hold:=[]) I Tryz.func36 H rfl ?_;apply rn;simp[oO];refine aa.beginRound H rfl ?_;apply rn;simp[e3];have M:aG f []≠[]:=λe=>by simp_all
    refine⟨rfl,rfl,_,((ab.ah _ _ X).trans (ab.aj _ _ _)),?_⟩;refine hF F _ (λc x v hx=>⟨?_,v⟩) ⟨M,i,ab.aj _ _ _,(ab.ah _ _ z).trans (ab.aj _ _ _)⟩
    have w:c≠l:=λe=>v ((i c).2 (.inl e))
    have B:c≠d:=λe=>v ((i c).2 (.inr e))
    exact(ab.ah _ _ w).trans ((ab.ah _ _ B).trans ((ab.ah _ _ w).trans hx))
  . simp_all
  . simp_all
  . obtain⟨rfl,i,H,L⟩:=A
    rcases(i c).1 v with rfl|rfl
    . exact⟨_,H,rfl⟩
    . exact⟨_,L,rfl⟩
 obtain⟨xb,a7,a8⟩:=E.Rq R;have nb:∀c,σ c=none->c≠b:=λc v e=>by simp_all
 have C:σ.Le (((σ.set d (.cells [bool false])).set r (.raw (.deferred (some [])))).set l (.loop G)):=(by repeat (first|exact ab.le_refl _|assumption|refine ab.fW ?_ (by assumption)|refine ab.nB ?_ (by assumption)))
 have sr:(((σ.set d (.cells [bool false])).set r (.raw (.deferred (some [])))).set l (.loop G)) r=some (.raw (.deferred (some []))):=by rw[ab.ah _ _ o,ab.aj]
 refine gy Tryz.func103 rfl rfl rfl (xn (F:=λc=>c=l\/c=d) E U (by simp) Y ⟨rfl,rfl⟩ (E.un (λc _ ⟨x,j,_⟩=>(C _ _ j).trans j.symm) R) ⟨rfl,λc=>YP,ab.aj _ _ _,(ab.ah _ _ z).trans ((ab.ah _ _ W).trans (ab.aj _ _ _))⟩ λF' σ' D N n=>?_)
 have q:=(D r _ sr (λe=>by omega) (nb r J) (.inr rfl)).1
 have s:ou b mb σ σ':=λc x j y t=>(D c x (C c x j) (λe=>by grind) y t).1
 have O:∀a,a=(σ'.del l).set r (.raw (.deferred none))->Un a/\ou b mb σ a:=λa e=>by
  subst e;refine⟨E.un (σ:=σ') (λc _ ⟨x,j,y⟩=>?_) N,λc x j y t=>?_⟩
  . have w:c≠r:=λe=>by subst e;rw[q]at j;cases j;cases y
    have B:c≠l:=λe=>by
     subst e
     rcases n with⟨_,_,g,_⟩|⟨_,_,g,_⟩<;>rw[g]at j<;>cases j<;>cases y
    rw[ab.ah _ _ w];simp[ab.del,B]
  . have w:c≠r:=λe=>by simp_all
    have B:c≠l:=λe=>by simp_all
    rw[ab.ah _ _ w];simp only[ab.del,B,Rp];exact s c x j y t
 rcases n with⟨T,_,P,q2⟩|⟨T,_,P,q2⟩
 . have Q:decide (aG f []≠[])=false:=by simp_all
   rw[Q]at h;subst p;refine⟨_,P,by simp,rfl,?_⟩
   have u:(σ'.del l) d=some (.cells [bool false]):=by simp only[ab.del,z,Rp];omega
   apply rn;simp[u];refine⟨by simp only[ab.del,o,Rp];exact q,.done ?_⟩
   simp_all
 . have Q:decide (aG f []≠[])=true:=by simp[T]
   rw[Q]at h;subst p;refine⟨_,P,by simp,rfl,?_⟩
   have u:(σ'.del l) d=some (.cells [bool true]):=by simp only[ab.del,z,Rp];omega
   apply rn;simp[u];refine⟨by simp only[ab.del,o,Rp];exact q,.done ?_⟩
   simp_all
end
end
section
open Go Go.cr
set_option maxRecDepth 100000
abbrev ng:Nt:=⟨52,54,58,77,78,92,76,84,95,79,119,120,121,126,96,88,174,176,181⟩
theorem Lc:∀(b:Nat) (kind:abi),aZ (A0 prog ng b kind).1=some (ng.jb,[])/\(A0 prog ng b kind).1.env.all plain=true/\(A0 prog ng b kind).2=[]/\(A0 prog ng b kind).1.kind=kind:=by intro b kind;exact⟨by kernel_rfl,by kernel_rfl,by kernel_rfl,by kernel_rfl⟩
theorem Lf:∀(b:Nat) (kind:abi),aZ (A1 prog ng b kind).1=some (ng.Nu,[])/\(A1 prog ng b kind).1.env.all plain=true/\(A1 prog ng b kind).2=[]/\(A1 prog ng b kind).1.kind=kind:=by intro b kind;exact⟨by kernel_rfl,by kernel_rfl,by kernel_rfl,by kernel_rfl⟩
theorem Lg:∀(b:Nat) (kind:abi),aZ (A2 prog ng b kind).1=some (ng.rZ,[pt b 0,u64 4294967296])/\vh (A2 prog ng b kind)=true/\(A2 prog ng b kind).1.env.all plain=true/\(A2 prog ng b kind).2.all (·.env.all plain)=true:=by intro b kind;exact⟨by kernel_rfl,by kernel_rfl,by kernel_rfl,by kernel_rfl⟩
theorem Lh:∀(b:Nat) (kind:abi) (a:Fl),j7 (A3 prog ng b kind (f1 a true)).1=some (ng.tS,ng.tU,pt b 1):=by intro b kind a;kernel_rfl
theorem Li:∀(b:Nat) (kind:abi) (a:Fl),aZ (A4 prog ng b kind (f1 a true)).1=some (ng.rd,[pt b 1])/\(A4 prog ng b kind (f1 a true)).1.kind=kind:=by intro b kind a;exact⟨by kernel_rfl,by kernel_rfl⟩
theorem Lj:∀(b:Nat) (kind:abi) (a:Fl),qU (A5 prog ng b kind (f0 (f1 a true) false)).1=some ng.en/\(A5 prog ng b kind (f0 (f1 a true) false)).2=[]/\(A5 prog ng b kind (f0 (f1 a true) false)).1.kind=kind/\(A5 prog ng b kind (f0 (f1 a true) false)).1.fn=ng.add:=by intro b kind a;exact⟨by kernel_rfl,by kernel_rfl,by kernel_rfl,by kernel_rfl⟩
theorem Ll:∀(b:Nat) (kind:abi) (a:Fl),qU (A3 prog ng b kind (f0 (f1 a false) false)).1=some ng.en/\(A3 prog ng b kind (f0 (f1 a false) false)).2=[]/\(A3 prog ng b kind (f0 (f1 a false) false)).1.kind=kind/\(A3 prog ng b kind (f0 (f1 a false) false)).1.fn=ng.add:=by intro b kind a;exact⟨by kernel_rfl,by kernel_rfl,by kernel_rfl,by kernel_rfl⟩
theorem Lm:∀(b:Nat),j7 (D0 prog ng b).1=some (ng.tG,ng.tU,pt b 0)/\(D0 prog ng b).1.env.all plain=true/\(D0 prog ng b).2.all (·.env.all plain)=true:=by intro b;exact⟨by kernel_rfl,by kernel_rfl,by kernel_rfl⟩
theorem Ln:∀(b:Nat),aZ (D1 prog ng b).1=some (ng.rel,[pt b 0])/\vh (D1 prog ng b)=true/\(D1 prog ng b).1.env.all plain=true/\(D1 prog ng b).2.all (·.env.all plain)=true:=by intro b;exact⟨by kernel_rfl,by kernel_rfl,by kernel_rfl,by kernel_rfl⟩
theorem Lp:∀(b:Nat),aZ (D2 prog ng b).1=some (ng.jb,[])/\vh (D2 prog ng b)=true/\(D2 prog ng b).1.env.all plain=true/\(D2 prog ng b).2.all (·.env.all plain)=true:=by intro b;exact⟨by kernel_rfl,by kernel_rfl,by kernel_rfl,by kernel_rfl⟩
theorem Lq:∀(b:Nat),aZ (D3 prog ng b).1=some (ng.Nu,[])/\vh (D3 prog ng b)=true/\(D3 prog ng b).1.env.all plain=true/\(D3 prog ng b).2.all (·.env.all plain)=true:=by intro b;exact⟨by kernel_rfl,by kernel_rfl,by kernel_rfl,by kernel_rfl⟩
theorem Lr:∀(b:Nat),aZ (D4 prog ng b).1=some (ng.rZ,[pt b 0,u64 18446744069414584320])/\vh (D4 prog ng b)=true/\(D4 prog ng b).1.env.all plain=true/\(D4 prog ng b).2.all (·.env.all plain)=true:=by intro b;exact⟨by kernel_rfl,by kernel_rfl,by kernel_rfl,by kernel_rfl⟩
theorem Ls:∀(b:Nat) (a:Fl) (x:Bool),qU (DE prog ng b (f0 a x) 0).1=some ng.en:=by intro b a x;cases x<;>kernel_rfl
theorem Il:∀(b:Nat) (a:Fl) (x:Bool),jL (lM prog (f0 a x) (DE prog ng b (f0 a x) 0)).1 ng.done=true/\(lM prog (f0 a x) (DE prog ng b (f0 a x) 0)).2=[]/\(lM prog (f0 a x) (DE prog ng b (f0 a x) 0)).1.kind=.deferred:=by intro b a x;cases x<;>exact⟨by kernel_rfl,by kernel_rfl,by kernel_rfl⟩
theorem Lt:∀(b:Nat) (a:Fl),qU (DE prog ng b (f0 a false) 1).1=some ng.en:=by intro b a;kernel_rfl
theorem Im:∀(b:Nat) (a:Fl),jL (lM prog (f0 a false) (DE prog ng b (f0 a false) 1)).1 ng.done=true/\(lM prog (f0 a false) (DE prog ng b (f0 a false) 1)).2=[]/\(lM prog (f0 a false) (DE prog ng b (f0 a false) 1)).1.kind=.deferred:=by intro b a;exact⟨by kernel_rfl,by kernel_rfl,by kernel_rfl⟩
theorem Lu:∀(b:Nat) (a:Fl),aZ (DE prog ng b (f0 a true) 1).1=some (ng.uV,[pt b 0])/\vh (DE prog ng b (f0 a true) 1)=true:=by intro b a;exact⟨by kernel_rfl,by kernel_rfl⟩
theorem Lv:∀(b:Nat) (a:Fl),aZ (D6 prog ng b (f0 a true)).1=some (ng.GU,[pt b 0,u64 0])/\vh (D6 prog ng b (f0 a true))=true:=by intro b a;exact⟨by kernel_rfl,by kernel_rfl⟩
theorem Lw:∀(b:Nat) (a:Fl),aZ (D7 prog ng b (f0 a true)).1=some (ng.nG,[pt b 1,ff,i64 0])/\vh (D7 prog ng b (f0 a true))=true:=by intro b a;exact⟨by kernel_rfl,by kernel_rfl⟩
theorem Lx:∀(b:Nat) (a:Fl),qU (D8 prog ng b (f0 a true)).1=some ng.en:=by intro b a;kernel_rfl
theorem Ly:∀(b:Nat) (a:Fl),jL (lM prog (f0 a true) (D8 prog ng b (f0 a true))).1 ng.done=true/\(lM prog (f0 a true) (D8 prog ng b (f0 a true))).2=[]/\(lM prog (f0 a true) (D8 prog ng b (f0 a true))).1.kind=.deferred:=by intro b a;exact⟨by kernel_rfl,by kernel_rfl,by kernel_rfl⟩
theorem Lz:∀(b:Nat) (kind:abi),aZ (W0 prog ng b kind).1=some (ng.jb,[])/\(W0 prog ng b kind).1.env.all plain=true/\(W0 prog ng b kind).2=[]/\(W0 prog ng b kind).1.kind=kind:=by intro b kind;exact⟨by kernel_rfl,by kernel_rfl,by kernel_rfl,by kernel_rfl⟩
theorem LA:∀(b:Nat) (kind:abi),aZ (W1 prog ng b kind).1=some (ng.uV,[pt b 0])/\vh (W1 prog ng b kind)=true/\(W1 prog ng b kind).1.env.all plain=true/\(W1 prog ng b kind).2.all (·.env.all plain)=true:=by intro b kind;exact⟨by kernel_rfl,by kernel_rfl,by kernel_rfl,by kernel_rfl⟩
theorem LB:∀(b:Nat) (kind:abi) (a:Fl),aZ (WE prog ng b kind (f0 a true)).1=some (ng.en,[])/\(WE prog ng b kind (f0 a true)).1.kind=kind:=by intro b kind a;exact⟨by kernel_rfl,by kernel_rfl⟩
theorem LC:∀(b:Nat) (kind:abi) (a:Fl),j7 (WC prog ng b kind (f0 a true)).1=some (ng.tG,ng.tU,pt b 0):=by intro b kind a;kernel_rfl
theorem LF:∀(b:Nat) (kind:abi) (a:Fl),aZ (WA prog ng b kind (f0 a true)).1=some (ng.acq,[pt b 0])/\(WA prog ng b kind (f0 a true)).1.kind=kind:=by intro b kind a;exact⟨by kernel_rfl,by kernel_rfl⟩
theorem LG:∀(b:Nat) (kind:abi) (a:Fl),jL (WB prog ng b kind (f0 a true)).1 ng.wait=true/\(WB prog ng b kind (f0 a true)).2=[]/\(WB prog ng b kind (f0 a true)).1.kind=kind:=by intro b kind a;exact⟨by kernel_rfl,by kernel_rfl,by kernel_rfl⟩
theorem LH:∀(b:Nat) (kind:abi) (a:Fl),aZ (WE prog ng b kind (f0 a false)).1=some (ng.wu,[pt b 0,.dU 0,.dU 1])/\vh (WE prog ng b kind (f0 a false))=true:=by intro b kind a;exact⟨by kernel_rfl,by kernel_rfl⟩
theorem LI:∀(b:Nat) (kind:abi) (a:Fl),FQ [5] [[0]] (next prog (f0 a false) (WE prog ng b kind (f0 a false)) ff)=W1 prog ng b kind:=by intro b kind a;kernel_rfl
theorem LJ:∀(b:Nat) (kind:abi) (a:Fl),j7 (W3 prog ng b kind (f0 a false)).1=some (ng.tS,ng.tU,pt b 1):=by intro b kind a;kernel_rfl
theorem LL:∀(b:Nat) (kind:abi) (a:Fl),aZ (Rh prog ng b kind (f0 a false)).1=some (ng.wr,[pt b 1])/\(Rh prog ng b kind (f0 a false)).1.kind=kind:=by intro b kind a;exact⟨by kernel_rfl,by kernel_rfl⟩
theorem LM:∀(b:Nat) (kind:abi) (a:Fl),aZ (W4 prog ng b kind (f0 a false)).1=some (ng.DX,[pt b 1,ff])/\(W4 prog ng b kind (f0 a false)).1.kind=kind:=by intro b kind a;exact⟨by kernel_rfl,by kernel_rfl⟩
theorem LN:∀(b:Nat) (kind:abi) (a:Fl),aZ (W5 prog ng b kind (f0 a false)).1=some (ng.uV,[pt b 0])/\vh (W5 prog ng b kind (f0 a false))=true:=by intro b kind a;exact⟨by kernel_rfl,by kernel_rfl⟩
theorem LO:∀(b:Nat) (kind:abi) (a:Fl),aZ (Rk prog ng b kind (f0 a false)).1=some (ng.en,[])/\(Rk prog ng b kind (f0 a false)).1.kind=kind:=by intro b kind a;exact⟨by kernel_rfl,by kernel_rfl⟩
theorem LP:∀(b:Nat) (kind:abi) (a:Fl),j7 (Sx prog ng b kind (f0 a false)).1=some (ng.tG,ng.tU,pt b 0):=by intro b kind a;kernel_rfl
theorem LQ:∀(b:Nat) (kind:abi) (a:Fl),aZ (Rl prog ng b kind (f0 a false)).1=some (ng.acq,[pt b 0])/\(Rl prog ng b kind (f0 a false)).1.kind=kind:=by intro b kind a;exact⟨by kernel_rfl,by kernel_rfl⟩
theorem LR:∀(b:Nat) (kind:abi) (a:Fl),jL (O6 prog ng b kind (f0 a false)).1 ng.wait=true/\(O6 prog ng b kind (f0 a false)).2=[]/\(O6 prog ng b kind (f0 a false)).1.kind=kind:=by intro b kind a;exact⟨by kernel_rfl,by kernel_rfl,by kernel_rfl⟩
theorem Pm:ga prog ng where
 a0:=Lc
 a1:=Lf
 a2:=Lg
 a3:=Lh
 a4:=Li
 a5:=Lj
 a6:=Ll
 d0:=Lm
 d1:=Ln
 d2:=Lp
 d3:=Lq
 d4:=Lr
 d5:=Ls
 V6:=Il
 d6:=Lt
 V7:=Im
 d7:=Lu
 d8:=Lv
 d9:=Lw
 da:=Lx
 db:=Ly
 w0:=Lz
 w1:=LA
 w2:=LB
 w3:=LC
 w4:=LF
 w5:=LG
 w6:=LH
 w7:=LI
 w8:=LJ
 w9:=LL
 wa:=LM
 wb:=LN
 wc:=LO
 wd:=LP
 we:=LQ
 wf:=LR
theorem Pn:il prog ng where
 jb:=⟨_,rfl,rfl,rfl,rfl,rfl⟩
 en:=⟨_,rfl,rfl,rfl,rfl,rfl⟩
 acq:=⟨_,rfl,rfl,rfl,rfl,rfl⟩
 rel:=⟨_,rfl,rfl,rfl,rfl,rfl⟩
 rd:=⟨_,rfl,rfl,rfl,rfl,rfl⟩
 wr:=⟨_,rfl,rfl,rfl,rfl,rfl⟩
 Nu:=⟨_,rfl,rfl,rfl,rfl,rfl⟩
 rZ:=⟨_,rfl,rfl,rfl,rfl,rfl⟩
 uV:=⟨_,rfl,rfl,rfl,rfl,rfl⟩
 GU:=⟨_,rfl,rfl,rfl,rfl,rfl⟩
 wu:=⟨_,rfl,rfl,rfl,rfl,rfl⟩
 DX:=⟨_,rfl,rfl,rfl,rfl,rfl⟩
 nG:=⟨_,rfl,rfl,rfl,rfl,rfl⟩
 V8:=⟨_,rfl,rfl,rfl⟩
 V9:=⟨_,rfl,rfl,rfl⟩
 PV:=⟨_,_,rfl,rfl,rfl,rfl⟩
 JF:=⟨_,_,rfl,rfl,rfl,rfl⟩
 JG:=⟨_,_,rfl,rfl,rfl,rfl⟩
end
open Go.cr Go.Conc
variable{m:Mo}{σ:ab}{KF:aaQ}
theorem Qm:lO prog nn:=⟨⟨_,_,Tryz.func56,rfl,rfl,rfl⟩,⟨_,_,Tryz.func57,rfl,rfl,rfl⟩⟩
section
variable{b mb:Nat}{f:Fr}{A:bJ}{j:Nat}{begun:abe}
theorem EZ{b}(a:A.ng=ng){body}(hb:Tryz.f117.body=some body):aa prog (wA prog A) 117 4 none [] [.code body] ⟨dh [.ref A.gb 0,.cp (.chan A.cF) 0],jv A.fb,[],.told .deferred [cA prog] b⟩ (λ_ _=>False):=by
 simp only[Tryz.f117,kn]at hb;subst hb;refine aa.runN lay [] 2 ?_;simp;refine aa.Kl rfl (by rw[a];rfl) rfl (by simp) (by rw[a];exact Tryz.func58) rfl rfl rfl ?_;apply rn;simp;exact aa.Ew rfl rfl (by simp) rfl rfl rfl rfl rfl Tryz.func117 rfl rfl
theorem xp{T}(U:A.fb=b/\A.mb=mb/\A.fo=6/\A.nm=nn/\A.ng=ng/\A.dir=false)(V:∀x,A.GI x↔∃l,x=mapA .u8 l/\ku f l)(W:f.Good)(N:A.res j=int (aG f begun).length)(t:begun.length<1152921504606846976)(hlen:(aG f begun).length<1152921504606846976){body}(hb:Tryz.f116.body=some body):
 aa prog (gW prog A j) 116 13 none [] [.code body] ⟨dh [.ref A.gb 0,.cp (kH b mb f 0) 0,.cp (ints begun) 0,.cp (.chan A.cF) 0],jv A.fb,[],.told .deferred [cA prog] T⟩ (λ_ _=>False):=by
 obtain⟨rfl,rfl,u,v,m,g⟩:=U;simp only[Tryz.f116,kn]at hb;subst hb;have O:=Kn (P:=prog) (A:=A) g (j:=j) (kd:=.u8) V;rw[u,v]at O;apply rn;simp;refine aa.defer rfl rfl rfl rfl (by simp) rfl ?_
 apply rn;simp;refine cz.intro λcn X=>?_
 simp;refine cf Tryz.func69 rfl (Bb (begun:=begun) (sp:=.any) ?_);apply rn;simp;refine aa.rangeFunc rfl λw r l y Q n=>?_
 obtain⟨r1,Y,y⟩:=ab.aP y;obtain⟨Z,q,Q⟩:=ab.aP Q;generalize o:Bs.mk _ _ _ _ _ _ _ _ _=z
 have hY:Ru (gW prog A j) (.fn (.yield l) [] []) (aG f begun) (λk F a=>(∀c,F c↔c=l\/c=cn)/\a l=some (.loop z)/\a cn=some (.cells [int k])) (λF a=>False):=by
  refine⟨λk F a a7 hk i hT hF=>?_,λk F B C he i=>?_,λF B C he i=>i.elim,λk F a c i h=>?_⟩
  . obtain⟨d,s,D⟩:=i
    have e3:∀x,(a.set l x) cn=some (.cells [int k]):=λx=>(ab.ah _ _ q).trans D
    have f1:-9223372036854775808<=(k:Int)+1/\(k:Int)+1<=9223372036854775807:=by omega
    subst o;refine cX.DO (hold:=[]) w Tryz.func116 s rfl ?_;apply rn;simp[oO];refine aa.beginRound s rfl ?_;apply rn;simp[e3,f1.1,f1.2];refine⟨rfl,rfl,_,((ab.ah _ _ Z).trans (ab.aj _ _ _)),?_⟩;refine hT F _ (λc x h hx=>⟨?_,h⟩) ⟨d,ab.aj _ _ _,(ab.ah _ _ q).trans (ab.aj _ _ _)⟩
    have R:c≠l:=λe=>h ((d c).2 (.inl e))
    have c2:c≠cn:=λe=>h ((d c).2 (.inr e))
    exact(ab.ah _ _ R).trans ((ab.ah _ _ c2).trans ((ab.ah _ _ R).trans hx))
  . simp_all
  . obtain⟨d,s,D⟩:=i
    rcases(d c).1 h with rfl|rfl
    . exact⟨_,s,rfl⟩
    . exact⟨_,D,rfl⟩
 have hu:Wg A.fb (((jv A.fb).set cn (.cells [int 0])).set r (.raw (.deferred (some [])))|>.set l (.loop z)):=by
  have h0:(jv A.fb) A.fb=some .gu:=by simp[jv]
  have E:A.fb≠cn:=λe=>by simp_all
  have S:A.fb≠r:=λe=>by simp_all
  have G:A.fb≠l:=λe=>by simp_all
  show _=_;rw[ab.ah _ _ G,ab.ah _ _ S,ab.ah _ _ E];exact h0
 have nb:∀c,(jv A.fb) c=none->c≠A.fb:=λc h e=>by subst e;simp[jv]at h
 have sr:(((jv A.fb).set cn (.cells [int 0])).set r (.raw (.deferred (some [])))|>.set l (.loop z)) r=some (.raw (.deferred (some []))):=(ab.ah _ _ n).trans (ab.aj _ _ _)
 refine gy Tryz.func103 rfl rfl rfl (xn (F:=λc=>c=l\/c=cn) O W t hY ⟨rfl,rfl⟩ hu ⟨λc=>YP,ab.aj _ _ _,(ab.ah _ _ q).trans ((ab.ah _ _ Y).trans (ab.aj _ _ _))⟩ λF' a H I p=>?_)
 have J:=(H r _ sr (λe=>by omega) (nb r y) (.inr rfl)).1
 rcases p with⟨_,E,S⟩|hE
 . subst o
   refine⟨_,E,by simp,rfl,?_⟩
   have K:(a.del l) cn=some (.cells [int (aG f begun).length]):=by simp only[ab.del,q,Rp];omega
   have L:(a.del l) A.fb=some .gu:=by
    have G:A.fb≠l:=λe=>by grind
    simp only[ab.del,G,Rp];exact I
   have M:(a.del l) r=some (.raw (.deferred (some []))):=by simp only[ab.del,n,Rp];exact J
   apply rn;simp[K];refine aa.Kk g rfl rfl (by simp) rfl rfl (by simp_all) L rfl rfl Tryz.func116 rfl (by rw[m];exact Tryz.func54) rfl rfl ?_
   apply rn;simp;refine⟨rfl,.inl rfl,⟨_,rfl⟩,r,by rw[m],M⟩
 simp_all
end
def ji(j:Nat):abe:=if j=0 then[0,0]else[0,1]
def gL(f:Fr):Int:=if f.aA.length<2 then 1 else(aG f [0,0]).length+(aG f [0,1]).length
theorem Po{v d}(l:v.cells=[v])(m:d.cells=[d])(h:v.W d):(AV.cp v 0).W (.cp d 0):=λk x n=>by
 cases n with
 | cp b base off N E v c o p f g=>
   rw[l]at p f g;refine .cp b base 0 N E d c o (by simp_all) (λj i=>f j (by simp_all)) (λj a e=>?_);rw[m]at e;have i:j=0:=by grind
   subst i;simp at e;subst e;exact h k _ (g 0 v rfl)
section
variable{b mb:Nat}{f:Fr}
theorem LS(U:m.solo=true)(A:f.Good)(hlen:(aG f [0,0]).length<1000000000/\(aG f [0,1]).length<1000000000)(q:b≠mb)(L:Rr b 6 mb .u8 (ku f) σ)(h:∀σ',Rr b 6 mb .u8 (ku f) σ'->ou b mb σ σ'->KF (.val (int (gL f))) σ'):aB prog m 74 [kH b mb f 0] σ KF:=by
 have h6:=A.qo;unfold gL at h;refine fs [] Tryz.func74 rfl (by kernel_rfl) ?_
 simp[Tryz.f74]
 by_cases M:f.aA.length<2
 . have k:(f.aA.length:Int)<2:=by omega
   rw[YG M]at h;simp[k];exact .done (h σ L (ou.refl b mb σ))
 have k:¬(f.aA.length:Int)<2:=by omega
 rw[YA M]at h;obtain⟨V,lm,N,W⟩:=L;simp[k];refine Cv lay rfl Gd rfl uI rfl (by decide) λcF X=>?_
 apply rn;simp;refine cz.intro λy r=>?_
 obtain⟨n1,Y,r⟩:=ab.aP r;simp;refine cz.intro λgb g=>?_
 obtain⟨Z,n4,g⟩:=ab.aP g;obtain⟨n5,O,g⟩:=ab.aP g;simp;have P:cF≠b:=λe=>by simp_all
 have Q:cF≠mb:=λe=>by simp_all
 have b3:y≠b:=λe=>by simp_all
 have m3:y≠mb:=λe=>by simp_all
 have s:gb≠b:=λe=>by simp_all
 have gm:gb≠mb:=λe=>by simp_all
 refine aa.bu 3 (b:=y) (.chan cF) (by simp[n4,ab.ah]) (by simp) rfl ?_
 refine aa.bV U ⟨2,false,cF,b,6,gb,mb,λx=>∃l,x=mapA .u8 l/\ku f l,λj=>int (aG f (ji j)).length,λ_=>.tuple #[],nn,ng,by omega,P,O,Q,zj s,q,gm⟩ rfl Pm Pn zu zv Qm (tm:=false) (a:=mapA .u8 lm) (by simp[ab.del,ab.ah,Y,O]) (by simp[ab.del,Z]) (by simp[ab.del,ab.set,zj b3,zj s,zj P,V]) (by simp[ab.del,ab.set,zj m3,zj gm,zj Q,N]) (by simp[mapA,oT]) ⟨lm,rfl,W⟩ rfl λpb a7 Fin kd a8 k0 t=>?_
 refine aa.tE ?_;refine aa.runN lay [] 18 ?_;simp;refine cz.intro λB C=>?_
 have d:B≠b:=λe=>by simp_all
 simp
 change aa _ _ _ _ _ _ _ _ _
 refine aa.bu 6 (b:=B) (.sl 1 [int 0,int 0] .exact) (ab.aj _ _ _) (by simp) rfl ?_
 refine aa.MZ 6 (a':=.cp (ints [0,0]) 0) (by simp;exact Po rfl rfl (jH 1 [int 0,int 0] .exact)) ?_
 refine aa.Kj rfl rfl rfl (by simp) Tryz.func52 rfl rfl rfl ?_
 apply rn;simp;refine aa.yi (hold':=[]) rfl rfl rfl (by simp) rfl Tryz.func116 rfl rfl (by simp_all) (by simp[gh.at,ab.del,ab.set,zj d]) (by kernel_rfl) (λR=>xp (b:=b) (mb:=mb) (f:=f) (begun:=[0,0]) ⟨rfl,rfl,rfl,rfl,rfl,gh.wR _ _ _⟩ (λx=>YP) A rfl (by simp) (by omega) rfl) ?_
 apply rn;simp;refine aa.again (by kernel_rfl) ?_
 refine aa.runN lay [] 18 ?_;simp;refine cz.intro λD u=>?_
 have n:D≠b:=λe=>by subst e;simp[ab.del,ab.set,zj d]at u
 simp
 change aa _ _ _ _ _ _ _ _ _
 refine aa.bu 6 (b:=D) (.sl 1 [int 0,int 1] .exact) (ab.aj _ _ _) (by simp) rfl ?_
 refine aa.MZ 6 (a':=.cp (ints [0,1]) 0) (by simp;exact Po rfl rfl (jH 1 [int 0,int 1] .exact)) ?_
 refine aa.Kj rfl rfl rfl (by simp) Tryz.func52 rfl rfl rfl ?_
 apply rn;simp;refine aa.yi (hold':=[]) rfl rfl rfl (by simp) rfl Tryz.func116 rfl rfl (by simp_all) (by simp[gh.at,ab.del,ab.set,zj n,zj d]) (by kernel_rfl) (λR=>xp (b:=b) (mb:=mb) (f:=f) (begun:=[0,1]) ⟨rfl,rfl,rfl,rfl,rfl,gh.wR _ _ _⟩ (λx=>YP) A rfl (by simp) (by omega) rfl) ?_
 apply rn;simp;refine aa.again (by kernel_rfl) ?_
 apply rn;simp;refine aa.U9 (by exact gh.wR _ _ _) (hold':=[]) rfl rfl rfl (by simp) rfl Tryz.func117 rfl rfl (by simp_all) (by simp[gh.at,ab.del,ab.set,zj n,zj d]) (by kernel_rfl) (λR=>EZ rfl rfl) ?_
 apply rn;simp;refine aa.tE ?_;apply rn;simp;refine aa.Gb lay rfl rfl Gd rfl uI (by simp) rfl rfl λi E=>?_
 have a9:∀j,(aG f (ji j)).length<1000000000:=λj=>by unfold ji;grind
 have f1:-9223372036854775808<=((aG f (ji i)).length:Int)/\((aG f (ji i)).length:Int)<=9223372036854775807:=by grind
 apply rn;simp[gh.at,f1.1,f1.2];refine aa.again (by kernel_rfl) ?_
 apply rn;simp;refine aa.Gb lay rfl rfl Gd rfl uI (by simp) rfl rfl λo F=>?_
 have S:-9223372036854775808<=((aG f (ji i)).length:Int)+((aG f (ji o)).length:Int)/\((aG f (ji i)).length:Int)+((aG f (ji o)).length:Int)<=9223372036854775807:=by grind
 apply rn;simp[S.1,S.2];refine aa.again (by kernel_rfl) ?_
 apply rn;simp;refine aa.AT lay rfl rfl Gd rfl uI (by simp) rfl rfl (by simp[ab.del,ab.set,zj n,zj d]) rfl t λa ha=>?_
 apply rn;simp
 have v:((aG f (ji i)).length:Int)+((aG f (ji o)).length:Int)=((aG f [0,0]).length:Int)+((aG f [0,1]).length:Int):=by
  have p:i∈List.range 2:=E;have z:o∈(List.range 2).erase i:=F;have:i=0\/i=1:=by simp_all
  rcases this with rfl|rfl
  . have:o=1:=by simp_all
    subst this;rfl
  . have:o=0:=by simp_all
    subst this;exact Int.add_comm _ _
 rw[v];obtain⟨la,rfl,G⟩:=ha;refine .done (h _ ⟨ab.aj _ _ _,la,(ab.ah _ _ (zj q)).trans (ab.aj _ _ _),G⟩ λc x p z w=>?_)
 have H:c≠mb:=λe=>by
  subst e;rw[N]at p;cases p
  rcases w with w|w
  . exact w rfl
  . cases w
 have I:c≠cF:=λe=>by simp_all
 have J:c≠y:=λe=>by simp_all
 have K:c≠gb:=λe=>by simp_all
 have T:c≠B:=λe=>by subst e;simp[ab.del,ab.set,H,I,J,K,z,p]at C
 have e6:c≠D:=λe=>by subst e;simp[ab.del,ab.set,H,I,J,K,T,z,p]at u
 simp[ab.del,ab.set,H,I,J,K,T,e6,z,p]
end
section
variable{b mb:Nat}{f:Fr}{Un:abh}{Ld:ab->aaL->Prop}
theorem E0(Q:Km prog m nn b 6 mb .u8 (ku f) Un Ld)(hf:f.Good){G p}(z:G.cells=[G]/\G.flat=true)(U:∀w∈aG f [],∀  σ   KF ,KF (.val (bool (p w))) σ->cX prog m G [ints w] σ KF)(hlen:(aG f []).length<1152921504606846976)(hu:Un σ)
 (h:∀σ',Un σ'->ou b mb σ σ'->KF (.val (.cH [int (((aG f []).filter p).length),int (aG f []).length])) σ'):aB prog m 38 [kH b mb f 0,G] σ KF:=by
 refine fs Tr Tryz.func38 rfl (by kernel_rfl) ?_
 simp[Tryz.f38,z.1,z.2];refine cz.intro λj h6=>?_
 simp;refine cz.intro λd h7=>?_
 obtain⟨R,z2,h7⟩:=ab.aP h7;simp[R,z2,ab.ah];have hW:Wl [kH b mb f 0,AV.lit (.slice none 0 0)] [kH b mb f 0,ints []]:=.cons (.refl _) (.cons (lR 1) .nil);refine dQ Tryz.func69 rfl rfl hW (Bb (begun:=[]) ?_);apply rn;simp;refine aa.rangeFunc rfl λV r l t u H=>?_
 obtain⟨a1,_,t⟩:=ab.aP t;obtain⟨a2,_,t⟩:=ab.aP t;obtain⟨_,_,t⟩:=ab.aP t;obtain⟨_,_,t⟩:=ab.aP t;obtain⟨a3,_,u⟩:=ab.aP u;obtain⟨a4,_,u⟩:=ab.aP u;obtain⟨_,_,u⟩:=ab.aP u;obtain⟨_,_,u⟩:=ab.aP u;have I:σ r=none/\r≠j/\r≠d:=⟨t,a2,a1⟩;have a:σ l=none/\l≠j/\l≠d:=⟨u,a4,a3⟩;generalize J:Bs.mk _ _ _ _ _ _ _ _ _=K
 have hY:Ru m (.fn (.yield l) [] []) (aG f []) (λk F σ'=>(∀c,F c↔c=l\/c=j\/c=d)/\σ' l=some (.loop K)/\σ' j=some (.cells [int ((((aG f []).take k).filter p).length)])/\σ' d=some (.cells [int k])) (λF σ'=>False):=by
  refine⟨λk F σ' av hk D hT hF=>?_,λk F W n he D=>?_,λF W n he D=>D.elim,λk F σ' c D o=>?_⟩
  . obtain⟨i,S,X,Y⟩:=D
    have e7:∀x,(σ'.set l x) d=some (.cells [int k]):=λx=>(ab.ah _ _ (zj a.2.2)).trans Y
    have f1:-9223372036854775808<=(k:Int)+1/\(k:Int)+1<=9223372036854775807:=by omega
    have ax:(((aG f []).take k).filter p).length<=k:=YO (Zf _ _) (by grind)
    have f2:-9223372036854775808<=((((aG f []).take k).filter p).length:Int)+1/\((((aG f []).take k).filter p).length:Int)+1<=9223372036854775807:=by omega
    have Z:(((aG f []).take (k+1)).filter p).length=(((aG f []).take k).filter p).length+if p (aG f [])[k]then 1 else 0:=by
     rw[Yz hk,ZF,YL]
     grind
    have L:(aG f [])[k]∈aG f []:=zD hk;subst J;refine cX.DO (hold:=Tr) V Tryz.func38 S rfl ?_;apply rn;simp[oO];refine aa.beginRound S rfl ?_;apply rn;simp[e7,f1.1,f1.2,z.1];refine U _ L _ _ ?_;have e6:∀x y,((σ'.set l x).set d y) j=some (.cells [int ((((aG f []).take k).filter p).length)]):=λx y=>(ab.ah _ _ (zj R)).trans ((ab.ah _ _ (zj a.2.1)).trans X)
    cases hp:p (aG f [])[k]
    . apply rn
      simp;refine⟨rfl,rfl,_,((ab.ah _ _ a.2.2).trans (ab.aj _ _ _)),?_⟩;refine hT F _ (λc x o hx=>⟨?_,o⟩) ⟨i,ab.aj _ _ _,?_,(ab.ah _ _ (zj a.2.2)).trans (ab.aj _ _ _)⟩
      . have A:c≠l:=λe=>o ((i c).2 (.inl e))
        have M:c≠d:=λe=>o ((i c).2 (.inr (.inr e)))
        exact(ab.ah _ _ A).trans ((ab.ah _ _ M).trans ((ab.ah _ _ A).trans hx))
      . refine(ab.ah _ _ (zj a.2.1)).trans ((e6 _ _).trans ?_)
        simp_all
    . apply rn
      simp[e6,f2.1,f2.2];refine⟨rfl,rfl,_,((ab.ah _ _ a.2.1).trans ((ab.ah _ _ a.2.2).trans (ab.aj _ _ _))),?_⟩;refine hT F _ (λc x o hx=>⟨?_,o⟩) ⟨i,ab.aj _ _ _,?_,(ab.ah _ _ (zj a.2.2)).trans ((ab.ah _ _ R).trans (ab.aj _ _ _))⟩
      . have A:c≠l:=λe=>o ((i c).2 (.inl e))
        have T:c≠j:=λe=>o ((i c).2 (.inr (.inl e)))
        have M:c≠d:=λe=>o ((i c).2 (.inr (.inr e)))
        exact(ab.ah _ _ A).trans ((ab.ah _ _ T).trans ((ab.ah _ _ M).trans ((ab.ah _ _ A).trans hx)))
      . refine(ab.ah _ _ (zj a.2.1)).trans ((ab.aj _ _ _).trans ?_)
        simp_all
  . simp_all
  . obtain⟨i,S,X,Y⟩:=D
    rcases(i c).1 o with rfl|rfl|rfl
    . exact⟨_,S,rfl⟩
    . exact⟨_,X,rfl⟩
    . exact⟨_,Y,rfl⟩
 obtain⟨xb,ay,aC⟩:=Q.Rq hu;have nb:∀c,σ c=none->c≠b:=λc o e=>by simp_all
 have N:σ.Le ((((((σ.set j (.cells [int 0])).set d (.cells [int 0])).set j (.cells [int 0])).set d (.cells [int 0])).set r (.raw (.deferred (some [])))).set l (.loop K)):=(by repeat (first|exact ab.le_refl _|assumption|refine ab.fW ?_ (by assumption)|refine ab.nB ?_ (by assumption)))
 have sr:((((((σ.set j (.cells [int 0])).set d (.cells [int 0])).set j (.cells [int 0])).set d (.cells [int 0])).set r (.raw (.deferred (some [])))).set l (.loop K)) r=some (.raw (.deferred (some []))):=(ab.ah _ _ H).trans (ab.aj _ _ _);have s7:((((((σ.set j (.cells [int 0])).set d (.cells [int 0])).set j (.cells [int 0])).set d (.cells [int 0])).set r (.raw (.deferred (some [])))).set l (.loop K)) d=some (.cells [int 0]):=(ab.ah _ _ (zj a.2.2)).trans ((ab.ah _ _ (zj I.2.2)).trans (ab.aj _ _ _))
 have s6:((((((σ.set j (.cells [int 0])).set d (.cells [int 0])).set j (.cells [int 0])).set d (.cells [int 0])).set r (.raw (.deferred (some [])))).set l (.loop K)) j=some (.cells [int 0]):=(ab.ah _ _ (zj a.2.1)).trans ((ab.ah _ _ (zj I.2.1)).trans ((ab.ah _ _ (zj R)).trans (ab.aj _ _ _)));refine gy Tryz.func103 rfl rfl rfl (xn (F:=λc=>c=l\/c=j\/c=d) Q hf (by simp) hY ⟨rfl,rfl⟩ (Q.un (λc _ ⟨x,s,_⟩=>(N _ _ s).trans s.symm) hu) ⟨λc=>YP,ab.aj _ _ _,by simp_all,by omega⟩ λF' σ' O a7 v=>?_)
 have P:=(O r _ sr (λe=>by omega) (nb r t) (.inr rfl)).1
 have B:ou b mb σ σ':=λc x s E C=>(O c x (N c x s) (λe=>by grind) E C).1
 have a8:∀n,n=(σ'.del l).set r (.raw (.deferred none))->Un n/\ou b mb σ n:=λn e=>by
  subst e;refine⟨Q.un (σ:=σ') (λc _ ⟨x,s,E⟩=>?_) a7,λc x s E C=>?_⟩
  . have c1:c≠r:=λe=>by subst e;rw[P]at s;cases s;cases E
    have c2:c≠l:=λe=>by
     subst e
     rcases v with⟨_,g,_⟩|g
     . rw[g]at s;cases s;cases E
     omega
    rw[ab.ah _ _ c1];simp[ab.del,c2]
  . have c1:c≠r:=λe=>by simp_all
    have c2:c≠l:=λe=>by simp_all
    rw[ab.ah _ _ c1];simp only[ab.del,c2,Rp];exact B c x s E C
 rcases v with⟨_,A,T,M⟩|q
 . rw[YZ]at T
   subst J;refine⟨_,A,by simp,rfl,?_⟩
   have a9:(σ'.del l) j=some (.cells [int ((aG f []).filter p).length]):=by simp only[ab.del,zj a.2.1,Rp];exact T
   have ad:(σ'.del l) d=some (.cells [int (aG f []).length]):=by simp only[ab.del,zj a.2.2,Rp];exact M
   apply rn;simp[a9,ad];apply rn;simp;refine⟨by simp only[ab.del,H,Rp];exact P,.done ?_⟩
   simp_all
 simp_all
end
theorem zw(f:Fr)(begun:abe):∀(fuel:Nat) (cT:abe) (many:Int) (c:abe),∀w∈fD f begun fuel cT many c,w.length=cT.length+fuel
 |0,cT,many,c,w,b=>by simp[fD]at b;subst b;rfl
 | fuel+1,cT,many,c,w,b=>by
   rw[q8,aae]at b;obtain⟨k,_,a⟩:=b;unfold oy at a;split at a
   . cases a
   split at a
   . have:=zw f begun fuel _ _ _ w a
     rw[this];simp;omega
   . cases a
section
variable{b mb:Nat}{f:Fr}{Un:abh}{Ld:ab->aaL->Prop}
def fE(x y:Int)(w:abe):Bool:=decide (w.getD x.toNat 0=w.getD y.toNat 0)
theorem LU{w:abe}{x y:Int}(a:0<=x/\x.toNat<w.length)(b:0<=y/\y.toNat<w.length)(h:KF (.val (bool (fE x y w))) σ):aB prog m 39 [ints w,.cp (int x) 0,.cp (int y) 0] σ KF:=by
 have c:w.getD x.toNat 0=w[x.toNat]:=by simp[zA,a.2]
 have d:w.getD y.toNat 0=w[y.toNat]:=by simp[zA,b.2]
 unfold fE at h;rw[c,d]at h;refine fs Vj Tryz.func39 rfl (by kernel_rfl) ?_;simp[Tryz.f39,a.1,a.2,b.1,b.2];apply rn;simp;refine .done ?_;by_cases q:w[x.toNat]=w[y.toNat]
 . simpa[q]using h
 . have:(w[x.toNat]==w[y.toNat])=false:=by simp[q]
   simpa[q,this]using h
theorem Ob(g:Km prog m nn b 6 mb .u8 (ku f) Un Ld)(i:f.Good){x y:Int}(d:0<=x/\x.toNat<f.aA.length)(e:0<=y/\y.toNat<f.aA.length)(hlen:(aG f []).length<1152921504606846976)(j:Un σ)
 (h:∀σ',Un σ'->ou b mb σ σ'->KF (.val (int (fJ (((aG f []).filter (fE x y)).length:Int) (aG f []).length))) σ'):aB prog m 21 [kH b mb f 0,int x,int y] σ KF:=by
 have c:∀w∈aG f [],w.length=f.aA.length:=λw c=>by have:=zw f [] _ _ _ _ w c;simpa using this
 refine fs [] Tryz.func21 rfl (by kernel_rfl) ?_;simp[Tryz.f21];refine cf Tryz.func38 rfl (E0 g i (p:=fE x y) ⟨rfl,rfl⟩ (λw a σ KF k=>gy Tryz.func39 rfl rfl rfl (LU ⟨d.1,by rw[c w a];exact d.2⟩ ⟨e.1,by rw[c w a];exact e.2⟩ k)) hlen j λσ' l n=>?_);apply rn;simp;refine cf Tryz.func37 rfl (EJ ?_);apply rn;simp;exact .done (h σ' l n)
end
theorem Io(r:m.solo=true){f:Fr}{l:abe}{sp:kW}(o:f.Fits)(p:check f=0)(s:∀n∈l,0<=n/\n<f.aA.length)(j:l.length<1152921504606846976)(g:aG f []≠[])(h:∀b mb σ',b≠mb->Rr b 6 mb .u8 (ku f) σ'->σ b=none/\σ mb=none->σ.Le σ'->KF (.val (.cH [kH b mb f 0,int 0])) σ'):aB prog m 20 [cj f,.sl 1 (l.map int) sp] σ KF:=by
 have t:=Fr.pq o p;have u:=xi p s;refine fs [] Tryz.func20 rfl (by kernel_rfl) ?_
 simp[Tryz.f20];have v:Wl [AV.agg (CE f),.sl 1 (l.map int) sp] [cj f,ints l]:=.cons (.refl _) (.cons (jH 1 _ sp) .nil);refine dQ Tryz.func35 rfl rfl v (AZ o j (λq=>absurd u q) λ_ b mb σ' d=>?_)
 have w:Rr b 6 mb .u8 (ku f) σ':=by rw[d.eq];exact⟨ab.aj _ _ _,[],(ab.ah _ _ (zj d.ne)).trans (ab.aj _ _ _),λn a h=>by simp[dc]at h⟩
 apply rn;simp;refine cf Tryz.func36 rfl (Oa (CA zu zv Qm r d.ne) t w λk y z=>?_)
 apply rn;simp[g];refine .done (h b mb k d.ne y ⟨d.hb,d.Br⟩ λc x i=>?_)
 have A:c≠b:=λe=>by subst e;rw[d.hb]at i;cases i
 have B:c≠mb:=λe=>by subst e;rw[d.Br]at i;cases i
 exact z c x (d.le c x i) A (.inl B)
theorem Gh(k:m.solo=true){f:Fr}{x y:Int}(o:f.Fits)(p:check f=0)(a:0<=x/\x<f.aA.length)(r:0<=y/\y<f.aA.length)(d:aG f []≠[])(hlen:(aG f []).length<1152921504606846976)(h:KF (.val (.cH [int (fJ (((aG f []).filter (fE x y)).length:Int) (aG f []).length),int 0])) σ):aB prog m 9 [cj f,int x,int y] σ KF:=by
 have s:=Fr.pq o p;refine fs [] Tryz.func9 rfl (by kernel_rfl) ?_
 simp[Tryz.f9];refine cf Tryz.func20 rfl (Io (l:=[x,y]) (sp:=.exact) k o p (λn q=>by simp at q;rcases q with rfl|rfl<;>omega) (by simp) d λb mb t i u g j=>?_)
 apply rn;simp;refine cf Tryz.func21 rfl (Ob (CA zu zv Qm k i) s ⟨a.1,by omega⟩ ⟨r.1,by omega⟩ hlen u λv B w=>?_)
 apply rn;simp;refine .less (λc x a=>?_) (.done h)
 have z:c≠b:=λe=>by subst e;rw[g.1]at a;cases a
 have A:c≠mb:=λe=>by subst e;rw[g.2]at a;cases a
 exact w c x (j c x a) z (.inl A)
theorem LV(l:m.solo=true){f:Fr}(j:f.Fits)(k:check f=0)(hlen:(aG f [0,0]).length<1000000000/\(aG f [0,1]).length<1000000000)(h:KF (.val (.cH [int (gL f),int 0])) σ):aB prog m 49 [cj f] σ KF:=by
 have o:=Fr.pq j k;have p:=CN k;refine fs [] Tryz.func49 rfl (by kernel_rfl) ?_
 simp[Tryz.f49];have r:Wl [AV.agg (CE f),AV.lit (.slice none 0 0)] [cj f,ints []]:=.cons (.refl _) (.cons (lR 1) .nil);refine dQ Tryz.func35 rfl rfl r (AZ j (by simp) (λq=>absurd p q) λ_ b mb i d=>?_)
 have s:Rr b 6 mb .u8 (ku f) i:=by rw[d.eq];exact⟨ab.aj _ _ _,[],(ab.ah _ _ (zj d.ne)).trans (ab.aj _ _ _),λn a h=>by simp[dc]at h⟩
 apply rn;simp;refine cf Tryz.func74 rfl (LS l o hlen d.ne s λt y u=>?_)
 apply rn;simp;refine .less (λc x g=>?_) (.done h)
 have v:c≠b:=λe=>by subst e;rw[d.hb]at g;cases g
 have w:c≠mb:=λe=>by subst e;rw[d.Br]at g;cases g
 exact u c x (d.le c x g) v (.inl w)
def bz(w:abe):Int:=w.foldl (λn k=>max n (k+1)) 0
theorem E1{l b}(m:l.length=b.length)(f:∀(i:Nat) a a',l[i]?=some a->b[i]?=some a'->a.W a'):(AV.cH l).W (.cH b):=λk x g=>by
 cases g with
 | cH c _ n h=>
   refine .cH c b (by omega) λi v a' j d=>?_
   have e:i<l.length:=by grind
   exact f i l[i] a' (by simp[e]) d k v (h i v _ j (by simp[e]))
theorem Gi:∀{es},(∀a∈es,a.cells=[a])->flatten es=es
 |[],_=>rfl
 |a::es,h=>by rw[flatten_cons,h a (aaq ..),Gi λx b=>h x (Zz _ b)];rfl
theorem TM{es d sp}(n:es.length=d.length)(o:∀a∈es,a.cells=[a])(f:∀a∈d,a.cells=[a])(p:∀(i:Nat) a a',es[i]?=some a->d[i]?=some a'->a.W a'):(AV.sl 1 es sp).W (.sl 1 d .any):=λk x q=>by
 cases q with
 | sl b off cap v N E _ _ c h r s w t l y=>
   rw[Gi o]at t l;rw[n]at h ⊢;refine .sl b off cap 1 N E d .any c h r s (λe z=>by simp_all) (λj g=>?_) (λj a m=>?_) trivial
   . rw[Gi f]at g
     simp_all
   . rw[Gi f]at m
     have g:j<es.length:=by grind
     exact p j es[j] a (by simp[g]) m k _ (l j _ (by simp[g]))
 | slnil u=>
   have:d=[]:=by grind
   subst this;exact .slnil u 1 .any (.inl rfl)
theorem pv{l b}(m:l.length=b.length)(f:∀(i:Nat) a a',l[i]?=some a->b[i]?=some a'->a.W a'):(AV.agg l).W (.agg b):=λk x g=>by
 cases g with
 | agg c _ n h=>
   refine .agg c b (by omega) λi v a' j d=>?_
   have e:i<l.length:=by grind
   exact f i l[i] a' (by simp[e]) d k v (h i v _ j (by simp[e]))
def bn(c:Nat)(nums:abe)(k:Nat)(σ:ab):Prop:=∃(n:Nat) (s:Int),n<=k/\σ c=some (.cells [ints nums,int n,.lit (.int .u64 s)])
theorem Ip{nums}(h:∀c σ',σ c=none->bn c nums 0 σ'->(∀x,x≠c->σ' x=σ x)->KF (.val (.ref c 0)) σ'):aB prog m 5 [ints nums] σ KF:=by
 refine aB.start lay [5] [] 1 Tryz.func5 rfl rfl (by rfl) (by kernel_rfl) ?_;simp[Tryz.f5];refine cz.intro λc a=>?_
 simp;exact .done (h c _ a ⟨0,_,YF _,ab.aj _ _ _⟩ λx b=>ab.ah _ _ b)
theorem Oc  a b :0<=IntKind.u64.wrap (((BitVec.ofInt 64 a ^^^ BitVec.ofInt 64 b).toNat:Nat):Int)/\IntKind.u64.wrap (((BitVec.ofInt 64 a ^^^ BitVec.ofInt 64 b).toNat:Nat):Int)<18446744073709551616:=by generalize (((BitVec.ofInt 64 a ^^^ BitVec.ofInt 64 b).toNat:Nat):Int)=x;simp only[IntKind.wrap,IntKind.signed,IntKind.bits];simp;omega
theorem LW{x:Int}(h:0<=x/\x<18446744073709551616):0<=x.fdiv (2 ^ min 11 IntKind.u64.bits)/\x.fdiv (2 ^ min 11 IntKind.u64.bits)<9007199254740992:=by
 have e:(2:Int) ^ min 11 IntKind.u64.bits=2048:=by decide
 grind
theorem Od{c k nums}(B:k<1000000)(C:nums.length<1152921504606846976)(hb:bn c nums k σ)(h:∀  x  σ',0<=x/\x<9007199254740992->bn c nums (k+1) σ'->(∀y,y≠c->σ' y=σ y)->KF (.val (.lit (.int .u64 x))) σ'):aB prog m 28 [.ref c 0] σ KF:=by
 obtain⟨n,s,w,l⟩:=hb;have t:-9223372036854775808<=(n:Int)+1/\(n:Int)+1<=9223372036854775807:=by omega
 obtain⟨fm,d⟩:∃f:Int->Int->Int,∀a b,oA .mul .u64 a b=some (.int .u64 (f a b)):=⟨_,λ_ _=>rfl⟩;obtain⟨D,g,r⟩:∃f:Int->Int->Int,(∀a b,oA .xor .u64 a b=some (.int .u64 (f a b)))/\∀a b,0<=f a b/\f a b<18446744073709551616:=⟨_,λ_ _=>rfl,Oc⟩;refine aB.Ey lay [] Vg 27 1 Tryz.func28 rfl rfl (by rfl) (by kernel_rfl) ?_;simp[Tryz.f28,l,t.1,t.2,aH,d];refine aa.jR (λe i=>e 0=.ref c 0/\(∃z,e 3=.lit (.int .u64 z))/\i c=some (.cells [ints nums,int ((n:Int)+1),.lit (.int .u64 s)])/\∀y,y≠c->i y=σ y) (by simp;intro y p;exact ab.ah _ _ p) ?_;clear l;rintro env i ⟨o,⟨z,q⟩,l,j⟩;refine aa.runN lay [] 2 ?_;simp[o,l];refine aa.runN lay [] 2 ?_;simp;refine aI.intro (λu=>?_) (λu=>?_)<;>simp[-Int.not_lt,-Int.not_le,-Nat.not_lt,-Nat.not_le]at u
 . have E:(n:Int)<nums.length:=by omega
   have A:n<nums.length:=by omega
   have v:-9223372036854775808<=(n:Int)/\(n:Int)<=9223372036854775807:=by omega
   simp[o,q,l,A,v.1,v.2,d,g];refine aa.jR (λe i=>e 0=.ref c 0/\(∃z,e 3=.lit (.int .u64 z))/\i c=some (.cells [ints nums,int ((n:Int)+1),.lit (.int .u64 s)])/\∀y,y≠c->i y=σ y) (by simp_all) ?_;clear o q l j;rintro env i ⟨o,⟨z,q⟩,l,j⟩;apply rn;simp[o,q,l,d,g,aH];refine aa.jR (λe i=>e 0=.ref c 0/\(∃s,i c=some (.cells [ints nums,int ((n:Int)+1),.lit (.int .u64 s)]))/\∀y,y≠c->i y=σ y) (by refine⟨by simp[o],⟨_,by simp;rfl⟩,λy p=>?_⟩;simp[ab.ah,p,j y p]) ?_;clear o q l j;rintro env i ⟨o,⟨z,l⟩,j⟩;apply rn;simp[o,l,d,g];refine .done (h _ i (LW (r _ _)) ⟨n+1,z,by omega,by simp_all⟩ j)
 . simp
   apply rn;simp[o,q,l,d,g,aH];refine aa.jR (λe i=>e 0=.ref c 0/\(∃s,i c=some (.cells [ints nums,int ((n:Int)+1),.lit (.int .u64 s)]))/\∀y,y≠c->i y=σ y) (by refine⟨by simp[o],⟨_,by simp;rfl⟩,λy p=>?_⟩;simp[ab.ah,p,j y p]) ?_;clear o q l j;rintro env i ⟨o,⟨z,l⟩,j⟩;apply rn;simp[o,l,d,g];refine .done (h _ i (LW (r _ _)) ⟨n+1,z,by omega,by simp_all⟩ j)
def oD(c:Nat)(nums:abe)(k:Nat)(σ σ':ab):Prop:=bn c nums k σ'/\∀y,y≠c->σ' y=σ y
theorem oD.trans{c nums k k' σ σ' a}(h:oD c nums k σ σ')(b:oD c nums k' σ' a):oD c nums k' σ a:=⟨b.1,λy d=>(b.2 y d).trans (h.2 y d)⟩
theorem bn.mono{c nums k k'}(h:bn c nums k σ)(b:k<=k'):bn c nums k' σ:=by obtain⟨n,s,d,a⟩:=h;exact⟨n,s,by omega,a⟩
theorem LX{n}(h:0<=n/\n<18446744073709551616):IntKind.u64.wrap n=n:=by simp only[IntKind.wrap,IntKind.signed,IntKind.bits];simp;omega
theorem Qn{n}(h:-9223372036854775808<=n/\n<=9223372036854775807):IntKind.i64.wrap n=n:=by simp[IntKind.wrap,IntKind.signed,IntKind.bits];omega
section
variable{c k:Nat}{nums:abe}
theorem eF{n}(f:k<1000000)(g:nums.length<1152921504606846976)(i:-4611686018427387904<=n/\n<4611686018427387904)(hb:bn c nums k σ)(h:∀  x  σ',0<=x/\(x<=n\/x=0)->oD c nums (k+1) σ σ'->KF (.val (int x)) σ'):aB prog m 15 [.ref c 0,int n] σ KF:=by
 refine fs [] Tryz.func15 rfl (by kernel_rfl) ?_;simp[Tryz.f15];refine cf Tryz.func28 rfl (Od f g hb λx σ' j a b=>?_);apply rn;simp;refine aI.intro (λd=>?_) (λd=>?_)<;>simp[-Int.not_lt,-Int.not_le]at d
 . simp
   exact .done (h 0 σ' ⟨by omega,.inr rfl⟩ ⟨a,b⟩)
 . have l:IntKind.u64.wrap n=n:=LX (by omega)
   have o:oA .add .u64 n 1=some (.int .u64 (n+1)):=by show some (Value.int .u64 (IntKind.u64.wrap (n+1)))=_;rw[LX (by omega)]
   obtain⟨r,e,p⟩:∃r:Int,(0<=r/\r<=n)/\oA .rem .u64 x (n+1)=some (.int .u64 r):=by
    refine⟨x.tmod (n+1),⟨Int.tmod_nonneg _ j.1,?_⟩,by simp[oA];omega⟩;have:=Int.tmod_lt_of_pos x (show 0<n+1 by omega);omega
   have q:IntKind.i64.wrap r=r:=Qn (by omega);simp[l,o,p,q];exact .done (h r σ' ⟨e.1,.inl e.2⟩ ⟨a,b⟩)
theorem ed{lo hi}(d:k<1000000)(e:nums.length<1152921504606846976)(f:-1000000000<=lo/\lo<=1000000000)(g:-1000000000<=hi/\hi<=1000000000)(hb:bn c nums k σ)(h:∀  x  σ',lo<=x/\(x<=hi\/x=lo)->oD c nums (k+1) σ σ'->KF (.val (int x)) σ'):aB prog m 14 [.ref c 0,int lo,int hi] σ KF:=by
 have a:-9223372036854775808<=hi-lo/\hi-lo<=9223372036854775807:=by omega
 refine fs [] Tryz.func14 rfl (by kernel_rfl) ?_;simp[Tryz.f14,a.1,a.2];refine cf Tryz.func15 rfl (eF d e ⟨by omega,by omega⟩ hb λx σ' i hd=>?_);have b:-9223372036854775808<=lo+x/\lo+x<=9223372036854775807:=by omega
 apply rn;simp[b.1,b.2];exact .done (h _ σ' ⟨by omega,by omega⟩ hd)
theorem mq{l:abe}{sp}(d:k<1000000)(f:nums.length<1152921504606846976)(i:0<l.length/\l.length<1000000)(hb:bn c nums k σ)(h:∀  x  σ',x∈l->oD c nums (k+1) σ σ'->KF (.val (int x)) σ'):aB prog m 27 [.ref c 0,.sl 1 (l.map int) sp] σ KF:=by
 have a:-9223372036854775808<=(l.length:Int)-1/\(l.length:Int)-1<=9223372036854775807:=by omega
 refine fs [] Tryz.func27 rfl (by kernel_rfl) ?_;simp[Tryz.f27,a.1,a.2];refine cf Tryz.func15 rfl (eF d f ⟨by omega,by omega⟩ hb λx σ' g hd=>?_);have b:x.toNat<l.length:=by omega
 have j:x<l.length:=by omega
 have e:(x.toNat:Int)=x:=by omega
 apply rn;simp[g.1,b];exact .done (h _ σ' (zD b) hd)
theorem vq{n}(b:k<1000000)(d:nums.length<1152921504606846976)(e:0<=n/\n<1000000000)(hb:bn c nums k σ)(h:∀  x  σ',oD c nums (k+1) σ σ'->KF (.val (bool x)) σ'):aB prog m 13 [.ref c 0,int n] σ KF:=by
 have a:-9223372036854775808<=n-1/\n-1<=9223372036854775807:=by omega
 refine fs [] Tryz.func13 rfl (by kernel_rfl) ?_;simp[Tryz.f13,a.1,a.2];refine cf Tryz.func15 rfl (eF b d ⟨by omega,by omega⟩ hb λx σ' f hd=>?_);apply rn;simp;exact .done (h _ σ' hd)
end
structure xq  dJ  (e:u6):Prop where
 hour:0<=e.hour/\e.hour<=40
 place:0<=e.place/\e.place<dJ
 cP:0<=e.cP/\e.cP<=1
 marks:e.marks.Sublist [0,1,2]
 bp:14<=e.bp/\e.bp<=16
 jr:0<=e.jr/\e.jr<=2
theorem kT{l}(h:l.Sublist [0,1,2]):sD none l=0/\l.length<=3:=by cases h<;>(rename_i h;cases h<;>(rename_i h;cases h<;>(rename_i h;cases h;decide)))
theorem xq.check{dJ e}(h:xq dJ e):cG dJ e=0:=by
 obtain⟨b,c,d,a,f,g⟩:=h;have a:=(kT a).1;unfold cG bE
 grind
theorem qc{σ0 σ σ2 a kk es c}(h:Tok σ0 σ a kk es)(g:σ0 c=none)(i:∃l,σ c=some (.cells l))(d:∀y,y≠c->σ2 y=σ y):Tok σ0 σ2 a kk es:=by
 refine⟨λy x f=>?_,?_⟩
 . have:y≠c:=λe=>by simp_all
   rw[d y this];exact h.1 y x f
 rcases h.2 with q|q|⟨b,e,j,k,m⟩
 . exact .inl q
 . simp_all
 grind
section
variable{c k:Nat}{nums:abe}
theorem CU{dJ}(hk:k+11<1000000)(t:nums.length<1152921504606846976)(b4:0<=dJ/\dJ<=1000)(hb:bn c nums k σ)(h:∀  e  σ',xq (max dJ 1) e->oD c nums (k+11) σ σ'->KF (.val (ba e)) σ'):aB prog m 25 [.ref c 0,int dJ] σ KF:=by
 have r1:-9223372036854775808<=dJ-1/\dJ-1<=9223372036854775807:=by omega
 obtain⟨n0,s0,_,a8⟩:=id hb;refine fs [] Tryz.func25 rfl (by kernel_rfl) ?_
 simp[Tryz.f25];refine cz.intro λc4 h4=>?_
 have n4:c≠c4:=λe=>by simp_all
 have u:∀x,bn c nums k (σ.set c4 x):=λx=>⟨n0,s0,by assumption,by rw[ab.ah _ _ n4];exact a8⟩
 simp;refine cf Tryz.func15 rfl (eF (by omega) t ⟨by omega,by omega⟩ (u _) λd b5 b6 I=>?_)
 apply rn;simp;refine cf Tryz.func15 rfl (eF (by omega) t ⟨by omega,by omega⟩ I.1 λg f b7 J=>?_)
 apply rn;simp;refine cf Tryz.func15 rfl (eF (by omega) t ⟨by omega,by omega⟩ J.1 λx3 w b8 K=>?_)
 apply rn;simp;refine cf Tryz.func27 rfl (mq (l:=[d,g,x3]) (by omega) t (by simp) K.1 λF b9 a9 L=>?_)
 apply rn;simp[r1.1,r1.2];refine cf Tryz.func15 rfl (eF (by omega) t ⟨by omega,by omega⟩ L.1 λpl bm bw M=>?_)
 apply rn;simp;refine cf Tryz.func27 rfl (mq (l:=[0,0,0,1]) (by omega) t (by simp) M.1 λco bx ad N=>?_)
 apply rn;simp;refine cf Tryz.func27 rfl (mq (l:=[14,14,15,15,16]) (by omega) t (by simp) N.1 λG bA al O=>?_)
 apply rn;simp;refine cf Tryz.func27 rfl (mq (l:=[0,0,1,2]) (by omega) t (by simp) O.1 λsh P av Q=>?_)
 apply rn;simp;refine cz.intro λv h5=>?_
 simp;have o:oD c nums (k+8) (σ.set c4 (.cells [int 0,int 0,int 0,.lit (.slice none 0 0),int 0,int 0])) P:=I.trans (J.trans (K.trans (L.trans (M.trans (N.trans (O.trans Q))))));have R:c4≠c:=zj n4;have ax:P c4=some (.cells [int 0,int 0,int 0,.lit (.slice none 0 0),int 0,int 0]):=by rw[o.2 c4 R,ab.aj]
 have S:v≠c:=λe=>by subst e;obtain⟨_,_,_,q⟩:=Q.1;simp_all
 have A:v≠c4:=λe=>by simp_all
 have ay:σ v=none:=by rw[o.2 v S,ab.ah _ _ A]at h5;exact h5
 have aC:0<=F/\F<=40:=by simp at a9;omega
 have aE:0<=co/\co<=1:=by simp at ad;omega
 have aL:14<=G/\G<=16:=by simp at al;omega
 have aO:0<=sh/\sh<=2:=by simp at av;omega
 have b0:0<=pl/\pl<max dJ 1:=by omega
 refine aa.loop 3 (λj s=>∃env σ' a mk,s=⟨env,σ',[],.no⟩/\env 0=.ref c 0/\env 4=.ref c4 0/\env 5=.ref v 0/\env 6=int j/\bn c nums (k+8+j) σ'/\σ' c4=some (.cells [int 0,int 0,int 0,.lit (.slice none 0 0),int 0,int 0])/\σ' v=some (.cells [int F,int pl,int co,a,int G,int sh])/\Tok (σ.del c) σ' a 1 (mk.map int)/\mk.Sublist ((List.range j).map λi:Nat=>(i:Int))) ⟨_,_,.lit (.slice none 0 0),[],rfl,by simp,by simp,by simp,by simp,?_,?_,?_,?_,by simp⟩ ?_
 . obtain⟨n,z,h1,h2⟩:=o.1
   exact⟨n,z,by omega,by rw[ab.ah _ _ (zj S)];exact h2⟩
 . rw[ab.ah _ _ (zj A)];exact ax
 . simp
 . refine⟨λy x r=>?_,.inl ⟨rfl,rfl⟩⟩
   have H:y≠c:=λe=>by subst e;simp[ab.del]at r
   have y0:σ y=some x:=by simpa[ab.del,H]using r
   have y5:y≠v:=λe=>by simp_all
   have y4:y≠c4:=λe=>by simp_all
   rw[ab.ah _ _ y5,o.2 y H,ab.ah _ _ y4];exact y0
 rintro c0 j _ hj ⟨env,σ',a,mk,rfl,e0,e4,T,U,B,q4,q5,p,C⟩ ih
 have bB:mk.length<=j:=by grind
 rcases Zb j 3 with g1|g1
 . have b1:(j:Int)<3:=by omega
   apply rn;simp[e0,U,b1];refine cf Tryz.func13 rfl (vq (by omega) t ⟨by omega,by omega⟩ B λx f hd=>?_)
   have b2:∃l,σ' c=some (.cells l):=by obtain⟨_,_,_,q⟩:=B;grind
   have b:Tok (σ.del c) f a 1 (mk.map int):=qc p (by simp[ab.del]) b2 hd.2
   have V:=b.cells;have s4:f c4=some (.cells [int 0,int 0,int 0,.lit (.slice none 0 0),int 0,int 0]):=by rw[hd.2 c4 R];exact q4
   have s5:f v=some (.cells [int F,int pl,int co,a,int G,int sh]):=by rw[hd.2 v S];exact q5
   have X:(List.range (j+1)).map (λi:Nat=>(i:Int))=(List.range j).map (λi:Nat=>(i:Int))++[(j:Int)]:=by rw[YT,YS];rfl
   have f1:-9223372036854775808<=(j:Int)+1/\(j:Int)+1<=9223372036854775807:=by omega
   apply rn;simp;cases x with
   | false=>
     simp[U,f1.1,f1.2];refine ih _ g1 ⟨_,_,a,mk,rfl,by simp[e0],by simp[e4],by simp[T],by simp,hd.1,s4,s5,b,?_⟩
     rw[X];exact C.trans (List.sublist_append_left _ _)
   | true=>
     simp[T,U,s5];refine aQ lay rfl rfl rfl eC rfl eC rfl uI (by decide) (by simp;omega) (σ0:=f.off a) (es:=mk.map int) (xs:=[int j]) (by simpa using b.here.1) (.inr ⟨_,rfl⟩) λa' w D=>?_
     have Y:=D.cells;have b3:∀y l,f y=some (.cells l)->bH a≠some y:=λy l r e=>by obtain⟨_,_,q⟩:=b.bb e;grind
     have k3:∀y l,f y=some (.cells l)->w y=some (.cells l):=λy l r=>D.1 _ _ (by rw[ab.fK (b3 y l r)];exact r)
     have t5:=k3 _ _ s5;have t4:=k3 _ _ s4;apply rn;simp[T,U,f1.1,f1.2,t5,Y.1,Y.2,aH];obtain⟨nb,zb,u,E⟩:=hd.1;have tc:=k3 _ _ E
     have Z:Tok (σ.del c) w a' 1 ((mk++[(j:Int)]).map int):=by have:=D.base b.here.2;simpa using this
     refine ih _ g1 ⟨_,_,a',mk++[(j:Int)],rfl,by simp[e0],by simp[e4],by simp[T],by simp,⟨nb,zb,u,by rw[ab.ah _ _ (zj S)];exact tc⟩,by rw[ab.ah _ _ (zj A)];exact t4,ab.aj _ _ _,Z.beside (by simp[ab.del,S,ay]) (λe=>by obtain⟨_,_,q⟩:=Z.bb e;grind),?_⟩
     rw[X];exact C.append (List.Sublist.refl _)
 . have:j=3:=by omega
   subst this;have V:=p.cells;apply rn;simp[e4,T,U,q4,q5,V.2,aH];obtain⟨nb,zb,u,E⟩:=B;have a7:mk.Sublist [0,1,2]:=C;refine .qk (a':=ba ⟨F,pl,co,mk,G,sh⟩) (pv rfl λi x y d g=>?_) (.less (σ':=σ.set c (.cells [ints nums,int nb,.lit (.int .u64 zb)])) (λy x r=>?_) (.done (h ⟨F,pl,co,mk,G,sh⟩ _ ⟨aC,b0,aE,a7,aL,aO⟩ ⟨⟨nb,zb,by omega,ab.aj _ _ _⟩,λy r=>ab.ah _ _ r⟩)))
   . match i with
     |0=>simp at d g;subst d;subst g;exact .refl _
     |1=>simp at d g;subst d;subst g;exact .refl _
     |2=>simp at d g;subst d;subst g;exact .refl _
     |3=>simp at d g;subst d;subst g;exact p.W
     |4=>simp at d g;subst d;subst g;exact .refl _
     |5=>simp at d g;subst d;subst g;exact .refl _
     |i+6=>simp at d
   . by_cases H:y=c
     . subst H
       rw[ab.aj]at r;rw[ab.ah _ _ n4,E];exact r
     . rw[ab.ah _ _ H]at r
       have y4:y≠c4:=λe=>by grind
       rw[ab.ah _ _ y4];exact p.1 y x (by simpa[ab.del,H]using r)
theorem nY{dJ}(b:k+11<1000000)(d:nums.length<1152921504606846976)(a:1<=dJ/\dJ<=1000)(hb:bn c nums k σ)(h:∀  e  σ',xq dJ e->oD c nums (k+11) σ σ'->KF (.val (ba e)) σ'):aB prog m 25 [.ref c 0,int dJ] σ KF:=CU b d ⟨by omega,a.2⟩ hb λe σ' f hd=>h e σ' (by grind) hd
end
structure vr  n   lo  (r:aaK):Prop where
 len:r.length=n
 row:∀l∈r,l.length=n
 diag:∀i,i<n->rd r i i=0
 sym:∀i j,i<n->j<n->rd r i j=rd r j i
 off:∀i j,i<n->j<n->i≠j->lo<=rd r i j/\rd r i j<=2*lo
structure tK  cnt  (f:Fr):Prop where
 cK:1<=f.cK/\f.cK<=4
 aV:f.aV=1\/f.aV=2\/f.aV=3\/f.aV=6
 dJ:1<=f.roads.length/\f.roads.length<=3
 IK:∃lo ,(0<=lo/\lo<=4)/\vr f.roads.length lo f.roads
 fr:0<=f.aS/\f.aS<=2
 to:f.aS<=f.ew/\f.ew<=2
 len:(f.aA.length:Int)<=cnt
 sF:∀e∈f.aA,xq f.roads.length e
theorem vr.err{n lo r}(h:vr n lo r)(v:1<=n/\n<=3)(s:0<=lo/\lo<=4):fC r=0:=by
 have t:=h.len
 have hb:∀i j,i<n->j<n->0<=rd r i j/\rd r i j<=9:=λi j a b=>by
  by_cases e:i=j
  . subst e;rw[h.diag i a];omega
  . have:=h.off i j a b e;omega
 have f:∀l∈r,lF n l=0:=λl g=>by
  have w:=h.row l g
  have y:l.all (bE · 0 9)=true:=by
   rw[YE];intro x m;obtain⟨i,a,rfl⟩:=Za.1 g;obtain⟨j,b,rfl⟩:=Za.1 m;have:=hb i j (by omega) (by omega);have e:rd r i j=r[i][j]:=by simp[rd,zA,a,b]
   rw[e]at this;simp[bE,this.1,this.2]
  unfold lF
  simp_all
 have d:∀l:aaK,(∀x∈l,x∈r)->gJ n l=0:=λl=>by
  induction l with
  |nil=>intro _;rfl
  | cons x l z=>
    intro m;unfold gJ
    simp_all
 have u:((List.range n).any λi=>(List.range n).any λj=>dG r i j)=false:=by
  rw[ZM];intro i a;rw[Bool.not_eq_true,ZM];intro j b;have a:=YB.1 a;have b:=YB.1 b;unfold dG;rw[h.diag i a,h.sym i j a b,t]
  have A : ((List.range n).any λk=>decide (rd r j i>rd r i k+rd r k j))=false:=by
   rw[ZM];intro k c;have c:=YB.1 c;have B:=hb i k a c;have C:=hb k j c b;simp only[KD,Int.not_lt,gt_iff_lt];by_cases o:i=j
   . subst o;rw[h.diag i a];omega
   . by_cases p:i=k
     . subst p;rw[h.diag i a,h.sym i j a b];omega
     . by_cases q:k=j
       . subst q;rw[h.diag k c,h.sym i k a c];omega
       . have D:=h.off j i b a (zj o)
         have E:=h.off i k a c p;have F:=h.off k j c b q;omega
  simp_all
 unfold fC
 grind
theorem LY{M i k n}(hi:i<M.length)(a:k<(M.getD i []).length)  x y :rd (M.set i ((M.getD i []).set k n)) x y=if x=i/\y=k then n else rd M x y:=by
 unfold rd
 grind
def yv(M:aaK)(i k:Nat)(n:Int):aaK:=(M.set i ((M.getD i []).set k n)).set k ((M.getD k []).set i n)
structure Gj  n   lo   i k  (M:aaK):Prop where
 len:M.length=n
 row:∀j,j<n->(M.getD j []).length=n
 diag:∀x,x<n->rd M x x=0
 sym:∀x y,x<n->y<n->rd M x y=rd M y x
 off:∀x y,y<x->x<n->(x<i\/(x=i/\y<k))->lo<=rd M x y/\rd M x y<=2*lo
theorem zx{M i k v}(hi:i<M.length)(b:k<M.length)(a:k≠i)  j :(yv M i k v).getD j []=if j=k then(M.getD k []).set i v else if j=i then(M.getD i []).set k v else M.getD j []:=by
 unfold yv
 grind
theorem Oe{n lo i k a b M v}(h:Gj n lo a b M)(hi:i<n)(c:k<n)(d:k≠i)  x y :rd (yv M i k v) x y=if(x=i/\y=k)\/(x=k/\y=i)then v else rd M x y:=by
 have f:=h.len
 have e:rd (yv M i k v) x y=if x=k/\y=i then v else rd (M.set i ((M.getD i []).set k v)) x y:=by
  have q:M.getD k []=(M.set i ((M.getD i []).set k v)).getD k []:=by grind
  unfold yv;rw[q];exact LY (by grind) (by rw[<-q];rw[h.row k c];exact hi) x y
 rw[e,LY (by omega) (by rw[h.row i hi];exact c)];omega
theorem Gj.next{n lo i k M v}(h:Gj n lo i k M)(hi:i<n)(l:k<i)(m:lo<=v/\v<=2*lo):Gj n lo i (k+1) (yv M i k v):=by
 have e:=h.len;have a:=Oe (v:=v) h hi (show k<n by omega) (by omega);refine⟨by simp[yv,e],λj f=>?_,λx b=>?_,λx y b g=>?_,λx y d b hd=>?_⟩
 . rw[zx (by omega) (by omega) (by omega)]
   split
   . rw[ZT];exact h.row k (by omega)
   . split
     . rw[ZT];exact h.row i hi
     . exact h.row j f
 . rw[a,YA (by omega)];exact h.diag x b
 . rw[a,a]
   by_cases c:(x=i/\y=k)\/(x=k/\y=i)
   . grind
   . rw[YA c,YA (λq=>c (q.elim (λq=>.inr ⟨q.2,q.1⟩) (λq=>.inl ⟨q.2,q.1⟩)))]
     exact h.sym x y b g
 . rw[a]
   by_cases c:(x=i/\y=k)\/(x=k/\y=i)
   . omega
   . rw[YA c]
     refine h.off x y d b ?_;omega
theorem Gj.line{n lo i M}(h:Gj n lo i i M):Gj n lo (i+1) 0 M:=⟨h.len,h.row,h.diag,h.sym,λx y a b hd=>h.off x y a b (by omega)⟩
theorem Gj.fin{n lo M}(h:Gj n lo n 0 M):vr n lo M:=by
 have e:=h.len;refine⟨h.len,λl c=>?_,h.diag,h.sym,λi j a b d=>?_⟩
 . obtain⟨i,a,rfl⟩:=Za.1 c
   have:=h.row i (by omega)
   grind
 . rcases Zb j i with q|q
   . exact h.off i j q a (.inl a)
   . rw[h.sym i j a b]
     exact h.off j i (by omega) b (.inl b)
theorem Gj.start  n   lo :Gj n lo 0 0 (List.replicate n (List.replicate n 0)):=by
 have a:∀x y,rd (List.replicate n (List.replicate n 0)) x y=0:=λx y=>by
  unfold rd
  grind
 refine⟨by simp,λj b=>by simp_all,λx _=>a x x,λx y _ _=>by rw[a,a],λx y _ _ h=>by omega⟩
theorem nZ{g}:∀{l},(∀e∈l,g e=0)->fB g l=0
 |[],_=>rfl
 | a::l,h=>by
   unfold fB;rw[YG (h a (by simp))];exact nZ λe b=>h e (by simp[b])
theorem tK.check{aV:Int}{f:Fr}(h:tK aV f)(j:aV<=6):check f=0:=by
 obtain⟨lo,a,b⟩:=h.IK;have c:=b.err h.dJ a;have k:=h.fr;have l:=h.to;have m:=h.cK;have n:=h.aV;have o:=h.len
 have d:(bE f.aS 0 3 && bE f.ew 0 3)=true:=by simp[bE];omega
 have g:(bE f.cK 1 6 && bE f.aV 1 6)=true:=by simp[bE];omega
 unfold Go.Proofs.YtabmephejpgigaaGreatDoor.check;rw[c,YA (by simp),d,YA (by simp),YA (by omega),g,YA (by simp),YA (by omega)]
 exact nZ λe i=>(h.sF e i).check
theorem tK.fits{aV f}(h:tK aV f)(g:aV<=1000):f.Fits:=by
 obtain⟨lo,a,b⟩:=h.IK;have:=h.len;have i:=h.dJ;refine⟨by omega,by omega,λl c=>?_,λe d=>?_⟩
 . have:=b.row l c;omega
 . have:=(kT (h.sF e d).marks).2;omega

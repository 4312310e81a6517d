import Derived.Test.YtebcbkhnlnkolaaGreatDoorC16
set_option linter.all false
set_option maxHeartbeats 1000000
set_option maxRecDepth 4000
namespace Go.Proofs.YtebcbkhnlnkolaaGreatDoor
open Go.Proofs.Tryz (prog)
section
open Go.bN Go.Conc
variable{m:Mo}{σ:ab}{KF:aeQ}
def lq(f:Fr)(x:Int):Bool:=decide (jT f (aD x)=0)
def mR(f:Fr)(l:aeL):Prop:=∀n a,JH l n=some a->a=bool (lq f n)
theorem YE:NT prog 244 248 4 5 .u8:=.of (by kernel_rfl) (by kernel_rfl) (by kernel_rfl) (by kernel_rfl)
theorem SY  f   l :jT f l=0\/jT f l=1\/jT f l=2\/jT f l=3:=by unfold jT;omega
theorem PV{f l}(h:jT f l≠0):∃d a,YD (jT f l)=.ou d a:=by
 rcases SY f l with e|e|e|e
 . omega
 all_goals rw[e];exact⟨_,_,rfl⟩
theorem MR{f l x n a}(b:mR f l)(h:JH (l++[(x,bool (lq f x))]) n=some a):a=bool (lq f n):=by
 unfold JH dP at h;rw[List.find?_append]at h;cases e:l.find? (λp=>n==p.1)with
 |some p=>rw[e]at h;simp only[Option.some_or,aaT,kn]at h;subst h;exact b n p.2 (by unfold JH dP;rw[e];rfl)
 |none=>grind
theorem Vj{b mb f x Un Ld}(j:Pd prog m nn b 6 mb .u8 (mR f) Un Ld)(E:f.Good)(F:Rv f (aD x))(p:(aD x).length<20)(G:Un σ)(h:∀σ',Un σ'->rY b mb σ σ'->KF (.val (bool (lq f x))) σ'):aB prog m 159 [oq b mb f 0,Bc x] σ KF:=by
 refine fs Yr Tryz.func159 rfl (by kernel_rfl) ?_;simp[Tryz.f159];refine cf Tryz.func104 rfl (j.lock (tE _ _ _ _) G λH l o q r A=>?_);apply rn;simp;refine aa.defer rfl rfl rfl rfl (by simp) rfl ?_;apply rn;simp;refine zZ lay (YE.key lay tt5 rfl) rfl tt4 rfl rfl (j.map o) ?_;apply pg;simp
 have i:∀(env:Env) (g:ab) s,env 4=bool (lq f x)->Ld g s->mR f s->(∀c,c≠b->c≠mb->g c=σ c)->tP prog m (.func 105) [] [AV.kp b [kq f.az,rows f.roads,int f.aU,int f.dD,int f.cJ,int f.aX,.lit (.int .i32 0),.lit (.int .u32 0),.map mb] [6,7] 6] .ret g (λt σ'=>Nb lay m [ResultVar.tmp 4] env (pZ KF) [] t σ'):=λenv g s I u v J=>by
  refine tP.func Tryz.func105 rfl rfl (j.unlock (tE _ _ _ _) u v λw z K=>?_);refine⟨[env 4],rfl,.done ?_⟩;rw[show oneOf [env 4]=env 4 from rfl,I];refine h w z λc y O L B=>?_
  grind
 cases k:dP l x with
 |some a=>have M:=q x a k;subst M;simp;apply rn;simp;exact i _ _ _ (by simp) o q r
 | none=>
   simp;apply rn;simp;refine cf Tryz.func186 rfl (Po ?_);apply rn;simp;refine cf Tryz.func126 rfl (Vi E F p ?_);apply rn;simp;have C:decide (jT f (aD x)=0)=lq f x:=rfl;refine er lay rfl Yh rfl (isNil:=lq f x) ?_ (.inl ⟨rfl,rfl⟩) ?_
   . by_cases D:jT f (aD x)=0
     . left
       refine⟨?_,by simp_all⟩;simp[D];rfl
     . right
       obtain⟨d,a,e⟩:=PV D
       simp_all
   apply rn;simp;refine tT (YE.key lay tt5 rfl) rfl rfl rfl rfl (j.map o) k ?_;apply pg;simp;apply rn;simp;refine i _ _ _ (by simp) (j.put o) (λn a N=>?_) (λc L B=>by rw[ab.ah _ _ B];simp_all);exact MR q (by simpa using N)
def iv(f:Fr)(begun:afe):Nat->afe->Int->afe->aeJ
 |0,cN,_,_=>[cN]
 | fuel+1,cN,many,a=>(List.range (min (many+1) f.aX).toNat).flatMap λk:Nat=>
    if cN.length<begun.length/\begun.getD cN.length 0≠(k:Int)then[]
    else if lq f (cB (a.getD k 0) cN.length)=true then iv f begun fuel (cN++[(k:Int)]) (max many ((k:Int)+1)) (a.set k (cB (a.getD k 0) cN.length))else[]
def aJ(f:Fr)(begun:afe):aeJ:=iv f begun f.az.length [] 0 [0,0,0,0,0,0]
def Mv(b mb:Nat)(F a:afa)(σ σ':ab):Prop:=∀c x,σ c=some x -> ¬F c->c≠b->(c≠mb\/x.plain=true)->σ' c=some x/\¬a c
theorem Mv.refl  b mb   F   σ :Mv b mb F F σ σ:=λ_ _ h a _ _=>⟨h,a⟩
theorem Mv.trans{b mb F g d σ σ' a}(h:Mv b mb F g σ σ')(k:Mv b mb g d σ' a):Mv b mb F d σ a:=λc x i j e f=>k c x (h c x i j e f).1 (h c x i j e f).2 e f
structure Wn  m   y  (W:aeJ) (I:Nat->afa->afi) (E:afa->afi):Prop where
 step:∀  k   F   σ   KF   hk ,I k F σ->(∀F' σ',JF F F' σ σ'->I (k+1) F' σ'->KF (.val (bool true)) σ')->(∀F' σ',JF F F' σ σ'->E F' σ'->KF (.val (bool false)) σ')->cL prog m y [ints W[k]] σ KF
 frame:∀  k   F   σ σ' ,(∀c,F c->σ' c=σ c)->I k F σ->I k F σ'
 Vk:∀  F   σ σ' ,(∀c,F c->σ' c=σ c)->E F σ->E F σ'
 Ru:∀  k   F   σ   c ,I k F σ->F c->∃x,σ c=some x/\x.plain=true
theorem G2{b mb F a σ σ'}(h:JF F a σ σ'):Mv b mb F a σ σ':=λc x d e _ _=>h c x e d
theorem sW{b mb GI Un Ld}(a:Pd prog m nn b 6 mb .u8 GI Un Ld){d y}(f:Un σ)(hd:∀x,σ d=some x->x.plain=true):Un (σ.set d y):=a.un (λc _ ⟨x,g,h⟩=>ab.ah _ _ (λe=>by simp_all)) f
theorem Bd{b mb GI Un Ld}(e:Pd prog m nn b 6 mb .u8 GI Un Ld){F f σ'}(g:Un σ)(h:JF F f σ σ')(hd:∀c,F c->∃x,σ c=some x/\x.plain=true):Un σ':=
 e.un (λc _ ⟨x,a,i⟩=>by
  have d:¬F c:=λd=>by grind
  rw[(h c x d a).1,a]) g
abbrev Be(a y:AV)(begun:afe)(cp:Nat):AV:=.fn (.func 160) [] [.cp a 0,.cp y 0,.cp (ints begun) 0,.ref cp 0]
abbrev bu(a:AV)(c4 cg:Nat):AV:=.fn (.func 156) [] [.ref c4 0,.cp a 0,.ref cg 0]
structure WS  b mb   f   y   begun   c4 cg cp  (hs:afe) (F:afa) (σ:ab):Prop where
 arr:σ c4=some (.cells (hs.map u8))
 YF:σ cg=some (.cells [Be (oq b mb f 0) y begun cp])
 pt:σ cp=some (.cells [bu (oq b mb f 0) c4 cg])
 out:¬F c4/\¬F cg/\¬F cp
 ne:c4≠cg/\c4≠cp
theorem WS.mv{b mb f y begun c4 cg cp d F g σ σ'}(h:WS b mb f y begun c4 cg cp d F σ)(hb:∃x,σ b=some x/\x.plain=false)(a:Mv b mb F g σ σ'):WS b mb f y begun c4 cg cp d g σ':=by
 obtain⟨x,j,k⟩:=hb;have ne:∀c l,σ c=some (.cells l)->c≠b:=λc l i e=>by subst e;rw[j]at i;cases i;cases k
 obtain⟨m,n⟩:=a c4 _ h.arr h.out.1 (ne _ _ h.arr) (.inr rfl);obtain⟨o,p⟩:=a cg _ h.YF h.out.2.1 (ne _ _ h.YF) (.inr rfl);obtain⟨q,r⟩:=a cp _ h.pt h.out.2.2 (ne _ _ h.pt) (.inr rfl);exact⟨m,o,q,⟨n,p,r⟩,h.ne⟩
structure Hs(f:Fr)(n:Nat)(hs:afe):Prop where
 mT:hs.length=6
 bits:∀x∈hs,∀e∈aD x,e<n
 small:∀x∈hs,0<=x/\x<64
section
variable{b mb:Nat}{f:Fr}{begun:afe}{y:AV}{W:aeJ}{I:Nat->afa->afi}{E:afa->afi}{Un:afi}{Ld:ab->aeL->Prop}{c4 cg cp:Nat}
def T8(b mb:Nat)(Un:afi)(I:Nat->afa->afi)(E:afa->afi)(a n:Nat)(F:afa)(σ:ab)(KF:aeQ):Prop:=(∀d c,Mv b mb F d σ c->Un c->I (a+n) d c->KF (.val (bool true)) c)/\(∀d c,Mv b mb F d σ c->Un c->E d c->KF (.val (bool false)) c)
def PW(m:Mo)(b mb:Nat)(f:Fr)(begun:afe)(y:AV)(W:aeJ)(I:Nat->afa->afi)(E:afa->afi)(Un:afi)(c4 cg cp:Nat)(fuel:Nat):Prop:=
 ∀ (cN:afe) (many:Int) (a:afe) (sp:pV) (F:afa) (σ:ab) (pre post:aeJ) (KF:aeQ),cN.length+fuel=f.az.length->0<=many/\many<=6->Hs f cN.length a->WS b mb f y begun c4 cg cp a F σ->Un σ ->
   W=pre++iv f begun fuel cN many a++post->I pre.length F σ->T8 b mb Un I E pre.length (iv f begun fuel cN many a).length F σ KF ->
   aB prog m 160 [.sl 1 (cN.map int) sp,int many,.cp (oq b mb f 0) 0,.cp y 0,.cp (ints begun) 0,.ref cp 0] σ KF
theorem SZ:∀x:Fin 64,∀n:Fin 6,(0<=cB (x.val:Int) (n.val:Int)/\cB (x.val:Int) (n.val:Int)<64)/\(∀e∈aD (cB (x.val:Int) (n.val:Int)),e=(n.val:Int)\/e∈aD (x.val:Int))/\(n.val:Int)∈aD (cB (x.val:Int) (n.val:Int)):=by decide +kernel
theorem Dm{x}{n:Nat}(b:0<=x/\x<64)(a:n<6):(0<=cB x n/\cB x n<64)/\(∀e∈aD (cB x n),e=(n:Int)\/e∈aD x)/\(n:Int)∈aD (cB x n):=by
 have:=SZ ⟨x.toNat,by omega⟩ ⟨n,a⟩
 grind
theorem PX{x e}(h:e∈aD x):0<=e/\e<6:=by
 unfold aD at h
 grind
theorem qx  x :(aD x).length<20:=by
 unfold aD
 grind
theorem Hs.set{n b}(h:Hs f n b)(d:n<6){k}  c :Hs f (n+1) (b.set k (cB b[k] n)):=by
 have g:=Dm (h.small _ (ys c)) d;refine⟨by rw[ada];exact h.mT,λx a e he=>?_,λx a=>?_⟩
 . rcases adM a with a|rfl
   . have:=h.bits x a e he;omega
   rcases g.2.1 e he with rfl|he
   . omega
   have:=h.bits _ (ys c) e he;omega
 rcases adM a with a|rfl
 . exact h.small x a
 omega
theorem Hs.xY{n a}(h:Hs f n a)(d:n<f.az.length)(g:f.az.length<=6){k}(b:k<a.length):Rv f (aD (cB a[k] n)):=by
 have c:=Dm (h.small _ (ys b)) (n:=n) (by omega);refine⟨λe he=>⟨(PX he).1,?_⟩,λq=>?_,by have:=qx (cB a[k] n);omega⟩
 . rcases c.2.1 e he with rfl|he
   . omega
   have:=h.bits _ (ys b) e he;omega
 simp_all
theorem S3{d k x}{l:afe}(i:k<6)(c:l.length=6)(hd:σ d=some (.cells [u8 x]))(e:σ c4=some (.cells (l.map u8)))(h:KF (.val (.bL [])) (σ.set c4 (.cells ((l.set k x).map u8)))):aB prog m 157 [.ref d 0,.ref c4 0,.cp (int k) 0] σ KF:=by
 have a:(k:Int)<6:=by omega
 have b:k<=5:=by omega
 have g:k<l.length:=by omega
 refine fs [] Tryz.func157 rfl (by kernel_rfl) ?_;simp[Tryz.f157,hd,e,a,c,b];rw[HZ (by simp_all),<-List.map_set (f:=u8)];exact .done h
theorem Vl(N : Pd prog m nn b 6 mb .u8 (mR f) Un Ld)(hf:f.Good)(cv:begun.length<1152921504606846976)(Y:Wn m y W I E){fuel}(hG:PW m b mb f begun y W I E Un c4 cg cp fuel){cN many k n sp F pre post}(hlen:cN.length+(fuel+1)=f.az.length)(b3:0<=many/\many<=6)(hk:k<6)
 (hh:Hs f cN.length n) (w:WS b mb f y begun c4 cg cp n F σ) (hu:Un σ){L}(U:L=if lq f (cB (n.getD k 0) cN.length)=true then iv f begun fuel (cN++[(k:Int)]) (max many ((k:Int)+1)) (n.set k (cB (n.getD k 0) cN.length))else[]) (hW:W=pre++L++post)
 (hI:I pre.length F σ) (hR:T8 b mb Un I E pre.length L.length F σ KF):aB prog m 156 [.sl 1 (cN.map int) sp,int many,int k,.ref c4 0,.cp (oq b mb f 0) 0,.ref cg 0] σ KF:=by
 have h6:=hf.mT;have V:k<n.length:=by rw[hh.mT];exact hk
 have b4:n.getD k 0=n[k]:=by simp_all
 rw[b4]at U;have X:(k:Int)<6:=by omega
 have s:=w.arr;have av:=hh.mT;have Z:k<=5:=by omega
 have e1:List.take 1 (List.drop k (List.map u8 n))=[u8 n[k]]:=by rw[<-List.map_drop,ace V];rfl
 refine fs Yp Tryz.func156 rfl (by kernel_rfl) ?_
 simp[Tryz.f156,s,X,av,Z,e1];refine bO.intro λd hd=>?_
 have d4:d≠c4:=λe=>by simp_all
 have ax:=zs d4;simp;refine aa.defer rfl rfl rfl rfl (by simp) rfl ?_
 apply rn;simp[X];obtain⟨z,hz⟩:∃z,z=cB n[k] cN.length:=⟨_,rfl⟩;obtain⟨i,O⟩:∃i,i=n.set k z:=⟨_,rfl⟩;have b5:k<i.length:=by simp_all
 have ay:i[k]=z:=by simp_all
 have e2:List.take 1 (List.drop k (List.map u8 i))=[u8 z]:=by rw[<-List.map_drop,ace b5,ay];rfl
 have e3:aI (List.map u8 n) k [u8 z]=List.map u8 i:=by simp_all
 have P:i.length=6:=by simp_all
 refine cf Tryz.func158 rfl (SS (by omega) ?_)
 rw[<-hz];apply pg;simp[ax,ab.ah,s,av,Z,e3];apply rn;simp[X,P,Z,e2];have b6:cN.length<6:=by omega
 have b7:cN.length<f.az.length:=by omega
 have b8:Rv f (aD z):=by rw[hz];exact hh.xY b7 h6 V
 obtain⟨xb,b9,bm⟩:=N.Wi hu;have cb:∀c l,σ c=some (.cells l)->c≠b:=λc l t e=>by subst e;rw[b9]at t;cases t;cases bm
 have db:d≠b:=λe=>by simp_all
 have aC:Un ((σ.set d (.cells [u8 n[k]])).set c4 (.cells (i.map u8))):=sW N (sW N hu (λx A=>by simp_all)) (λx A=>by rw[ab.ah _ _ ax,s]at A;cases A;rfl)
 have aE:((σ.set d (.cells [u8 n[k]])).set c4 (.cells (i.map u8))) c4=some (.cells (i.map u8)):=ab.ai _ _ _;have aL:((σ.set d (.cells [u8 n[k]])).set c4 (.cells (i.map u8))) d=some (.cells [u8 n[k]]):=by rw[ab.ah _ _ d4,ab.ai]
 have H:∀c,c≠d->c≠c4->((σ.set d (.cells [u8 n[k]])).set c4 (.cells (i.map u8))) c=σ c:=λc r D=>by rw[ab.ah _ _ D,ab.ah _ _ r]
 have aO:¬F d:=λhF=>by
  obtain⟨x,A,_⟩:=Y.Ru _ _ _ _ hI hF
  simp_all
 have a7:I pre.length F ((σ.set d (.cells [u8 n[k]])).set c4 (.cells (i.map u8))):=Y.frame _ _ _ _ (λc t=>H c (λe=>aO (e ▸ t)) (λe=>w.out.1 (e ▸ t))) hI
 generalize (σ.set d (.cells [u8 n[k]])).set c4 (.cells (i.map u8))=dj at aC aE aL H a7;refine cf Tryz.func159 rfl (Vj N hf b8 (qx _) aC λo b0 p=>?_)
 have B:o c4=some (.cells (i.map u8)):=p _ _ aE (cb _ _ s) (.inr rfl);have a8:o d=some (.cells [u8 n[k]]):=p _ _ aL db (.inr rfl);have gd:cg≠d:=λe=>by have:=w.YF;simp_all
 have J:o cg=some (.cells [Be (oq b mb f 0) y begun cp]):=p _ _ (by rw[H cg gd (zs w.ne.1)];exact w.YF) (cb _ _ w.YF) (.inr rfl)
 have bq:i.set k n[k]=n:=by simp_all
 have Q:∀(env:Env) (j:ab) (v:Bool),env 9=bool v->j d=some (.cells [u8 n[k]])->j c4=some (.cells (i.map u8))->KF (.val (bool v)) (j.set c4 (.cells (n.map u8)))->tP prog m (.func 157) [.ref d 0,.ref c4 0,.cp (int k) 0] [] .ret j (λbw g=>Nb lay m [ResultVar.tmp 9] env (pZ KF) [] bw g):=λenv j v he bA bB hK=>by
  refine tP.func Tryz.func157 rfl rfl (S3 hk P bA bB ?_);refine⟨[env 9],rfl,.done ?_⟩
  simp_all
 have b1:Mv b mb F F σ (o.set c4 (.cells (n.map u8))):=λc x r D K h4=>by
  refine⟨?_,D⟩
  by_cases e:c=c4
  . simp_all
  have e':c≠d:=λe'=>by simp_all
  rw[ab.ah _ _ e];exact p c x (by simp_all) K h4
 have a9:I pre.length F o:=Y.frame _ _ _ _ (λc t=>by
  obtain⟨x,r,D⟩:=Y.Ru _ _ _ _ a7 t
  have c5:c≠b:=λe=>by grind
  rw[r];exact p c x r c5 (.inr D)) a7
 rw[<-hz,<-O]at U;cases R:lq f z with
 | false=>
   rw[R]at U;simp only[aal,aao]at U;subst U;apply pg;simp
   repeat' apply And.intro
   all_goals
    apply rn;simp;refine Q _ o true (by simp) a8 B (hR.1 F _ b1 (sW N b0 (λx A=>by rw[B]at A;cases A;rfl)) ?_)
    exact Y.frame _ _ _ _ (λc t=>ab.ah _ _ (λe=>w.out.1 (e ▸ t))) a9
 | true=>
   rw[R,Rp rfl]at U
   have ad:∀(j:ab) (C:pV) (M:aeQ),o.Le j->(∀(v:Bool) g,g d=some (.cells [u8 n[k]])->g c4=some (.cells (i.map u8))->KF (.val (bool v)) (g.set c4 (.cells (n.map u8)))->M (.val (bool v)) g) ->
    aB prog m 160 [.sl 1 ((cN++[(k:Int)]).map int) C,int (max many ((k:Int)+1)),.cp (oq b mb f 0) 0,.cp y 0,.cp (ints begun) 0,.ref cp 0] j M:=λj C M q hK=>by
    have c6:o cp=some (.cells [bu (oq b mb f 0) c4 cg]):=by
     have pd:cp≠d:=λe=>by have:=w.pt;simp_all
     exact p _ _ (by rw[H cp pd (zs w.ne.2)];exact w.pt) (cb _ _ w.pt) (.inr rfl)
    have c7:Un j:=N.un (λc _ ⟨x,r,_⟩=>by rw[r];exact q _ _ r) b0
    have c9:WS b mb f y begun c4 cg cp i F j:=⟨q _ _ B,q _ _ J,q _ _ c6,w.out,w.ne⟩
    have ca:I pre.length F j:=Y.frame _ _ _ _ (λc t=>by obtain⟨x,r,_⟩:=Y.Ru _ _ _ _ a9 t;rw[r];exact q _ _ r) a9
    have S:∀(u:afa) (g:ab),Mv b mb F u j g->Mv b mb F u σ (g.set c4 (.cells (n.map u8))):=λu g hm c x r D K h4=>by
     by_cases e:c=c4
     . subst e
       obtain⟨q1,T⟩:=hm c _ (q _ _ B) D K (.inr rfl)
       simp_all
     have e':c≠d:=λe'=>by simp_all
     rw[ab.ah _ _ e];exact hm c x (q _ _ (p c x (by simp_all) K h4)) D K h4
    have Hz:∀(u:afa) (g:ab),Mv b mb F u j g->g d=some (.cells [u8 n[k]])/\(g c4=some (.cells (i.map u8))/\¬u c4):=λu g hm=>⟨(hm d _ (q _ _ a8) aO db (.inr rfl)).1,hm c4 _ (q _ _ B) w.out.1 (cb _ _ s) (.inr rfl)⟩
    subst U;refine hG _ _ _ _ F j pre post M (by simp;omega) (by omega) (by rw[aam,O,hz];exact hh.set b6 V) c9 c7 hW ca ⟨λu g r D K=>?_,λu g r D K=>?_⟩
    . obtain⟨q1,T,q3⟩:=Hz u g r
      exact hK true g q1 T (hR.1 u _ (S u g r) (sW N D (λx A=>by rw[T]at A;cases A;rfl)) (Y.frame _ _ _ _ (λc t=>ab.ah _ _ (λe=>q3 (e ▸ t))) K))
    obtain⟨q1,T,q3⟩:=Hz u g r;exact hK false g q1 T (hR.2 u _ (S u g r) (sW N D (λx A=>by rw[T]at A;cases A;rfl)) (Y.Vk _ _ _ (λc t=>ab.ah _ _ (λe=>q3 (e ▸ t))) K))
   have k1:-9223372036854775808<=(k:Int)+1/\(k:Int)+1<=9223372036854775807:=by omega
   have G:(if many<(k:Int)+1 then(k:Int)+1 else many)=max many ((k:Int)+1):=by omega
   apply pg;simp[J,k1.1,k1.2,G]
   repeat' (first
             |apply And.intro
             | (refine oO lay rfl cK rfl pQ (es:=cN.map int) (sp:=sp) (l:=0) (h:=cN.length) (by simp) (λcap b2=>⟨⟨⟨.i64,by simp⟩,by simpa using b2⟩,⟨⟨.i64,by simp⟩,aav _⟩,rfl⟩) (by simp) λa ha=>?_
                have cm:Tok o o a 1 (cN.map int):=by
                 rcases ha with rfl|⟨e,rfl⟩
                 . have:List.take (cN.length-0) (List.drop 0 (cN.map int))=cN.map int:=by rw[adU,aaY (by simp)]
                   rw[this];exact .exact _ _ _
                 . rw[e];exact .nil _ _
                clear ha;apply pg;simp[B,a8,J,k1.1,k1.2,G])
             | (refine aN lay rfl rfl rfl cK rfl cK rfl pQ (by decide) (by simp;omega) (σ0:=o) (es:=cN.map int) (xs:=[int k]) (by simpa using cm) (.inr ⟨_,by simp;rfl⟩) λa' j al=>?_
                obtain⟨C,rfl⟩:∃C,a'=.sl 1 (cN.map int++[int k]) C:=by
                 rcases al.2 with⟨_,e⟩|e|⟨_,_,_,e,_⟩
                 . simp at e
                 . exact⟨_,e⟩
                 . exact⟨_,e⟩
                have cr:=al.1 _ _ J;apply pg;simp[cr,k1.1,k1.2,G])
             | (refine fF Tryz.func160 rfl rfl (by simp) (ad j C _ al.1 λv g q1 T q3=>?_)
                apply pg;simp;apply rn;simp;exact Q _ _ v (by simp) q1 T q3))
end
section
variable{b mb:Nat}{f:Fr}{begun:afe}{y:AV}{W:aeJ}{I:Nat->afa->afi}{E:afa->afi}{Un:afi}{Ld:ab->aeL->Prop}{c4 cg cp:Nat}
def rZ(f:Fr)(begun:afe)(fuel:Nat)(cN:afe)(many:Int)(a:afe)(k:Nat):aeJ:=
 if cN.length<begun.length/\begun.getD cN.length 0≠(k:Int)then[]
 else if lq f (cB (a.getD k 0) cN.length)=true then iv f begun fuel (cN++[(k:Int)]) (max many ((k:Int)+1)) (a.set k (cB (a.getD k 0) cN.length))else[]
theorem uI  f   begun   fuel   cN   many   a :iv f begun (fuel+1) cN many a=(List.range (min (many+1) f.aX).toNat).flatMap (rZ f begun fuel cN many a):=rfl
theorem G3(K:Nat->aeJ){k cnt}(h:k<cnt):∃rest,(List.range cnt).flatMap K=(List.range k).flatMap K++(K k++rest):=by
 obtain⟨n,rfl⟩:∃n,cnt=k+1+n:=⟨cnt-(k+1),by omega⟩;induction n with
 |zero=>exact⟨[],by rw[Nat.add_zero,aaB,adi];simp⟩
 | succ n a=>
   obtain⟨rest,b⟩:=a (by omega);refine⟨rest++K (k+1+n),?_⟩;rw[show k+1+(n+1)=(k+1+n)+1 by omega,aaB,adi,b];simp
theorem S4(P:Pd prog m nn b 6 mb .u8 (mR f) Un Ld)(R:f.Good)(S:begun.length<1152921504606846976)(Y:Wn m y W I E)(T:y.cells=[y]):∀fuel ,PW m b mb f begun y W I E Un c4 cg cp fuel:=by
 have h6:=R.mT;have ad:=R.aX;intro fuel
 induction fuel with
 | zero=>
   intro cN many h sp F σ pre post KF hlen l hh U G H J u;have V:(cN.length:Int)=f.az.length:=by omega
   refine fs [] Tryz.func160 rfl (by kernel_rfl) ?_
   simp[Tryz.f160,V,T];have hk:pre.length<W.length:=by rw[H];simp[iv]
   have X:W[pre.length]=cN:=by subst H;simp[iv]
   refine cL.weaken (args':=[ints cN]) ?_ ⟨eZ 1 _ sp,trivial⟩;rw[<-X];refine Y.step pre.length F σ _ hk J (λq d n x=>?_) (λq d n x=>?_)
   . apply rn
     simp;exact .done (u.1 q d (G2 n) (Bd P G n (λc Z=>Y.Ru _ _ _ c J Z)) x)
   apply rn;simp;exact .done (u.2 q d (G2 n) (Bd P G n (λc Z=>Y.Ru _ _ _ c J Z)) x)
 | succ fuel a7=>
   intro cN many h sp F σ pre post KF hlen l hh U G H J u;have V:((cN.length:Int)==f.az.length)=false:=by grind
   have al:=U.pt;rw[uI]at H u;obtain⟨cnt,K⟩:∃cnt:Nat,cnt=(min (many+1) f.aX).toNat:=⟨_,rfl⟩;rw[<-K]at H u;have L:(if f.aX<many+1 then f.aX else many+1)=(cnt:Int):=by omega
   have av:cnt<=6:=by omega
   have m1:-9223372036854775808<=many+1/\many+1<=9223372036854775807:=by omega
   refine fs [] Tryz.func160 rfl (by kernel_rfl) ?_
   simp[Tryz.f160,V,m1.1,m1.2,L];refine aa.loop cnt (λk s=>∃env d q,s=⟨env,d,[],.no⟩/\env 0=.sl 1 (cN.map int) sp/\env 1=int many/\env 2=.cp (oq b mb f 0) 0/\env 4=.cp (ints begun) 0/\env 5=.ref cp 0/\env 29=int cnt/\env 30=int k/\Mv b mb F q σ d/\Un d/\I (pre.length+((List.range k).flatMap (rZ f begun fuel cN many h)).length) q d) ⟨_,_,F,rfl,by simp,by simp,by simp,by simp,by simp,by simp,by simp,Mv.refl b mb F σ,G,J⟩ ?_
   rintro c0 k _ hk ⟨env,d,q,rfl,B,n,x,C,M,g,i,o,z,a8⟩ ih
   rcases aaA k cnt with g1|g1
   . have N:=U.mv (P.Wi G) o
     have w:=N.pt;obtain⟨rest,Q⟩:=G3 (rZ f begun fuel cN many h) g1
     have a9:((List.range (k+1)).flatMap (rZ f begun fuel cN many h)).length=((List.range k).flatMap (rZ f begun fuel cN many h)).length+(rZ f begun fuel cN many h k).length:=by rw[aaB,adi,aam];simp
     by_cases g2:cN.length<begun.length/\begun.getD cN.length 0≠(k:Int)
     . have hK:rZ f begun fuel cN many h k=[]:=Rp g2
       have e1:begun.getD cN.length 0=begun[cN.length]:=by grind
       have e2:(begun[cN.length] !=(k:Int))=true:=by grind
       apply rn;simp[B,C,g,i,g1,g2.1,e2];refine⟨by omega,ih _ g1 ⟨_,_,q,rfl,by simp[B],by simp[n],by simp[x],by simp[C],by simp[M],by simp[g],by simp,o,z,?_⟩⟩
       grind
     have hK:rZ f begun fuel cN many h k=if lq f (cB (h.getD k 0) cN.length)=true then iv f begun fuel (cN++[(k:Int)]) (max many ((k:Int)+1)) (h.set k (cB (h.getD k 0) cN.length))else[]:=KD g2
     have p:∀A:aeQ,(∀(v:Bool) a j,Mv b mb F j σ a->Un a->(v=true->I (pre.length+((List.range (k+1)).flatMap (rZ f begun fuel cN many h)).length) j a)->(v=false->E j a)->A (.val (bool v)) a)->aB prog m 156 [.sl 1 (cN.map int) sp,int many,int k,.ref c4 0,.cp (oq b mb f 0) 0,.ref cg 0] d A:=λA O=>by
      refine Vl P R S Y a7 (pre:=pre++(List.range k).flatMap (rZ f begun fuel cN many h)) (post:=rest++post) hlen l (by omega) hh N z hK (by grind) (by grind) ⟨λj a r t D=>?_,λj a r t D=>?_⟩
      . refine O true a j (o.trans r) t (λ_=>?_) (λe=>by cases e)
        grind
      exact O false a j (o.trans r) t (λe=>by cases e) (λ_=>D)
     by_cases g3:cN.length<begun.length
     . have e1:begun.getD cN.length 0=begun[cN.length]:=by grind
       have e2:(begun[cN.length] !=(k:Int))=false:=by grind
       apply rn;simp[B,n,C,M,g,i,g1,g3,e2,w];refine fF Tryz.func156 rfl rfl (by simp) (p _ λv a j r t D q4=>?_)
       cases v
       . apply rn
         simp;exact .done (u.2 j a r t (q4 rfl))
       apply rn;simp[i];refine⟨by omega,ih _ g1 ⟨_,_,j,rfl,?_,?_,?_,?_,?_,?_,?_,r,t,D rfl⟩⟩<;>simp[B,n,x,C,M,g]
     apply rn;simp[B,n,C,M,g,i,g1,g3,w];refine fF Tryz.func156 rfl rfl (by simp) (p _ λv a j r t D q4=>?_)
     cases v
     . apply rn
       simp;exact .done (u.2 j a r t (q4 rfl))
     apply rn;simp[i];refine⟨by omega,ih _ g1 ⟨_,_,j,rfl,?_,?_,?_,?_,?_,?_,?_,r,t,D rfl⟩⟩<;>simp[B,n,x,C,M,g]
   have:k=cnt:=by omega
   subst this;apply rn;simp[g,i];exact .done (u.1 q d o z a8)
end
section
variable{b mb:Nat}{f:Fr}{begun:afe}{y:AV}{I:Nat->afa->afi}{E:afa->afi}{Un:afi}{Ld:ab->aeL->Prop}
theorem EV{sp}(h:KF (.val (.fn (.func 155) [] [.cp (oq b mb f 0) 0,.cp (.sl 1 (begun.map int) sp) 0])) σ):aB prog m 119 [oq b mb f 0,.sl 1 (begun.map int) sp] σ KF:=by
 refine fs [] Tryz.func119 rfl (by kernel_rfl) ?_;simp[Tryz.f119];exact .done h
theorem Rr  f :Hs f 0 [0,0,0,0,0,0]:=by
 refine⟨rfl,λx a e b=>?_,λx a=>?_⟩
 . have hb:aD 0=[]:=by decide +kernel
   simp_all
 simp_all
theorem Mv.le{F d σ0 σ'}(h:Mv b mb F d σ σ')(a:σ0.Le σ):Mv b mb F d σ0 σ':=λc x e f g i=>h c x (a c x e) f g i
theorem Bf(r:Pd prog m nn b 6 mb .u8 (mR f) Un Ld)(w:f.Good)(j:begun.length<1152921504606846976)(Y:Wn m y (aJ f begun) I E)(d:y.cells=[y]/\y.flat=true){F}(z:Un σ)(k:I 0 F σ)
 (h:∀e σ',Mv b mb F e σ σ'->Un σ'->(I (aJ f begun).length e σ'\/E e σ')->KF (.val (.bL [])) σ'):aB prog m 155 [y,.cp (oq b mb f 0) 0,.cp (ints begun) 0] σ KF:=by
 refine fs [] Tryz.func155 rfl (by kernel_rfl) ?_;simp[Tryz.f155,d.1,d.2];refine bO.intro λc4 A=>?_
 simp;refine bO.intro λcg l=>?_
 obtain⟨J,s,l⟩:=ab.aS l;simp;refine bO.intro λcp i=>?_
 obtain⟨B,C,i⟩:=ab.aS i;obtain⟨K,t,i⟩:=ab.aS i;simp[C,ab.ah];have a:σ.Le ((((σ.set c4 (.cells [u8 0,u8 0,u8 0,u8 0,u8 0,u8 0])).set cg (.cells [.lit .nilFunc])).set cp (.cells [bu (oq b mb f 0) c4 cg])).set cg (.cells [Be (oq b mb f 0) y begun cp])):=(by repeat (first|exact ab.le_refl _|assumption|refine ab.fK ?_ (by assumption)|refine ab.nM ?_ (by assumption)));have D:((((σ.set c4 (.cells [u8 0,u8 0,u8 0,u8 0,u8 0,u8 0])).set cg (.cells [.lit .nilFunc])).set cp (.cells [bu (oq b mb f 0) c4 cg])).set cg (.cells [Be (oq b mb f 0) y begun cp])) c4=some (.cells (([0,0,0,0,0,0]:afe).map u8)):=by simp[s,t,ab.ah]
 have G:((((σ.set c4 (.cells [u8 0,u8 0,u8 0,u8 0,u8 0,u8 0])).set cg (.cells [.lit .nilFunc])).set cp (.cells [bu (oq b mb f 0) c4 cg])).set cg (.cells [Be (oq b mb f 0) y begun cp])) cg=some (.cells [Be (oq b mb f 0) y begun cp]):=by simp
 have sp:((((σ.set c4 (.cells [u8 0,u8 0,u8 0,u8 0,u8 0,u8 0])).set cg (.cells [.lit .nilFunc])).set cp (.cells [bu (oq b mb f 0) c4 cg])).set cg (.cells [Be (oq b mb f 0) y begun cp])) cp=some (.cells [bu (oq b mb f 0) c4 cg]):=by simp[B,ab.ah]
 have g:∀c,σ c=none -> ¬F c:=λc u H=>by
  obtain⟨x,n,_⟩:=Y.Ru _ _ _ _ k H
  simp_all
 refine cL.weaken (args':=[.sl 1 (([]:afe).map int) .any,int 0]) ?_ ⟨dR 1,.refl _,trivial⟩;refine fF Tryz.func160 rfl rfl rfl (S4 (y:=y) r w j Y d.1 f.az.length [] 0 [0,0,0,0,0,0] .any F _ [] [] _ (by simp) (by omega) (Rr f) ⟨D,G,sp,⟨g _ A,g _ l,g _ i⟩,⟨s,t⟩⟩ (r.un (λc _ ⟨x,v,_⟩=>by rw[v];exact a _ _ v) z) (by simp[aJ]) (Y.frame _ _ _ _ (λc u=>by obtain⟨x,n,_⟩:=Y.Ru _ _ _ _ k u;rw[n];exact a _ _ n) k) ⟨λe σ' o p q=>?_,λe σ' o p q=>?_⟩)
 . apply rn
   simp;refine .done (h e σ' (o.le a) p (.inl ?_));simpa[aJ]using q
 . apply rn
   simp;exact .done (h e σ' (o.le a) p (.inr q))
end
section
variable{b mb:Nat}{f:Fr}{Un:afi}{Ld:ab->aeL->Prop}
theorem S5(E:Pd prog m nn b 6 mb .u8 (mR f) Un Ld)(U:f.Good)(R:Un σ)(h:∀σ',Un σ'->rY b mb σ σ'->KF (.val (bool (decide (aJ f []≠[])))) σ'):aB prog m 83 [oq b mb f 0] σ KF:=by
 refine fs [] Tryz.func83 rfl (by kernel_rfl) ?_
 simp[Tryz.f83];refine bO.intro λd h3=>?_
 simp;have V:Wl [oq b mb f 0,AV.lit (.slice none 0 0)] [oq b mb f 0,ints []]:=.cons (.refl _) (.cons (dR 1) .nil);refine bp Tryz.func119 rfl rfl V (EV (begun:=[]) ?_);apply rn;simp;refine aa.rangeFunc rfl λI r l J S o=>?_
 obtain⟨r1,W,J⟩:=ab.aS J;obtain⟨X,z,S⟩:=ab.aS S;generalize p:zu.mk _ _ _ _ _ _ _ _ _=G
 have Y:Wn m (.fn (.yield l) [] []) (aJ f []) (λk F σ'=>k=0/\(∀c,F c↔c=l\/c=d)/\σ' l=some (.loop G)/\σ' d=some (.cells [bool false])) (λF σ'=>aJ f []≠[]/\(∀c,F c↔c=l\/c=d)/\σ' l=some (.loop {G with state:=.done,pending:=some (.exit 0)})/\σ' d=some (.cells [bool true])):=by
  refine⟨λk F σ' Z hk A hT hF=>?_,λk F K a he A=>?_,λF K a he A=>?_,λk F σ' c A v=>?_⟩
  . obtain⟨rfl,i,H,L⟩:=A
    have e3:∀x,(σ'.set l x) d=some (.cells [bool false]):=λx=>by rw[ab.ah _ _ z];exact L
    subst p;refine cL.zX (hold:=[]) I Tryz.func83 H rfl ?_;apply rn;simp[pD];refine aa.beginRound H rfl ?_;apply rn;simp[e3];have M:aJ f []≠[]:=λe=>by simp_all
    refine⟨rfl,rfl,_,((ab.ah _ _ X).trans (ab.ai _ _ _)),?_⟩;refine hF F _ (λc x v hx=>⟨?_,v⟩) ⟨M,i,ab.ai _ _ _,(ab.ah _ _ z).trans (ab.ai _ _ _)⟩
    have w:c≠l:=λe=>v ((i c).2 (.inl e))
    have B:c≠d:=λe=>v ((i c).2 (.inr e))
    exact(ab.ah _ _ w).trans ((ab.ah _ _ B).trans ((ab.ah _ _ w).trans hx))
  . simp_all
  . simp_all
  obtain⟨rfl,i,H,L⟩:=A
  rcases(i c).1 v with rfl|rfl
  . exact⟨_,H,rfl⟩
  exact⟨_,L,rfl⟩
 obtain⟨xb,a7,a8⟩:=E.Wi R;have nb:∀c,σ c=none->c≠b:=λc v e=>by simp_all
 have C:σ.Le (((σ.set d (.cells [bool false])).set r (.raw (.deferred (some [])))).set l (.loop G)):=(by repeat (first|exact ab.le_refl _|assumption|refine ab.fK ?_ (by assumption)|refine ab.nM ?_ (by assumption)))
 have sr:(((σ.set d (.cells [bool false])).set r (.raw (.deferred (some [])))).set l (.loop G)) r=some (.raw (.deferred (some []))):=by rw[ab.ah _ _ o,ab.ai]
 refine fF Tryz.func155 rfl rfl rfl (Bf (F:=λc=>c=l\/c=d) E U (by simp) Y ⟨rfl,rfl⟩ (E.un (λc _ ⟨x,j,_⟩=>(C _ _ j).trans j.symm) R) ⟨rfl,λc=>aaL,ab.ai _ _ _,(ab.ah _ _ z).trans ((ab.ah _ _ W).trans (ab.ai _ _ _))⟩ λF' σ' D N n=>?_)
 have q:=(D r _ sr (λe=>by omega) (nb r J) (.inr rfl)).1
 have s:rY b mb σ σ':=λc x j y t=>(D c x (C c x j) (λe=>by grind) y t).1
 have O:∀a,a=(σ'.del l).set r (.raw (.deferred none))->Un a/\rY b mb σ a:=λa e=>by
  subst e;refine⟨E.un (σ:=σ') (λc _ ⟨x,j,y⟩=>?_) N,λc x j y t=>?_⟩
  . have w:c≠r:=λe=>by subst e;rw[q]at j;cases j;cases y
    have B:c≠l:=λe=>by
     subst e
     rcases n with⟨_,_,g,_⟩|⟨_,_,g,_⟩<;>rw[g]at j<;>cases j<;>cases y
    rw[ab.ah _ _ w];simp[ab.del,B]
  have w:c≠r:=λe=>by simp_all
  have B:c≠l:=λe=>by simp_all
  rw[ab.ah _ _ w];simp only[ab.del,B,aao];exact s c x j y t
 rcases n with⟨T,_,P,q2⟩|⟨T,_,P,q2⟩
 . have Q:decide (aJ f []≠[])=false:=by simp_all
   rw[Q]at h;subst p;refine⟨_,P,by simp,rfl,?_⟩
   have u:(σ'.del l) d=some (.cells [bool false]):=by simp only[ab.del,z,aao];omega
   apply rn;simp[u];refine⟨by simp only[ab.del,o,aao];exact q,.done ?_⟩
   simp_all
 have Q:decide (aJ f []≠[])=true:=by simp[T]
 rw[Q]at h;subst p;refine⟨_,P,by simp,rfl,?_⟩
 have u:(σ'.del l) d=some (.cells [bool true]):=by simp only[ab.del,z,aao];omega
 apply rn;simp[u];refine⟨by simp only[ab.del,o,aao];exact q,.done ?_⟩
 simp_all
end
end
section
open Go Go.bN
set_option maxRecDepth 100000
abbrev ng:Sb:=⟨100,102,106,130,131,144,129,137,147,132,170,171,172,177,148,141,220,222,227⟩
theorem PY:∀(b:Nat) (kind:afj),bn (A0 prog ng b kind).1=some (ng.kO,[])/\(A0 prog ng b kind).1.env.all plain=true/\(A0 prog ng b kind).2=[]/\(A0 prog ng b kind).1.kind=kind:=by intro b kind;exact⟨by kernel_rfl,by kernel_rfl,by kernel_rfl,by kernel_rfl⟩
theorem PZ:∀(b:Nat) (kind:afj),bn (A1 prog ng b kind).1=some (ng.Sc,[])/\(A1 prog ng b kind).1.env.all plain=true/\(A1 prog ng b kind).2=[]/\(A1 prog ng b kind).1.kind=kind:=by intro b kind;exact⟨by kernel_rfl,by kernel_rfl,by kernel_rfl,by kernel_rfl⟩
theorem P1:∀(b:Nat) (kind:afj),bn (A2 prog ng b kind).1=some (ng.vu,[pt b 0,u64 4294967296])/\yK (A2 prog ng b kind)=true/\(A2 prog ng b kind).1.env.all plain=true/\(A2 prog ng b kind).2.all (·.env.all plain)=true:=by intro b kind;exact⟨by kernel_rfl,by kernel_rfl,by kernel_rfl,by kernel_rfl⟩
theorem P4:∀(b:Nat) (kind:afj) (a:Fl),mE (A3 prog ng b kind (f1 a true)).1=some (ng.tS,ng.tU,pt b 1):=by intro b kind a;kernel_rfl
theorem P5:∀(b:Nat) (kind:afj) (a:Fl),bn (A4 prog ng b kind (f1 a true)).1=some (ng.rd,[pt b 1])/\(A4 prog ng b kind (f1 a true)).1.kind=kind:=by intro b kind a;exact⟨by kernel_rfl,by kernel_rfl⟩
theorem P6:∀(b:Nat) (kind:afj) (a:Fl),uD (A5 prog ng b kind (f0 (f1 a true) false)).1=some ng.en/\(A5 prog ng b kind (f0 (f1 a true) false)).2=[]/\(A5 prog ng b kind (f0 (f1 a true) false)).1.kind=kind/\(A5 prog ng b kind (f0 (f1 a true) false)).1.fn=ng.add:=by intro b kind a;exact⟨by kernel_rfl,by kernel_rfl,by kernel_rfl,by kernel_rfl⟩
theorem P7:∀(b:Nat) (kind:afj) (a:Fl),uD (A3 prog ng b kind (f0 (f1 a false) false)).1=some ng.en/\(A3 prog ng b kind (f0 (f1 a false) false)).2=[]/\(A3 prog ng b kind (f0 (f1 a false) false)).1.kind=kind/\(A3 prog ng b kind (f0 (f1 a false) false)).1.fn=ng.add:=by intro b kind a;exact⟨by kernel_rfl,by kernel_rfl,by kernel_rfl,by kernel_rfl⟩
theorem P8:∀(b:Nat),mE (D0 prog ng b).1=some (ng.tG,ng.tU,pt b 0)/\(D0 prog ng b).1.env.all plain=true/\(D0 prog ng b).2.all (·.env.all plain)=true:=by intro b;exact⟨by kernel_rfl,by kernel_rfl,by kernel_rfl⟩
theorem P9:∀(b:Nat),bn (D1 prog ng b).1=some (ng.rel,[pt b 0])/\yK (D1 prog ng b)=true/\(D1 prog ng b).1.env.all plain=true/\(D1 prog ng b).2.all (·.env.all plain)=true:=by intro b;exact⟨by kernel_rfl,by kernel_rfl,by kernel_rfl,by kernel_rfl⟩
theorem Qa:∀(b:Nat),bn (D2 prog ng b).1=some (ng.kO,[])/\yK (D2 prog ng b)=true/\(D2 prog ng b).1.env.all plain=true/\(D2 prog ng b).2.all (·.env.all plain)=true:=by intro b;exact⟨by kernel_rfl,by kernel_rfl,by kernel_rfl,by kernel_rfl⟩
theorem Qb:∀(b:Nat),bn (D3 prog ng b).1=some (ng.Sc,[])/\yK (D3 prog ng b)=true/\(D3 prog ng b).1.env.all plain=true/\(D3 prog ng b).2.all (·.env.all plain)=true:=by intro b;exact⟨by kernel_rfl,by kernel_rfl,by kernel_rfl,by kernel_rfl⟩
theorem Qc:∀(b:Nat),bn (D4 prog ng b).1=some (ng.vu,[pt b 0,u64 18446744069414584320])/\yK (D4 prog ng b)=true/\(D4 prog ng b).1.env.all plain=true/\(D4 prog ng b).2.all (·.env.all plain)=true:=by intro b;exact⟨by kernel_rfl,by kernel_rfl,by kernel_rfl,by kernel_rfl⟩
theorem Qd:∀(b:Nat) (a:Fl) (x:Bool),uD (DE prog ng b (f0 a x) 0).1=some ng.en:=by intro b a x;cases x<;>kernel_rfl
theorem MT:∀(b:Nat) (a:Fl) (x:Bool),lX (oA prog (f0 a x) (DE prog ng b (f0 a x) 0)).1 ng.done=true/\(oA prog (f0 a x) (DE prog ng b (f0 a x) 0)).2=[]/\(oA prog (f0 a x) (DE prog ng b (f0 a x) 0)).1.kind=.deferred:=by intro b a x;cases x<;>exact⟨by kernel_rfl,by kernel_rfl,by kernel_rfl⟩
theorem Qe:∀(b:Nat) (a:Fl),uD (DE prog ng b (f0 a false) 1).1=some ng.en:=by intro b a;kernel_rfl
theorem MU:∀(b:Nat) (a:Fl),lX (oA prog (f0 a false) (DE prog ng b (f0 a false) 1)).1 ng.done=true/\(oA prog (f0 a false) (DE prog ng b (f0 a false) 1)).2=[]/\(oA prog (f0 a false) (DE prog ng b (f0 a false) 1)).1.kind=.deferred:=by intro b a;exact⟨by kernel_rfl,by kernel_rfl,by kernel_rfl⟩
theorem Qf:∀(b:Nat) (a:Fl),bn (DE prog ng b (f0 a true) 1).1=some (ng.yt,[pt b 0])/\yK (DE prog ng b (f0 a true) 1)=true:=by intro b a;exact⟨by kernel_rfl,by kernel_rfl⟩
theorem Qg:∀(b:Nat) (a:Fl),bn (D6 prog ng b (f0 a true)).1=some (ng.Li,[pt b 0,u64 0])/\yK (D6 prog ng b (f0 a true))=true:=by intro b a;exact⟨by kernel_rfl,by kernel_rfl⟩
theorem Qh:∀(b:Nat) (a:Fl),bn (D7 prog ng b (f0 a true)).1=some (ng.qU,[pt b 1,ff,i64 0])/\yK (D7 prog ng b (f0 a true))=true:=by intro b a;exact⟨by kernel_rfl,by kernel_rfl⟩
theorem Qi:∀(b:Nat) (a:Fl),uD (D8 prog ng b (f0 a true)).1=some ng.en:=by intro b a;kernel_rfl
theorem Qj:∀(b:Nat) (a:Fl),lX (oA prog (f0 a true) (D8 prog ng b (f0 a true))).1 ng.done=true/\(oA prog (f0 a true) (D8 prog ng b (f0 a true))).2=[]/\(oA prog (f0 a true) (D8 prog ng b (f0 a true))).1.kind=.deferred:=by intro b a;exact⟨by kernel_rfl,by kernel_rfl,by kernel_rfl⟩
theorem Qk:∀(b:Nat) (kind:afj),bn (W0 prog ng b kind).1=some (ng.kO,[])/\(W0 prog ng b kind).1.env.all plain=true/\(W0 prog ng b kind).2=[]/\(W0 prog ng b kind).1.kind=kind:=by intro b kind;exact⟨by kernel_rfl,by kernel_rfl,by kernel_rfl,by kernel_rfl⟩
theorem Ql:∀(b:Nat) (kind:afj),bn (W1 prog ng b kind).1=some (ng.yt,[pt b 0])/\yK (W1 prog ng b kind)=true/\(W1 prog ng b kind).1.env.all plain=true/\(W1 prog ng b kind).2.all (·.env.all plain)=true:=by intro b kind;exact⟨by kernel_rfl,by kernel_rfl,by kernel_rfl,by kernel_rfl⟩
theorem Qm:∀(b:Nat) (kind:afj) (a:Fl),bn (WE prog ng b kind (f0 a true)).1=some (ng.en,[])/\(WE prog ng b kind (f0 a true)).1.kind=kind:=by intro b kind a;exact⟨by kernel_rfl,by kernel_rfl⟩
theorem Qn:∀(b:Nat) (kind:afj) (a:Fl),mE (WC prog ng b kind (f0 a true)).1=some (ng.tG,ng.tU,pt b 0):=by intro b kind a;kernel_rfl
theorem Qo:∀(b:Nat) (kind:afj) (a:Fl),bn (WA prog ng b kind (f0 a true)).1=some (ng.acq,[pt b 0])/\(WA prog ng b kind (f0 a true)).1.kind=kind:=by intro b kind a;exact⟨by kernel_rfl,by kernel_rfl⟩
theorem Qp:∀(b:Nat) (kind:afj) (a:Fl),lX (WB prog ng b kind (f0 a true)).1 ng.wait=true/\(WB prog ng b kind (f0 a true)).2=[]/\(WB prog ng b kind (f0 a true)).1.kind=kind:=by intro b kind a;exact⟨by kernel_rfl,by kernel_rfl,by kernel_rfl⟩
theorem Qq:∀(b:Nat) (kind:afj) (a:Fl),bn (WE prog ng b kind (f0 a false)).1=some (ng.Af,[pt b 0,.fL 0,.fL 1])/\yK (WE prog ng b kind (f0 a false))=true:=by intro b kind a;exact⟨by kernel_rfl,by kernel_rfl⟩
theorem Qr:∀(b:Nat) (kind:afj) (a:Fl),J0 [5] [[0]] (next prog (f0 a false) (WE prog ng b kind (f0 a false)) ff)=W1 prog ng b kind:=by intro b kind a;kernel_rfl
theorem Qs:∀(b:Nat) (kind:afj) (a:Fl),mE (W3 prog ng b kind (f0 a false)).1=some (ng.tS,ng.tU,pt b 1):=by intro b kind a;kernel_rfl
theorem Qt:∀(b:Nat) (kind:afj) (a:Fl),bn (Wa prog ng b kind (f0 a false)).1=some (ng.wr,[pt b 1])/\(Wa prog ng b kind (f0 a false)).1.kind=kind:=by intro b kind a;exact⟨by kernel_rfl,by kernel_rfl⟩
theorem Qu:∀(b:Nat) (kind:afj) (a:Fl),bn (W4 prog ng b kind (f0 a false)).1=some (ng.H7,[pt b 1,ff])/\(W4 prog ng b kind (f0 a false)).1.kind=kind:=by intro b kind a;exact⟨by kernel_rfl,by kernel_rfl⟩
theorem Qv:∀(b:Nat) (kind:afj) (a:Fl),bn (W5 prog ng b kind (f0 a false)).1=some (ng.yt,[pt b 0])/\yK (W5 prog ng b kind (f0 a false))=true:=by intro b kind a;exact⟨by kernel_rfl,by kernel_rfl⟩
theorem Qw:∀(b:Nat) (kind:afj) (a:Fl),bn (Wb prog ng b kind (f0 a false)).1=some (ng.en,[])/\(Wb prog ng b kind (f0 a false)).1.kind=kind:=by intro b kind a;exact⟨by kernel_rfl,by kernel_rfl⟩
theorem Qx:∀(b:Nat) (kind:afj) (a:Fl),mE (XB prog ng b kind (f0 a false)).1=some (ng.tG,ng.tU,pt b 0):=by intro b kind a;kernel_rfl
theorem Qy:∀(b:Nat) (kind:afj) (a:Fl),bn (Wc prog ng b kind (f0 a false)).1=some (ng.acq,[pt b 0])/\(Wc prog ng b kind (f0 a false)).1.kind=kind:=by intro b kind a;exact⟨by kernel_rfl,by kernel_rfl⟩
theorem Qz:∀(b:Nat) (kind:afj) (a:Fl),lX (TO prog ng b kind (f0 a false)).1 ng.wait=true/\(TO prog ng b kind (f0 a false)).2=[]/\(TO prog ng b kind (f0 a false)).1.kind=kind:=by intro b kind a;exact⟨by kernel_rfl,by kernel_rfl,by kernel_rfl⟩
theorem T9:iV prog ng where
 a0:=PY
 a1:=PZ
 a2:=P1
 a3:=P4
 a4:=P5
 a5:=P6
 a6:=P7
 d0:=P8
 d1:=P9
 d2:=Qa
 d3:=Qb
 d4:=Qc
 d5:=Qd
 d5b:=MT
 d6:=Qe
 d6b:=MU
 d7:=Qf
 d8:=Qg
 d9:=Qh
 da:=Qi
 db:=Qj
 w0:=Qk
 w1:=Ql
 w2:=Qm
 w3:=Qn
 w4:=Qo
 w5:=Qp
 w6:=Qq
 w7:=Qr
 w8:=Qs
 w9:=Qt
 wa:=Qu
 wb:=Qv
 wc:=Qw
 wd:=Qx
 we:=Qy
 wf:=Qz
theorem Ua:jH prog ng where
 kO:=⟨_,rfl,rfl,rfl,rfl,rfl⟩
 en:=⟨_,rfl,rfl,rfl,rfl,rfl⟩
 acq:=⟨_,rfl,rfl,rfl,rfl,rfl⟩
 rel:=⟨_,rfl,rfl,rfl,rfl,rfl⟩
 rd:=⟨_,rfl,rfl,rfl,rfl,rfl⟩
 wr:=⟨_,rfl,rfl,rfl,rfl,rfl⟩
 Sc:=⟨_,rfl,rfl,rfl,rfl,rfl⟩
 vu:=⟨_,rfl,rfl,rfl,rfl,rfl⟩
 yt:=⟨_,rfl,rfl,rfl,rfl,rfl⟩
 Li:=⟨_,rfl,rfl,rfl,rfl,rfl⟩
 Af:=⟨_,rfl,rfl,rfl,rfl,rfl⟩
 H7:=⟨_,rfl,rfl,rfl,rfl,rfl⟩
 qU:=⟨_,rfl,rfl,rfl,rfl,rfl⟩
 tyG:=⟨_,rfl,rfl,rfl⟩
 tyS:=⟨_,rfl,rfl,rfl⟩
 UM:=⟨_,_,rfl,rfl,rfl,rfl⟩
 Om:=⟨_,_,rfl,rfl,rfl,rfl⟩
 On:=⟨_,_,rfl,rfl,rfl,rfl⟩
end
open Go.bN Go.Conc
variable{m:Mo}{σ:ab}{KF:aeQ}
theorem Vm:oC prog nn:=⟨⟨_,_,Tryz.func104,rfl,rfl,rfl⟩,⟨_,_,Tryz.func105,rfl,rfl,rfl⟩⟩
section
variable{b mb:Nat}{f:Fr}{A:cd}{j:Nat}{begun:afe}
theorem I9{b}(a:A.ng=ng){body}(hb:Tryz.f183.body=some body):aa prog (Aw prog A) 183 4 none [] [.code body] ⟨dW [.ref A.gb 0,.cp (.chan A.cF) 0],ln A.fb,[],.told .deferred [de prog] b⟩ (λ_ _=>False):=by
 simp only[Tryz.f183,kn]at hb;subst hb;refine aa.runN lay [] 2 ?_;simp;refine aa.Pb rfl (by rw[a];rfl) rfl (by simp) (by rw[a];exact Tryz.func106) rfl rfl rfl ?_;apply rn;simp;exact aa.IH rfl rfl (by simp) rfl rfl rfl rfl rfl Tryz.func183 rfl rfl
theorem Bg{T}(U:A.fb=b/\A.mb=mb/\A.fo=6/\A.nm=nn/\A.ng=ng/\A.dir=false)(V:∀x,A.GI x↔∃l,x=mapA .u8 l/\mR f l)(W:f.Good)(N:A.res j=int (aJ f begun).length)(t:begun.length<1152921504606846976)(hlen:(aJ f begun).length<1152921504606846976){body}(hb:Tryz.f182.body=some body):
 aa prog (jv prog A j) 182 13 none [] [.code body] ⟨dW [.ref A.gb 0,.cp (oq b mb f 0) 0,.cp (ints begun) 0,.cp (.chan A.cF) 0],ln A.fb,[],.told .deferred [de prog] T⟩ (λ_ _=>False):=by
 obtain⟨rfl,rfl,u,v,m,g⟩:=U;simp only[Tryz.f182,kn]at hb;subst hb;have O:=Pe (P:=prog) (A:=A) g (j:=j) (kd:=.u8) V;rw[u,v]at O;apply rn;simp;refine aa.defer rfl rfl rfl rfl (by simp) rfl ?_
 apply rn;simp;refine bO.intro λcn X=>?_
 simp;refine cf Tryz.func119 rfl (EV (begun:=begun) (sp:=.any) ?_);apply rn;simp;refine aa.rangeFunc rfl λw r l y Q n=>?_
 obtain⟨r1,Y,y⟩:=ab.aS y;obtain⟨Z,q,Q⟩:=ab.aS Q;generalize o:zu.mk _ _ _ _ _ _ _ _ _=z
 have hY:Wn (jv prog A j) (.fn (.yield l) [] []) (aJ f begun) (λk F a=>(∀c,F c↔c=l\/c=cn)/\a l=some (.loop z)/\a cn=some (.cells [int k])) (λF a=>False):=by
  refine⟨λk F a a7 hk i hT hF=>?_,λk F B C he i=>?_,λF B C he i=>i.elim,λk F a c i h=>?_⟩
  . obtain⟨d,s,D⟩:=i
    have e3:∀x,(a.set l x) cn=some (.cells [int k]):=λx=>(ab.ah _ _ q).trans D
    have f1:-9223372036854775808<=(k:Int)+1/\(k:Int)+1<=9223372036854775807:=by omega
    subst o;refine cL.zX (hold:=[]) w Tryz.func182 s rfl ?_;apply rn;simp[pD];refine aa.beginRound s rfl ?_;apply rn;simp[e3,f1.1,f1.2];refine⟨rfl,rfl,_,((ab.ah _ _ Z).trans (ab.ai _ _ _)),?_⟩;refine hT F _ (λc x h hx=>⟨?_,h⟩) ⟨d,ab.ai _ _ _,(ab.ah _ _ q).trans (ab.ai _ _ _)⟩
    have R:c≠l:=λe=>h ((d c).2 (.inl e))
    have c2:c≠cn:=λe=>h ((d c).2 (.inr e))
    exact(ab.ah _ _ R).trans ((ab.ah _ _ c2).trans ((ab.ah _ _ R).trans hx))
  . simp_all
  . obtain⟨d,s,D⟩:=i
    rcases(d c).1 h with rfl|rfl
    . exact⟨_,s,rfl⟩
    . exact⟨_,D,rfl⟩
 have hu:UnW A.fb (((ln A.fb).set cn (.cells [int 0])).set r (.raw (.deferred (some [])))|>.set l (.loop z)):=by
  have h0:(ln A.fb) A.fb=some .jf:=by simp[ln]
  have E:A.fb≠cn:=λe=>by simp_all
  have S:A.fb≠r:=λe=>by simp_all
  have G:A.fb≠l:=λe=>by simp_all
  show _=_;rw[ab.ah _ _ G,ab.ah _ _ S,ab.ah _ _ E];exact h0
 have nb:∀c,(ln A.fb) c=none->c≠A.fb:=λc h e=>by subst e;simp[ln]at h
 have sr:(((ln A.fb).set cn (.cells [int 0])).set r (.raw (.deferred (some [])))|>.set l (.loop z)) r=some (.raw (.deferred (some []))):=(ab.ah _ _ n).trans (ab.ai _ _ _)
 refine fF Tryz.func155 rfl rfl rfl (Bf (F:=λc=>c=l\/c=cn) O W t hY ⟨rfl,rfl⟩ hu ⟨λc=>aaL,ab.ai _ _ _,(ab.ah _ _ q).trans ((ab.ah _ _ Y).trans (ab.ai _ _ _))⟩ λF' a H I p=>?_)
 have J:=(H r _ sr (λe=>by omega) (nb r y) (.inr rfl)).1
 rcases p with⟨_,E,S⟩|hE
 . subst o
   refine⟨_,E,by simp,rfl,?_⟩
   have K:(a.del l) cn=some (.cells [int (aJ f begun).length]):=by simp only[ab.del,q,aao];omega
   have L:(a.del l) A.fb=some .jf:=by
    have G:A.fb≠l:=λe=>by grind
    simp only[ab.del,G,aao];exact I
   have M:(a.del l) r=some (.raw (.deferred (some []))):=by simp only[ab.del,n,aao];exact J
   apply rn;simp[K];refine aa.Pa g rfl rfl (by simp) rfl rfl (by simp_all) L rfl rfl Tryz.func182 rfl (by rw[m];exact Tryz.func102) rfl rfl ?_
   apply rn;simp;refine⟨rfl,.inl rfl,⟨_,rfl⟩,r,by rw[m],M⟩
 simp_all
end
def kX(j:Nat):afe:=if j=0 then[0,0]else[0,1]
def gX(f:Fr):Int:=if f.az.length<2 then 1 else(aJ f [0,0]).length+(aJ f [0,1]).length
theorem Ub{v d}(l:v.cells=[v])(m:d.cells=[d])(h:v.W d):(AV.cp v 0).W (.cp d 0):=λk x n=>by
 cases n with
 | cp b base off N E v c o p f g=>
   rw[l]at p f g;refine .cp b base 0 N E d c o (by simp_all) (λj i=>f j (by simp_all)) (λj a e=>?_);rw[m]at e;have i:j=0:=by grind
   subst i;simp at e;subst e;exact h k _ (g 0 v rfl)
section
variable{b mb:Nat}{f:Fr}
theorem QA(U:m.solo=true)(A:f.Good)(hlen:(aJ f [0,0]).length<1000000000/\(aJ f [0,1]).length<1000000000)(q:b≠mb)(L:Wj b 6 mb .u8 (mR f) σ)(h:∀σ',Wj b 6 mb .u8 (mR f) σ'->rY b mb σ σ'->KF (.val (int (gX f))) σ'):aB prog m 150 [oq b mb f 0] σ KF:=by
 have h6:=A.mT;unfold gX at h;refine fs [] Tryz.func150 rfl (by kernel_rfl) ?_
 simp[Tryz.f150]
 by_cases M:f.az.length<2
 . have k:(f.az.length:Int)<2:=by omega
   rw[Rp M]at h;simp[k];exact .done (h σ L (rY.refl b mb σ))
 have k:¬(f.az.length:Int)<2:=by omega
 rw[KD M]at h;obtain⟨V,lm,N,W⟩:=L;simp[k];refine GH lay rfl Kn rfl pQ rfl (by decide) λcF X=>?_
 apply rn;simp;refine bO.intro λy r=>?_
 obtain⟨n1,Y,r⟩:=ab.aS r;simp;refine bO.intro λgb g=>?_
 obtain⟨Z,n4,g⟩:=ab.aS g;obtain⟨n5,O,g⟩:=ab.aS g;simp;have P:cF≠b:=λe=>by simp_all
 have Q:cF≠mb:=λe=>by simp_all
 have b3:y≠b:=λe=>by simp_all
 have m3:y≠mb:=λe=>by simp_all
 have s:gb≠b:=λe=>by simp_all
 have gm:gb≠mb:=λe=>by simp_all
 refine aa.bf 3 (b:=y) (.chan cF) (by simp[n4,ab.ah]) (by simp) rfl ?_
 refine aa.cI U ⟨2,false,cF,b,6,gb,mb,λx=>∃l,x=mapA .u8 l/\mR f l,λj=>int (aJ f (kX j)).length,λ_=>.tuple #[],nn,ng,by omega,P,O,Q,zs s,q,gm⟩ rfl T9 Ua C4 C5 Vm (tm:=false) (a:=mapA .u8 lm) (by simp[ab.del,ab.ah,Y,O]) (by simp[ab.del,Z]) (by simp[ab.del,ab.set,zs b3,zs s,zs P,V]) (by simp[ab.del,ab.set,zs m3,zs gm,zs Q,N]) (by simp[mapA,pG]) ⟨lm,rfl,W⟩ rfl λpb a7 Fin kd a8 k0 t=>?_
 refine aa.xj ?_;refine aa.runN lay [] 18 ?_;simp;refine bO.intro λB C=>?_
 have d:B≠b:=λe=>by simp_all
 simp
 change aa _ _ _ _ _ _ _ _ _
 refine aa.bf 6 (b:=B) (.sl 1 [int 0,int 0] .exact) (ab.ai _ _ _) (by simp) rfl ?_
 refine aa.Am 6 (a':=.cp (ints [0,0]) 0) (by simp;exact Ub rfl rfl (eZ 1 [int 0,int 0] .exact)) ?_
 refine aa.O9 rfl rfl rfl (by simp) Tryz.func100 rfl rfl rfl ?_
 apply rn;simp;refine aa.tL (hold':=[]) rfl rfl rfl (by simp) rfl Tryz.func182 rfl rfl (by simp_all) (by simp[jc.at,ab.del,ab.set,zs d]) (by kernel_rfl) (λR=>Bg (b:=b) (mb:=mb) (f:=f) (begun:=[0,0]) ⟨rfl,rfl,rfl,rfl,rfl,jc.AN _ _ _⟩ (λx=>aaL) A rfl (by simp) (by omega) rfl) ?_
 apply rn;simp;refine aa.again (by kernel_rfl) ?_
 refine aa.runN lay [] 18 ?_;simp;refine bO.intro λD u=>?_
 have n:D≠b:=λe=>by subst e;simp[ab.del,ab.set,zs d]at u
 simp
 change aa _ _ _ _ _ _ _ _ _
 refine aa.bf 6 (b:=D) (.sl 1 [int 0,int 1] .exact) (ab.ai _ _ _) (by simp) rfl ?_
 refine aa.Am 6 (a':=.cp (ints [0,1]) 0) (by simp;exact Ub rfl rfl (eZ 1 [int 0,int 1] .exact)) ?_
 refine aa.O9 rfl rfl rfl (by simp) Tryz.func100 rfl rfl rfl ?_
 apply rn;simp;refine aa.tL (hold':=[]) rfl rfl rfl (by simp) rfl Tryz.func182 rfl rfl (by simp_all) (by simp[jc.at,ab.del,ab.set,zs n,zs d]) (by kernel_rfl) (λR=>Bg (b:=b) (mb:=mb) (f:=f) (begun:=[0,1]) ⟨rfl,rfl,rfl,rfl,rfl,jc.AN _ _ _⟩ (λx=>aaL) A rfl (by simp) (by omega) rfl) ?_
 apply rn;simp;refine aa.again (by kernel_rfl) ?_
 apply rn;simp;refine aa.Z1 (by exact jc.AN _ _ _) (hold':=[]) rfl rfl rfl (by simp) rfl Tryz.func183 rfl rfl (by simp_all) (by simp[jc.at,ab.del,ab.set,zs n,zs d]) (by kernel_rfl) (λR=>I9 rfl rfl) ?_
 apply rn;simp;refine aa.xj ?_;apply rn;simp;refine aa.Kl lay rfl rfl Kn rfl pQ (by simp) rfl rfl λi E=>?_
 have a9:∀j,(aJ f (kX j)).length<1000000000:=λj=>by unfold kX;grind
 have f1:-9223372036854775808<=((aJ f (kX i)).length:Int)/\((aJ f (kX i)).length:Int)<=9223372036854775807:=by grind
 apply rn;simp[jc.at,f1.1,f1.2];refine aa.again (by kernel_rfl) ?_
 apply rn;simp;refine aa.Kl lay rfl rfl Kn rfl pQ (by simp) rfl rfl λo F=>?_
 have S:-9223372036854775808<=((aJ f (kX i)).length:Int)+((aJ f (kX o)).length:Int)/\((aJ f (kX i)).length:Int)+((aJ f (kX o)).length:Int)<=9223372036854775807:=by grind
 apply rn;simp[S.1,S.2];refine aa.again (by kernel_rfl) ?_
 apply rn;simp;refine aa.EK lay rfl rfl Kn rfl pQ (by simp) rfl rfl (by simp[ab.del,ab.set,zs n,zs d]) rfl t λa ha=>?_
 apply rn;simp
 have v:((aJ f (kX i)).length:Int)+((aJ f (kX o)).length:Int)=((aJ f [0,0]).length:Int)+((aJ f [0,1]).length:Int):=by
  have p:i∈List.range 2:=E;have z:o∈(List.range 2).erase i:=F;have:i=0\/i=1:=by simp_all
  rcases this with rfl|rfl
  . have:o=1:=by simp_all
    subst this;rfl
  . have:o=0:=by simp_all
    subst this;exact Int.add_comm _ _
 rw[v];obtain⟨la,rfl,G⟩:=ha;refine .done (h _ ⟨ab.ai _ _ _,la,(ab.ah _ _ (zs q)).trans (ab.ai _ _ _),G⟩ λc x p z w=>?_)
 have H:c≠mb:=λe=>by
  subst e;rw[N]at p;cases p
  rcases w with w|w
  . exact w rfl
  . cases w
 have I:c≠cF:=λe=>by simp_all
 have J:c≠y:=λe=>by simp_all
 have K:c≠gb:=λe=>by simp_all
 have T:c≠B:=λe=>by subst e;simp[ab.del,ab.set,H,I,J,K,z,p]at C
 have e6:c≠D:=λe=>by subst e;simp[ab.del,ab.set,H,I,J,K,T,z,p]at u
 simp[ab.del,ab.set,H,I,J,K,T,e6,z,p]
end
section
variable{b mb:Nat}{f:Fr}{Un:afi}{Ld:ab->aeL->Prop}
theorem I'(Q:Pd prog m nn b 6 mb .u8 (mR f) Un Ld)(hf:f.Good){G p}(z:G.cells=[G]/\G.flat=true)(U:∀w∈aJ f [],∀  σ   KF ,KF (.val (bool (p w))) σ->cL prog m G [ints w] σ KF)(hlen:(aJ f []).length<1152921504606846976)(hu:Un σ)
 (h:∀σ',Un σ'->rY b mb σ σ'->KF (.val (.bL [int (((aJ f []).filter p).length),int (aJ f []).length])) σ'):aB prog m 85 [oq b mb f 0,G] σ KF:=by
 refine fs Yl Tryz.func85 rfl (by kernel_rfl) ?_
 simp[Tryz.f85,z.1,z.2];refine bO.intro λj h6=>?_
 simp;refine bO.intro λd h7=>?_
 obtain⟨R,z2,h7⟩:=ab.aS h7;simp[R,z2,ab.ah];have hW:Wl [oq b mb f 0,AV.lit (.slice none 0 0)] [oq b mb f 0,ints []]:=.cons (.refl _) (.cons (dR 1) .nil);refine bp Tryz.func119 rfl rfl hW (EV (begun:=[]) ?_);apply rn;simp;refine aa.rangeFunc rfl λV r l t u H=>?_
 obtain⟨a1,_,t⟩:=ab.aS t;obtain⟨a2,_,t⟩:=ab.aS t;obtain⟨_,_,t⟩:=ab.aS t;obtain⟨_,_,t⟩:=ab.aS t;obtain⟨a3,_,u⟩:=ab.aS u;obtain⟨a4,_,u⟩:=ab.aS u;obtain⟨_,_,u⟩:=ab.aS u;obtain⟨_,_,u⟩:=ab.aS u;have I:σ r=none/\r≠j/\r≠d:=⟨t,a2,a1⟩;have a:σ l=none/\l≠j/\l≠d:=⟨u,a4,a3⟩;generalize J:zu.mk _ _ _ _ _ _ _ _ _=K
 have hY:Wn m (.fn (.yield l) [] []) (aJ f []) (λk F σ'=>(∀c,F c↔c=l\/c=j\/c=d)/\σ' l=some (.loop K)/\σ' j=some (.cells [int ((((aJ f []).take k).filter p).length)])/\σ' d=some (.cells [int k])) (λF σ'=>False):=by
  refine⟨λk F σ' av hk D hT hF=>?_,λk F W n he D=>?_,λF W n he D=>D.elim,λk F σ' c D o=>?_⟩
  . obtain⟨i,S,X,Y⟩:=D
    have e7:∀x,(σ'.set l x) d=some (.cells [int k]):=λx=>(ab.ah _ _ (zs a.2.2)).trans Y
    have f1:-9223372036854775808<=(k:Int)+1/\(k:Int)+1<=9223372036854775807:=by omega
    have ax:(((aJ f []).take k).filter p).length<=k:=aap (aaN _ _) (by grind)
    have f2:-9223372036854775808<=((((aJ f []).take k).filter p).length:Int)+1/\((((aJ f []).take k).filter p).length:Int)+1<=9223372036854775807:=by omega
    have Z:(((aJ f []).take (k+1)).filter p).length=(((aJ f []).take k).filter p).length+if p (aJ f [])[k]then 1 else 0:=by
     rw[za hk,aca,aam]
     grind
    have L:(aJ f [])[k]∈aJ f []:=ys hk;subst J;refine cL.zX (hold:=Yl) V Tryz.func85 S rfl ?_;apply rn;simp[pD];refine aa.beginRound S rfl ?_;apply rn;simp[e7,f1.1,f1.2,z.1];refine U _ L _ _ ?_;have e6:∀x y,((σ'.set l x).set d y) j=some (.cells [int ((((aJ f []).take k).filter p).length)]):=λx y=>(ab.ah _ _ (zs R)).trans ((ab.ah _ _ (zs a.2.1)).trans X)
    cases hp:p (aJ f [])[k]
    . apply rn
      simp;refine⟨rfl,rfl,_,((ab.ah _ _ a.2.2).trans (ab.ai _ _ _)),?_⟩;refine hT F _ (λc x o hx=>⟨?_,o⟩) ⟨i,ab.ai _ _ _,?_,(ab.ah _ _ (zs a.2.2)).trans (ab.ai _ _ _)⟩
      . have A:c≠l:=λe=>o ((i c).2 (.inl e))
        have M:c≠d:=λe=>o ((i c).2 (.inr (.inr e)))
        exact(ab.ah _ _ A).trans ((ab.ah _ _ M).trans ((ab.ah _ _ A).trans hx))
      refine(ab.ah _ _ (zs a.2.1)).trans ((e6 _ _).trans ?_)
      simp_all
    apply rn;simp[e6,f2.1,f2.2];refine⟨rfl,rfl,_,((ab.ah _ _ a.2.1).trans ((ab.ah _ _ a.2.2).trans (ab.ai _ _ _))),?_⟩;refine hT F _ (λc x o hx=>⟨?_,o⟩) ⟨i,ab.ai _ _ _,?_,(ab.ah _ _ (zs a.2.2)).trans ((ab.ah _ _ R).trans (ab.ai _ _ _))⟩
    . have A:c≠l:=λe=>o ((i c).2 (.inl e))
      have T:c≠j:=λe=>o ((i c).2 (.inr (.inl e)))
      have M:c≠d:=λe=>o ((i c).2 (.inr (.inr e)))
      exact(ab.ah _ _ A).trans ((ab.ah _ _ T).trans ((ab.ah _ _ M).trans ((ab.ah _ _ A).trans hx)))
    refine(ab.ah _ _ (zs a.2.1)).trans ((ab.ai _ _ _).trans ?_)
    simp_all
  . simp_all
  obtain⟨i,S,X,Y⟩:=D
  rcases(i c).1 o with rfl|rfl|rfl
  . exact⟨_,S,rfl⟩
  . exact⟨_,X,rfl⟩
  exact⟨_,Y,rfl⟩
 obtain⟨xb,ay,aC⟩:=Q.Wi hu;have nb:∀c,σ c=none->c≠b:=λc o e=>by simp_all
 have N:σ.Le ((((((σ.set j (.cells [int 0])).set d (.cells [int 0])).set j (.cells [int 0])).set d (.cells [int 0])).set r (.raw (.deferred (some [])))).set l (.loop K)):=(by repeat (first|exact ab.le_refl _|assumption|refine ab.fK ?_ (by assumption)|refine ab.nM ?_ (by assumption)))
 have sr:((((((σ.set j (.cells [int 0])).set d (.cells [int 0])).set j (.cells [int 0])).set d (.cells [int 0])).set r (.raw (.deferred (some [])))).set l (.loop K)) r=some (.raw (.deferred (some []))):=(ab.ah _ _ H).trans (ab.ai _ _ _);have s7:((((((σ.set j (.cells [int 0])).set d (.cells [int 0])).set j (.cells [int 0])).set d (.cells [int 0])).set r (.raw (.deferred (some [])))).set l (.loop K)) d=some (.cells [int 0]):=(ab.ah _ _ (zs a.2.2)).trans ((ab.ah _ _ (zs I.2.2)).trans (ab.ai _ _ _))
 have s6:((((((σ.set j (.cells [int 0])).set d (.cells [int 0])).set j (.cells [int 0])).set d (.cells [int 0])).set r (.raw (.deferred (some [])))).set l (.loop K)) j=some (.cells [int 0]):=(ab.ah _ _ (zs a.2.1)).trans ((ab.ah _ _ (zs I.2.1)).trans ((ab.ah _ _ (zs R)).trans (ab.ai _ _ _)));refine fF Tryz.func155 rfl rfl rfl (Bf (F:=λc=>c=l\/c=j\/c=d) Q hf (by simp) hY ⟨rfl,rfl⟩ (Q.un (λc _ ⟨x,s,_⟩=>(N _ _ s).trans s.symm) hu) ⟨λc=>aaL,ab.ai _ _ _,by simp_all,by omega⟩ λF' σ' O a7 v=>?_)
 have P:=(O r _ sr (λe=>by omega) (nb r t) (.inr rfl)).1
 have B:rY b mb σ σ':=λc x s E C=>(O c x (N c x s) (λe=>by grind) E C).1
 have a8:∀n,n=(σ'.del l).set r (.raw (.deferred none))->Un n/\rY b mb σ n:=λn e=>by
  subst e;refine⟨Q.un (σ:=σ') (λc _ ⟨x,s,E⟩=>?_) a7,λc x s E C=>?_⟩
  . have c1:c≠r:=λe=>by subst e;rw[P]at s;cases s;cases E
    have c2:c≠l:=λe=>by
     subst e
     rcases v with⟨_,g,_⟩|g
     . rw[g]at s;cases s;cases E
     omega
    rw[ab.ah _ _ c1];simp[ab.del,c2]
  have c1:c≠r:=λe=>by simp_all
  have c2:c≠l:=λe=>by simp_all
  rw[ab.ah _ _ c1];simp only[ab.del,c2,aao];exact B c x s E C
 rcases v with⟨_,A,T,M⟩|q
 . rw[aar]at T
   subst J;refine⟨_,A,by simp,rfl,?_⟩
   have a9:(σ'.del l) j=some (.cells [int ((aJ f []).filter p).length]):=by simp only[ab.del,zs a.2.1,aao];exact T
   have ad:(σ'.del l) d=some (.cells [int (aJ f []).length]):=by simp only[ab.del,zs a.2.2,aao];exact M
   apply rn;simp[a9,ad];apply rn;simp;refine⟨by simp only[ab.del,H,aao];exact P,.done ?_⟩
   simp_all
 simp_all
end
theorem C6  f   begun :∀  fuel   cN   many   c ,∀w∈iv f begun fuel cN many c,w.length=cN.length+fuel
 |0,cN,many,c,w,b=>by simp[iv]at b;grind
 | fuel+1,cN,many,c,w,b=>by
   rw[uI,aaR]at b;obtain⟨k,_,a⟩:=b;unfold rZ at a;split at a
   . cases a
   split at a
   . have:=C6 f begun fuel _ _ _ w a
     grind
   . cases a
section
variable{b mb:Nat}{f:Fr}{Un:afi}{Ld:ab->aeL->Prop}
def jl(x y:Int)(w:afe):Bool:=decide (w.getD x.toNat 0=w.getD y.toNat 0)
theorem QB{w x y}(a:0<=x/\x.toNat<w.length)(b:0<=y/\y.toNat<w.length)(h:KF (.val (bool (jl x y w))) σ):aB prog m 86 [ints w,.cp (int x) 0,.cp (int y) 0] σ KF:=by
 have c:w.getD x.toNat 0=w[x.toNat]:=by simp_all
 have d:w.getD y.toNat 0=w[y.toNat]:=by simp_all
 unfold jl at h;rw[c,d]at h;refine fs aaa Tryz.func86 rfl (by kernel_rfl) ?_;simp[Tryz.f86,a.1,a.2,b.1,b.2];apply rn;simp;refine .done ?_;omega
theorem S6(c:Pd prog m nn b 6 mb .u8 (mR f) Un Ld)(d:f.Good){x y}(e:0<=x/\x.toNat<f.az.length)(g:0<=y/\y.toNat<f.az.length)(hlen:(aJ f []).length<1152921504606846976)(i:Un σ)
 (h:∀σ',Un σ'->rY b mb σ σ'->KF (.val (int (jd (((aJ f []).filter (jl x y)).length:Int) (aJ f []).length))) σ'):aB prog m 48 [oq b mb f 0,int x,int y] σ KF:=by
 have a:∀w∈aJ f [],w.length=f.az.length:=λw a=>by have:=C6 f [] _ _ _ _ w a;simp_all
 refine fs [] Tryz.func48 rfl (by kernel_rfl) ?_
 simp[Tryz.f48];refine cf Tryz.func85 rfl (I' c d (p:=jl x y) ⟨rfl,rfl⟩ (λw j σ KF k=>fF Tryz.func86 rfl rfl rfl (QB ⟨e.1,by simp_all⟩ ⟨g.1,by simp_all⟩ k)) hlen i λσ' l n=>?_)
 apply rn;simp;refine cf Tryz.func84 rfl (IV ?_);apply rn;simp;exact .done (h σ' l n)
end
theorem MV(r:m.solo=true){f}{l:afe}{sp}(o:f.Fits)(p:check f=0)(s:∀n∈l,0<=n/\n<f.az.length)(j:l.length<1152921504606846976)(g:aJ f []≠[])(h:∀b mb σ',b≠mb->Wj b 6 mb .u8 (mR f) σ'->σ b=none/\σ mb=none->σ.Le σ'->KF (.val (.bL [oq b mb f 0,int 0])) σ'):aB prog m 47 [bF f,.sl 1 (l.map int) sp] σ KF:=by
 have t:=Fr.pw o p;have u:=IU p s;refine fs [] Tryz.func47 rfl (by kernel_rfl) ?_
 simp[Tryz.f47];have v:Wl [AV.agg (Ko f),.sl 1 (l.map int) sp] [bF f,ints l]:=.cons (.refl _) (.cons (eZ 1 _ sp) .nil);refine bp Tryz.func82 rfl rfl v (Kr o j (λq=>absurd u q) λ_ b mb σ' d=>?_)
 have w:Wj b 6 mb .u8 (mR f) σ':=by rw[d.eq];exact⟨ab.ai _ _ _,[],(ab.ah _ _ (zs d.ne)).trans (ab.ai _ _ _),λn a h=>by simp[dP]at h⟩
 apply rn;simp;refine cf Tryz.func83 rfl (S5 (GN C4 C5 Vm r d.ne) t w λk y z=>?_)
 apply rn;simp[g];refine .done (h b mb k d.ne y ⟨d.hb,d.Ff⟩ λc x i=>?_)
 have A:c≠b:=λe=>by subst e;rw[d.hb]at i;cases i
 have B:c≠mb:=λe=>by subst e;rw[d.Ff]at i;cases i
 exact z c x (d.le c x i) A (.inl B)
theorem S7(j:m.solo=true){f}{x y:Int}(k:f.Fits)(o:check f=0)(d:0<=x/\x<f.az.length)(p:0<=y/\y<f.az.length)(a:aJ f []≠[])(hlen:(aJ f []).length<1152921504606846976)(h:KF (.val (.bL [int (jd (((aJ f []).filter (jl x y)).length:Int) (aJ f []).length),int 0])) σ):aB prog m 22 [bF f,int x,int y] σ KF:=by
 have q:=Fr.pw k o;refine fs [] Tryz.func22 rfl (by kernel_rfl) ?_;simp[Tryz.f22];refine cf Tryz.func47 rfl (MV (l:=[x,y]) (sp:=.exact) j k o (λn A=>by grind) (by simp) a λb mb r g s t i=>?_);apply rn;simp;refine cf Tryz.func48 rfl (S6 (GN C4 C5 Vm j g) q ⟨d.1,by omega⟩ ⟨p.1,by omega⟩ hlen s λu B v=>?_);apply rn;simp;refine .less (λc x d=>?_) (.done h);have w:c≠b:=λe=>by simp_all
 have z:c≠mb:=λe=>by simp_all
 exact v c x (i c x d) w (.inl z)
theorem QC(l:m.solo=true){f}(j:f.Fits)(k:check f=0)(hlen:(aJ f [0,0]).length<1000000000/\(aJ f [0,1]).length<1000000000)(h:KF (.val (.bL [int (gX f),int 0])) σ):aB prog m 111 [bF f] σ KF:=by
 have o:=Fr.pw j k;have p:=GX k;refine fs [] Tryz.func111 rfl (by kernel_rfl) ?_
 simp[Tryz.f111];have r:Wl [AV.agg (Ko f),AV.lit (.slice none 0 0)] [bF f,ints []]:=.cons (.refl _) (.cons (dR 1) .nil);refine bp Tryz.func82 rfl rfl r (Kr j (by simp) (λq=>absurd p q) λ_ b mb i d=>?_)
 have s:Wj b 6 mb .u8 (mR f) i:=by rw[d.eq];exact⟨ab.ai _ _ _,[],(ab.ah _ _ (zs d.ne)).trans (ab.ai _ _ _),λn a h=>by simp[dP]at h⟩
 apply rn;simp;refine cf Tryz.func150 rfl (QA l o hlen d.ne s λt y u=>?_)
 apply rn;simp;refine .less (λc x g=>?_) (.done h)
 have v:c≠b:=λe=>by subst e;rw[d.hb]at g;cases g
 have w:c≠mb:=λe=>by subst e;rw[d.Ff]at g;cases g
 exact u c x (d.le c x g) v (.inl w)
def bR(w:afe):Int:=w.foldl (λn k=>max n (k+1)) 0
theorem QD{l l'}(j:l.length=l'.length)(e:∀(i:Nat) a a',l[i]?=some a->l'[i]?=some a'->a.W a'):(AV.bL l).W (.bL l'):=λk x f=>by
 cases f with
 | bL c _ m g=>
   refine .bL c l' (by omega) λi v a' h b=>?_
   have d:i<l.length:=by grind
   exact e i l[i] a' (by simp[d]) b k v (g i v _ h (by simp[d]))
theorem Ks:∀{es},(∀a∈es,a.cells=[a])->flatten es=es
 |[],_=>rfl
 |a::es,h=>by rw[flatten_cons,h a (aek ..),Ks λx b=>h x (adu _ b)];rfl
theorem YG{es d sp}(n:es.length=d.length)(o:∀a∈es,a.cells=[a])(f:∀a∈d,a.cells=[a])(p:∀(i:Nat) a a',es[i]?=some a->d[i]?=some a'->a.W a'):(AV.sl 1 es sp).W (.sl 1 d .any):=λk x q=>by
 cases q with
 | sl b off cap v N E _ _ c h r s w t l y=>
   rw[Ks o]at t l;rw[n]at h ⊢;refine .sl b off cap 1 N E d .any c h r s (λe z=>by simp_all) (λj g=>?_) (λj a m=>?_) trivial
   . rw[Ks f]at g
     simp_all
   . rw[Ks f]at m
     have g:j<es.length:=by grind
     exact p j es[j] a (by simp[g]) m k _ (l j _ (by simp[g]))
 | slnil u=>
   have:d=[]:=by grind
   subst this;exact .slnil u 1 .any (.inl rfl)
theorem nY{l l'}(j:l.length=l'.length)(e:∀(i:Nat) a a',l[i]?=some a->l'[i]?=some a'->a.W a'):(AV.agg l).W (.agg l'):=λk x f=>by
 cases f with
 | agg c _ m g=>
   refine .agg c l' (by omega) λi v a' h b=>?_
   have d:i<l.length:=by grind
   exact e i l[i] a' (by simp[d]) b k v (g i v _ h (by simp[d]))
def bg(c:Nat)(nums:afe)(k:Nat)(σ:ab):Prop:=∃(n:Nat) (s:Int),n<=k/\σ c=some (.cells [ints nums,int n,.lit (.int .u64 s)])
theorem wx{nums}(h:∀c σ',σ c=none->bg c nums 0 σ'->(∀x,x≠c->σ' x=σ x)->KF (.val (.ref c 0)) σ'):aB prog m 10 [ints nums] σ KF:=by
 refine aB.start lay [5] [] 1 Tryz.func10 rfl rfl (by rfl) (by kernel_rfl) ?_;simp[Tryz.f10];refine bO.intro λc a=>?_
 simp;exact .done (h c _ a ⟨0,_,aav _,ab.ai _ _ _⟩ λx b=>ab.ah _ _ b)
theorem S8  a b :0<=IntKind.u64.wrap (((BitVec.ofInt 64 a ^^^ BitVec.ofInt 64 b).toNat:Nat):Int)/\IntKind.u64.wrap (((BitVec.ofInt 64 a ^^^ BitVec.ofInt 64 b).toNat:Nat):Int)<18446744073709551616:=by generalize (((BitVec.ofInt 64 a ^^^ BitVec.ofInt 64 b).toNat:Nat):Int)=x;simp only[IntKind.wrap,IntKind.signed,IntKind.bits];simp;omega
theorem QE{x:Int}(h:0<=x/\x<18446744073709551616):0<=x.fdiv (2 ^ min 11 IntKind.u64.bits)/\x.fdiv (2 ^ min 11 IntKind.u64.bits)<9007199254740992:=by
 have e:(2:Int) ^ min 11 IntKind.u64.bits=2048:=by decide
 grind
theorem S9{c k nums}(B:k<1000000)(C:nums.length<1152921504606846976)(hb:bg c nums k σ)(h:∀  x  σ',0<=x/\x<9007199254740992->bg c nums (k+1) σ'->(∀y,y≠c->σ' y=σ y)->KF (.val (.lit (.int .u64 x))) σ'):aB prog m 44 [.ref c 0] σ KF:=by
 obtain⟨n,s,w,l⟩:=hb;have t:-9223372036854775808<=(n:Int)+1/\(n:Int)+1<=9223372036854775807:=by omega
 obtain⟨fm,d⟩:∃f:Int->Int->Int,∀a b,r8 .mul .u64 a b=some (.int .u64 (f a b)):=⟨_,λ_ _=>rfl⟩;obtain⟨D,g,r⟩:∃f:Int->Int->Int,(∀a b,r8 .xor .u64 a b=some (.int .u64 (f a b)))/\∀a b,0<=f a b/\f a b<18446744073709551616:=⟨_,λ_ _=>rfl,S8⟩;refine aB.II lay [] Z6 27 1 Tryz.func44 rfl rfl (by rfl) (by kernel_rfl) ?_;simp[Tryz.f44,l,t.1,t.2,aI,d];refine aa.gN (λe i=>e 0=.ref c 0/\(∃z,e 3=.lit (.int .u64 z))/\i c=some (.cells [ints nums,int ((n:Int)+1),.lit (.int .u64 s)])/\∀y,y≠c->i y=σ y) (by simp;intro y p;exact ab.ah _ _ p) ?_;clear l;rintro env i ⟨o,⟨z,q⟩,l,j⟩;refine aa.runN lay [] 2 ?_;simp[o,l];refine aa.runN lay [] 2 ?_;simp;refine aG.intro (λu=>?_) (λu=>?_)<;>simp[-Int.not_lt,-Int.not_le,-Nat.not_lt,-Nat.not_le]at u
 . have E:(n:Int)<nums.length:=by omega
   have A:n<nums.length:=by omega
   have v:-9223372036854775808<=(n:Int)/\(n:Int)<=9223372036854775807:=by omega
   simp[o,q,l,A,v.1,v.2,d,g];refine aa.gN (λe i=>e 0=.ref c 0/\(∃z,e 3=.lit (.int .u64 z))/\i c=some (.cells [ints nums,int ((n:Int)+1),.lit (.int .u64 s)])/\∀y,y≠c->i y=σ y) (by simp_all) ?_;clear o q l j;rintro env i ⟨o,⟨z,q⟩,l,j⟩;apply rn;simp[o,q,l,d,g,aI];refine aa.gN (λe i=>e 0=.ref c 0/\(∃s,i c=some (.cells [ints nums,int ((n:Int)+1),.lit (.int .u64 s)]))/\∀y,y≠c->i y=σ y) (by refine⟨by simp[o],⟨_,by simp;rfl⟩,λy p=>?_⟩;simp[ab.ah,p,j y p]) ?_;clear o q l j;rintro env i ⟨o,⟨z,l⟩,j⟩;apply rn;simp[o,l,d,g];refine .done (h _ i (QE (r _ _)) ⟨n+1,z,by omega,by simp_all⟩ j)
 . simp
   apply rn;simp[o,q,l,d,g,aI];refine aa.gN (λe i=>e 0=.ref c 0/\(∃s,i c=some (.cells [ints nums,int ((n:Int)+1),.lit (.int .u64 s)]))/\∀y,y≠c->i y=σ y) (by refine⟨by simp[o],⟨_,by simp;rfl⟩,λy p=>?_⟩;simp[ab.ah,p,j y p]) ?_;clear o q l j;rintro env i ⟨o,⟨z,l⟩,j⟩;apply rn;simp[o,l,d,g];refine .done (h _ i (QE (r _ _)) ⟨n+1,z,by omega,by simp_all⟩ j)
def qZ(c:Nat)(nums:afe)(k:Nat)(σ σ':ab):Prop:=bg c nums k σ'/\∀y,y≠c->σ' y=σ y
theorem qZ.trans{c nums k k' σ σ' a}(h:qZ c nums k σ σ')(b:qZ c nums k' σ' a):qZ c nums k' σ a:=⟨b.1,λy d=>(b.2 y d).trans (h.2 y d)⟩
theorem bg.mono{c nums k k'}(h:bg c nums k σ)(b:k<=k'):bg c nums k' σ:=by obtain⟨n,s,d,a⟩:=h;exact⟨n,s,by omega,a⟩
theorem QF{n}(h:0<=n/\n<18446744073709551616):IntKind.u64.wrap n=n:=by simp only[IntKind.wrap,IntKind.signed,IntKind.bits];simp;omega
theorem Vn{n}(h:-9223372036854775808<=n/\n<=9223372036854775807):IntKind.i64.wrap n=n:=by simp[IntKind.wrap,IntKind.signed,IntKind.bits];omega
section
variable{c k:Nat}{nums:afe}
theorem fE{n}(f:k<1000000)(g:nums.length<1152921504606846976)(i:-4611686018427387904<=n/\n<4611686018427387904)(hb:bg c nums k σ)(h:∀  x  σ',0<=x/\(x<=n\/x=0)->qZ c nums (k+1) σ σ'->KF (.val (int x)) σ'):aB prog m 16 [.ref c 0,int n] σ KF:=by
 refine fs [] Tryz.func16 rfl (by kernel_rfl) ?_;simp[Tryz.f16];refine cf Tryz.func44 rfl (S9 f g hb λx σ' j a b=>?_);apply rn;simp;refine aG.intro (λd=>?_) (λd=>?_)<;>simp[-Int.not_lt,-Int.not_le]at d
 . simp
   exact .done (h 0 σ' ⟨by omega,.inr rfl⟩ ⟨a,b⟩)
 have l:IntKind.u64.wrap n=n:=QF (by omega);have o:r8 .add .u64 n 1=some (.int .u64 (n+1)):=by show some (Value.int .u64 (IntKind.u64.wrap (n+1)))=_;rw[QF (by omega)]
 obtain⟨r,e,p⟩:∃r:Int,(0<=r/\r<=n)/\r8 .rem .u64 x (n+1)=some (.int .u64 r):=by
  refine⟨x.tmod (n+1),⟨Int.tmod_nonneg _ j.1,?_⟩,by simp[r8];omega⟩;have:=Int.tmod_lt_of_pos x (show 0<n+1 by omega);omega
 have q:IntKind.i64.wrap r=r:=Vn (by omega);simp[l,o,p,q];exact .done (h r σ' ⟨e.1,.inl e.2⟩ ⟨a,b⟩)
theorem fY{lo hi}(d:k<1000000)(e:nums.length<1152921504606846976)(f:-1000000000<=lo/\lo<=1000000000)(g:-1000000000<=hi/\hi<=1000000000)(hb:bg c nums k σ)(h:∀  x  σ',lo<=x/\(x<=hi\/x=lo)->qZ c nums (k+1) σ σ'->KF (.val (int x)) σ'):aB prog m 13 [.ref c 0,int lo,int hi] σ KF:=by
 have a:-9223372036854775808<=hi-lo/\hi-lo<=9223372036854775807:=by omega
 refine fs [] Tryz.func13 rfl (by kernel_rfl) ?_;simp[Tryz.f13,a.1,a.2];refine cf Tryz.func16 rfl (fE d e ⟨by omega,by omega⟩ hb λx σ' i hd=>?_);have b:-9223372036854775808<=lo+x/\lo+x<=9223372036854775807:=by omega
 apply rn;simp[b.1,b.2];exact .done (h _ σ' ⟨by omega,by omega⟩ hd)
theorem po{l:afe}{sp}(d:k<1000000)(f:nums.length<1152921504606846976)(i:0<l.length/\l.length<1000000)(hb:bg c nums k σ)(h:∀  x  σ',x∈l->qZ c nums (k+1) σ σ'->KF (.val (int x)) σ'):aB prog m 63 [.ref c 0,.sl 1 (l.map int) sp] σ KF:=by
 have a:-9223372036854775808<=(l.length:Int)-1/\(l.length:Int)-1<=9223372036854775807:=by omega
 refine fs [] Tryz.func63 rfl (by kernel_rfl) ?_;simp[Tryz.f63,a.1,a.2];refine cf Tryz.func16 rfl (fE d f ⟨by omega,by omega⟩ hb λx σ' g hd=>?_);have b:x.toNat<l.length:=by omega
 have j:x<l.length:=by omega
 have e:(x.toNat:Int)=x:=by omega
 apply rn;simp[g.1,b];exact .done (h _ σ' (ys b) hd)
theorem yS{n}(b:k<1000000)(d:nums.length<1152921504606846976)(e:0<=n/\n<1000000000)(hb:bg c nums k σ)(h:∀  x  σ',qZ c nums (k+1) σ σ'->KF (.val (bool x)) σ'):aB prog m 33 [.ref c 0,int n] σ KF:=by
 have a:-9223372036854775808<=n-1/\n-1<=9223372036854775807:=by omega
 refine fs [] Tryz.func33 rfl (by kernel_rfl) ?_;simp[Tryz.f33,a.1,a.2];refine cf Tryz.func16 rfl (fE b d ⟨by omega,by omega⟩ hb λx σ' f hd=>?_);apply rn;simp;exact .done (h _ σ' hd)
end
structure Bh  fq  (e:yz):Prop where
 hour:0<=e.hour/\e.hour<=40
 place:0<=e.place/\e.place<fq
 cy:0<=e.cy/\e.cy<=1
 marks:e.marks.Sublist [0,1,2]
 bd:14<=e.bd/\e.bd<=16
 im:0<=e.im/\e.im<=2
theorem nC{l}(h:l.Sublist [0,1,2]):oy none l=0/\l.length<=3:=by cases h<;>(rename_i h;cases h<;>(rename_i h;cases h<;>(rename_i h;cases h;decide)))
theorem Bh.check{fq e}(h:Bh fq e):bX fq e=0:=by
 obtain⟨b,c,d,a,f,g⟩:=h;have a:=(nC a).1;unfold bX bz
 grind
theorem tF{σ0 σ σ2 a kk es c}(h:Tok σ0 σ a kk es)(g:σ0 c=none)(i:∃l,σ c=some (.cells l))(d:∀y,y≠c->σ2 y=σ y):Tok σ0 σ2 a kk es:=by
 refine⟨λy x f=>?_,?_⟩
 . have:y≠c:=λe=>by simp_all
   rw[d y this];exact h.1 y x f
 rcases h.2 with q|q|⟨b,e,j,k,m⟩
 . exact .inl q
 . simp_all
 grind
section
variable{c k:Nat}{nums:afe}
theorem G4{fq}(hk:k+11<1000000)(t:nums.length<1152921504606846976)(b4:0<=fq/\fq<=1000)(hb:bg c nums k σ)(h:∀  e  σ',Bh (max fq 1) e->qZ c nums (k+11) σ σ'->KF (.val (bj e)) σ'):aB prog m 61 [.ref c 0,int fq] σ KF:=by
 have r1:-9223372036854775808<=fq-1/\fq-1<=9223372036854775807:=by omega
 obtain⟨n0,s0,_,a8⟩:=id hb;refine fs [] Tryz.func61 rfl (by kernel_rfl) ?_
 simp[Tryz.f61];refine bO.intro λc4 h4=>?_
 have n4:c≠c4:=λe=>by simp_all
 have u:∀x,bg c nums k (σ.set c4 x):=λx=>⟨n0,s0,by assumption,by rw[ab.ah _ _ n4];exact a8⟩
 simp;refine cf Tryz.func16 rfl (fE (by omega) t ⟨by omega,by omega⟩ (u _) λd b5 b6 I=>?_)
 apply rn;simp;refine cf Tryz.func16 rfl (fE (by omega) t ⟨by omega,by omega⟩ I.1 λg f b7 J=>?_)
 apply rn;simp;refine cf Tryz.func16 rfl (fE (by omega) t ⟨by omega,by omega⟩ J.1 λx3 w b8 K=>?_)
 apply rn;simp;refine cf Tryz.func63 rfl (po (l:=[d,g,x3]) (by omega) t (by simp) K.1 λF b9 a9 L=>?_)
 apply rn;simp[r1.1,r1.2];refine cf Tryz.func16 rfl (fE (by omega) t ⟨by omega,by omega⟩ L.1 λpl bm bq M=>?_)
 apply rn;simp;refine cf Tryz.func63 rfl (po (l:=[0,0,0,1]) (by omega) t (by simp) M.1 λco bw ad N=>?_)
 apply rn;simp;refine cf Tryz.func63 rfl (po (l:=[14,14,15,15,16]) (by omega) t (by simp) N.1 λG bA al O=>?_)
 apply rn;simp;refine cf Tryz.func63 rfl (po (l:=[0,0,1,2]) (by omega) t (by simp) O.1 λsh P av Q=>?_)
 apply rn;simp;refine bO.intro λv h5=>?_
 simp;have o:qZ c nums (k+8) (σ.set c4 (.cells [int 0,int 0,int 0,.lit (.slice none 0 0),int 0,int 0])) P:=I.trans (J.trans (K.trans (L.trans (M.trans (N.trans (O.trans Q))))));have R:c4≠c:=zs n4;have ax:P c4=some (.cells [int 0,int 0,int 0,.lit (.slice none 0 0),int 0,int 0]):=by rw[o.2 c4 R,ab.ai]
 have S:v≠c:=λe=>by subst e;obtain⟨_,_,_,q⟩:=Q.1;simp_all
 have A:v≠c4:=λe=>by simp_all
 have ay:σ v=none:=by rw[o.2 v S,ab.ah _ _ A]at h5;exact h5
 have aC:0<=F/\F<=40:=by simp at a9;omega
 have aE:0<=co/\co<=1:=by simp at ad;omega
 have aL:14<=G/\G<=16:=by simp at al;omega
 have aO:0<=sh/\sh<=2:=by simp at av;omega
 have b0:0<=pl/\pl<max fq 1:=by omega
 refine aa.loop 3 (λj s=>∃env σ' a mk,s=⟨env,σ',[],.no⟩/\env 0=.ref c 0/\env 4=.ref c4 0/\env 5=.ref v 0/\env 6=int j/\bg c nums (k+8+j) σ'/\σ' c4=some (.cells [int 0,int 0,int 0,.lit (.slice none 0 0),int 0,int 0])/\σ' v=some (.cells [int F,int pl,int co,a,int G,int sh])/\Tok (σ.del c) σ' a 1 (mk.map int)/\mk.Sublist ((List.range j).map λi:Nat=>(i:Int))) ⟨_,_,.lit (.slice none 0 0),[],rfl,by simp,by simp,by simp,by simp,?_,?_,?_,?_,by simp⟩ ?_
 . obtain⟨n,z,h1,h2⟩:=o.1
   exact⟨n,z,by omega,by rw[ab.ah _ _ (zs S)];exact h2⟩
 . rw[ab.ah _ _ (zs A)];exact ax
 . simp
 . refine⟨λy x r=>?_,.inl ⟨rfl,rfl⟩⟩
   have H:y≠c:=λe=>by subst e;simp[ab.del]at r
   have y0:σ y=some x:=by simpa[ab.del,H]using r
   have y5:y≠v:=λe=>by simp_all
   have y4:y≠c4:=λe=>by simp_all
   rw[ab.ah _ _ y5,o.2 y H,ab.ah _ _ y4];exact y0
 rintro c0 j _ hj ⟨env,σ',a,mk,rfl,e0,e4,T,U,B,q4,q5,p,C⟩ ih
 have bB:mk.length<=j:=by grind
 rcases aaA j 3 with g1|g1
 . have b1:(j:Int)<3:=by omega
   apply rn;simp[e0,U,b1];refine cf Tryz.func33 rfl (yS (by omega) t ⟨by omega,by omega⟩ B λx f hd=>?_)
   have b2:∃l,σ' c=some (.cells l):=by obtain⟨_,_,_,q⟩:=B;grind
   have b:Tok (σ.del c) f a 1 (mk.map int):=tF p (by simp[ab.del]) b2 hd.2
   have V:=b.cells;have s4:f c4=some (.cells [int 0,int 0,int 0,.lit (.slice none 0 0),int 0,int 0]):=by rw[hd.2 c4 R];exact q4
   have s5:f v=some (.cells [int F,int pl,int co,a,int G,int sh]):=by rw[hd.2 v S];exact q5
   have X:(List.range (j+1)).map (λi:Nat=>(i:Int))=(List.range j).map (λi:Nat=>(i:Int))++[(j:Int)]:=by rw[aaB,aaq];rfl
   have f1:-9223372036854775808<=(j:Int)+1/\(j:Int)+1<=9223372036854775807:=by omega
   apply rn;simp;cases x with
   | false=>
     simp[U,f1.1,f1.2];refine ih _ g1 ⟨_,_,a,mk,rfl,by simp[e0],by simp[e4],by simp[T],by simp,hd.1,s4,s5,b,?_⟩
     rw[X];exact C.trans (List.sublist_append_left _ _)
   | true=>
     simp[T,U,s5];refine aN lay rfl rfl rfl cK rfl cK rfl pQ (by decide) (by simp;omega) (σ0:=f.off a) (es:=mk.map int) (xs:=[int j]) (by simpa using b.here.1) (.inr ⟨_,rfl⟩) λa' w D=>?_
     have Y:=D.cells;have b3:∀y l,f y=some (.cells l)->bt a≠some y:=λy l r e=>by obtain⟨_,_,q⟩:=b.aV e;grind
     have k3:∀y l,f y=some (.cells l)->w y=some (.cells l):=λy l r=>D.1 _ _ (by rw[ab.dF (b3 y l r)];exact r)
     have t5:=k3 _ _ s5;have t4:=k3 _ _ s4;apply rn;simp[T,U,f1.1,f1.2,t5,Y.1,Y.2,aI];obtain⟨nb,zb,u,E⟩:=hd.1;have tc:=k3 _ _ E
     have Z:Tok (σ.del c) w a' 1 ((mk++[(j:Int)]).map int):=by have:=D.base b.here.2;simpa using this
     refine ih _ g1 ⟨_,_,a',mk++[(j:Int)],rfl,by simp[e0],by simp[e4],by simp[T],by simp,⟨nb,zb,u,by rw[ab.ah _ _ (zs S)];exact tc⟩,by rw[ab.ah _ _ (zs A)];exact t4,ab.ai _ _ _,Z.beside (by simp[ab.del,S,ay]) (λe=>by obtain⟨_,_,q⟩:=Z.aV e;grind),?_⟩
     rw[X];exact C.append (adJ _)
 have:j=3:=by omega
 subst this;have V:=p.cells;apply rn;simp[e4,T,U,q4,q5,V.2,aI];obtain⟨nb,zb,u,E⟩:=B;have a7:mk.Sublist [0,1,2]:=C;refine .px (a':=bj ⟨F,pl,co,mk,G,sh⟩) (nY rfl λi x y d g=>?_) (.less (σ':=σ.set c (.cells [ints nums,int nb,.lit (.int .u64 zb)])) (λy x r=>?_) (.done (h ⟨F,pl,co,mk,G,sh⟩ _ ⟨aC,b0,aE,a7,aL,aO⟩ ⟨⟨nb,zb,by omega,ab.ai _ _ _⟩,λy r=>ab.ah _ _ r⟩)))
 . match i with
   |0=>simp at d g;subst d;subst g;exact .refl _
   |1=>simp at d g;subst d;subst g;exact .refl _
   |2=>simp at d g;subst d;subst g;exact .refl _
   |3=>simp at d g;subst d;subst g;exact p.W
   |4=>simp at d g;subst d;subst g;exact .refl _
   |5=>simp at d g;subst d;subst g;exact .refl _
   |i+6=>simp at d
 by_cases H:y=c
 . subst H
   rw[ab.ai]at r;rw[ab.ah _ _ n4,E];exact r
 rw[ab.ah _ _ H]at r;have y4:y≠c4:=λe=>by grind
 rw[ab.ah _ _ y4];exact p.1 y x (by simpa[ab.del,H]using r)
theorem rH{fq}(b:k+11<1000000)(d:nums.length<1152921504606846976)(a:1<=fq/\fq<=1000)(hb:bg c nums k σ)(h:∀  e  σ',Bh fq e->qZ c nums (k+11) σ σ'->KF (.val (bj e)) σ'):aB prog m 61 [.ref c 0,int fq] σ KF:=G4 b d ⟨by omega,a.2⟩ hb λe σ' f hd=>h e σ' (by grind) hd
end
structure yT  n   lo  (r:aeJ):Prop where
 len:r.length=n
 row:∀l∈r,l.length=n
 diag:∀i,i<n->rd r i i=0
 sym:∀i j,i<n->j<n->rd r i j=rd r j i
 off:∀i j,i<n->j<n->i≠j->lo<=rd r i j/\rd r i j<=2*lo
structure xm  cnt  (f:Fr):Prop where
 cJ:1<=f.cJ/\f.cJ<=4
 aX:f.aX=1\/f.aX=2\/f.aX=3\/f.aX=6
 fq:1<=f.roads.length/\f.roads.length<=3
 Js:∃lo ,(0<=lo/\lo<=4)/\yT f.roads.length lo f.roads
 fr:0<=f.aU/\f.aU<=2
 to:f.aU<=f.dD/\f.dD<=2
 len:(f.az.length:Int)<=cnt
 r7:∀e∈f.az,Bh f.roads.length e
theorem yT.err{n lo r}(h:yT n lo r)(v:1<=n/\n<=3)(s:0<=lo/\lo<=4):fT r=0:=by
 have t:=h.len
 have hb:∀i j,i<n->j<n->0<=rd r i j/\rd r i j<=9:=λi j a b=>by
  by_cases e:i=j
  . subst e;rw[h.diag i a];omega
  have:=h.off i j a b e;omega
 have f:∀l∈r,jU n l=0:=λl g=>by
  have w:=h.row l g
  have y:l.all (bz · 0 9)=true:=by
   rw[aau];intro x m;obtain⟨i,a,rfl⟩:=aaV.1 g;obtain⟨j,b,rfl⟩:=aaV.1 m;have:=hb i j (by omega) (by omega);have e:rd r i j=r[i][j]:=by simp[rd,zD,a,b]
   rw[e]at this;simp[bz,this.1,this.2]
  unfold jU
  simp_all
 have d:∀l:aeJ,(∀x∈l,x∈r)->gk n l=0:=λl=>by
  induction l with
  |nil=>intro _;rfl
  | cons x l z=>
    intro m;unfold gk
    simp_all
 have u:((List.range n).any λi=>(List.range n).any λj=>cD r i j)=false:=by
  rw[adj];intro i a;rw[Bool.not_eq_true,adj];intro j b;have a:=zH.1 a;have b:=zH.1 b;unfold cD;rw[h.diag i a,h.sym i j a b,t]
  have A:((List.range n).any λk=>decide (rd r j i>rd r i k+rd r k j))=false:=by
   rw[adj];intro k c;have c:=zH.1 c;have B:=hb i k a c;have C:=hb k j c b;simp only[zR,Int.not_lt,gt_iff_lt];by_cases o:i=j
   . subst o;rw[h.diag i a];omega
   by_cases p:i=k
   . subst p;rw[h.diag i a,h.sym i j a b];omega
   by_cases q:k=j
   . subst q;rw[h.diag k c,h.sym i k a c];omega
   have D:=h.off j i b a (zs o);have E:=h.off i k a c p;have F:=h.off k j c b q;omega
  simp_all
 unfold fT
 grind
theorem QG{M i k n}(hi:i<M.length)(a:k<(M.getD i []).length)  x y :rd (M.set i ((M.getD i []).set k n)) x y=if x=i/\y=k then n else rd M x y:=by
 unfold rd
 grind
def B1(M:aeJ)(i k:Nat)(n:Int):aeJ:=(M.set i ((M.getD i []).set k n)).set k ((M.getD k []).set i n)
structure Kt  n   lo   i k  (M:aeJ):Prop where
 len:M.length=n
 row:∀j,j<n->(M.getD j []).length=n
 diag:∀x,x<n->rd M x x=0
 sym:∀x y,x<n->y<n->rd M x y=rd M y x
 off:∀x y,y<x->x<n->(x<i\/(x=i/\y<k))->lo<=rd M x y/\rd M x y<=2*lo
theorem C7{M i k v}(hi:i<M.length)(b:k<M.length)(a:k≠i)  j :(B1 M i k v).getD j []=if j=k then(M.getD k []).set i v else if j=i then(M.getD i []).set k v else M.getD j []:=by
 unfold B1
 grind
theorem Ta{n lo i k a b M v}(h:Kt n lo a b M)(hi:i<n)(c:k<n)(d:k≠i)  x y :rd (B1 M i k v) x y=if(x=i/\y=k)\/(x=k/\y=i)then v else rd M x y:=by
 have f:=h.len
 have e:rd (B1 M i k v) x y=if x=k/\y=i then v else rd (M.set i ((M.getD i []).set k v)) x y:=by
  have q:M.getD k []=(M.set i ((M.getD i []).set k v)).getD k []:=by grind
  unfold B1;rw[q];exact QG (by grind) (by rw[<-q];rw[h.row k c];exact hi) x y
 rw[e,QG (by omega) (by rw[h.row i hi];exact c)];omega
theorem Kt.next{n lo i k M v}(h:Kt n lo i k M)(hi:i<n)(l:k<i)(m:lo<=v/\v<=2*lo):Kt n lo i (k+1) (B1 M i k v):=by
 have e:=h.len;have a:=Ta (v:=v) h hi (show k<n by omega) (by omega);refine⟨by simp[B1,e],λj f=>?_,λx b=>?_,λx y b g=>?_,λx y d b hd=>?_⟩
 . rw[C7 (by omega) (by omega) (by omega)]
   split
   . rw[ada];exact h.row k (by omega)
   split
   . rw[ada];exact h.row i hi
   exact h.row j f
 . rw[a,KD (by omega)];exact h.diag x b
 . rw[a,a]
   by_cases c:(x=i/\y=k)\/(x=k/\y=i)
   . grind
   rw[KD c,KD (λq=>c (q.elim (λq=>.inr ⟨q.2,q.1⟩) (λq=>.inl ⟨q.2,q.1⟩)))];exact h.sym x y b g
 rw[a];by_cases c:(x=i/\y=k)\/(x=k/\y=i)
 . omega
 rw[KD c];refine h.off x y d b ?_;omega
theorem Kt.line{n lo i M}(h:Kt n lo i i M):Kt n lo (i+1) 0 M:=⟨h.len,h.row,h.diag,h.sym,λx y a b hd=>h.off x y a b (by omega)⟩
theorem Kt.fin{n lo M}(h:Kt n lo n 0 M):yT n lo M:=by
 have e:=h.len;refine⟨h.len,λl c=>?_,h.diag,h.sym,λi j a b d=>?_⟩
 . obtain⟨i,a,rfl⟩:=aaV.1 c
   have:=h.row i (by omega)
   grind
 rcases aaA j i with q|q
 . exact h.off i j q a (.inl a)
 rw[h.sym i j a b];exact h.off j i (by omega) b (.inl b)
theorem Kt.start  n   lo :Kt n lo 0 0 (List.replicate n (List.replicate n 0)):=by
 have a:∀x y,rd (List.replicate n (List.replicate n 0)) x y=0:=λx y=>by
  unfold rd
  grind
 refine⟨by simp,λj b=>by simp_all,λx _=>a x x,λx y _ _=>by rw[a,a],λx y _ _ h=>by omega⟩
theorem rI{g}:∀{l},(∀e∈l,g e=0)->fy g l=0
 |[],_=>rfl
 | a::l,h=>by
   unfold fy;rw[Rp (h a (by simp))];exact rI λe b=>h e (by simp[b])
theorem xm.check{aX:Int}{f:Fr}(h:xm aX f)(j:aX<=6):check f=0:=by
 obtain⟨lo,a,b⟩:=h.Js;have c:=b.err h.fq a;have k:=h.fr;have l:=h.to;have m:=h.cJ;have n:=h.aX;have o:=h.len
 have d:(bz f.aU 0 3 && bz f.dD 0 3)=true:=by simp[bz];omega
 have g:(bz f.cJ 1 6 && bz f.aX 1 6)=true:=by simp[bz];omega
 unfold Go.Proofs.YtebcbkhnlnkolaaGreatDoor.check;rw[c,KD (by simp),d,KD (by simp),KD (by omega),g,KD (by simp),KD (by omega)]
 exact rI λe i=>(h.r7 e i).check
theorem xm.fits{aX f}(h:xm aX f)(g:aX<=1000):f.Fits:=by
 obtain⟨lo,a,b⟩:=h.Js;have:=h.len;have i:=h.fq;refine⟨by omega,by omega,λl c=>?_,λe d=>?_⟩
 . have:=b.row l c;omega
 have:=(nC (h.r7 e d).marks).2;omega
